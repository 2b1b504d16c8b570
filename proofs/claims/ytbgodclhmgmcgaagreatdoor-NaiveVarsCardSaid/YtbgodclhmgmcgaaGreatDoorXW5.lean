import Derived.Test.YtbgodclhmgmcgaaGreatDoorXW4
namespace Go.Proofs.YtbgodclhmgmcgaaGreatDoor
open Go.RowKit
set_option maxRecDepth 100000
set_option maxHeartbeats 4000000
theorem Q3i (N:Nat)(a0:Int)  (r_:(Unit⊕(Unit⊕(Unit⊕(Unit⊕(Unit⊕(Unit⊕(Unit⊕(Unit⊕(Unit⊕Unit))))))))))(hm:Q3f N a0=some r_):Q1d Tryz.prog 118 [.int .u8 a0] [] [] (fun v Φr Hr=>match r_ with | .inl ()=>v=.func (.func 148) #[] #[]∧Φr=[]∧Hr=[] | .inr (.inl ())=>v=.func (.func 149) #[] #[]∧Φr=[]∧Hr=[] | .inr (.inr (.inl ()))=>v=.func (.func 150) #[] #[]∧Φr=[]∧Hr=[] | .inr (.inr (.inr (.inl ())))=>v=.func (.func 151) #[] #[]∧Φr=[]∧Hr=[] | .inr (.inr (.inr (.inr (.inl ()))))=>∃ (o0:Nat),v=.func (.func 152) #[] #[.pointer (some ⟨o0,0,none⟩)]∧Φr=[]∧Hr=[.blk o0 [.func (.func 147) #[] #[]] 220] | .inr (.inr (.inr (.inr (.inr (.inl ())))))=>∃ (o0:Nat),v=.func (.func 153) #[] #[.pointer (some ⟨o0,0,none⟩)]∧Φr=[]∧Hr=[.blk o0 [.func (.func 147) #[] #[]] 220] | .inr (.inr (.inr (.inr (.inr (.inr (.inl ()))))))=>∃ (o0:Nat),v=.func (.func 154) #[] #[.pointer (some ⟨o0,0,none⟩)]∧Φr=[]∧Hr=[.blk o0 [.func (.func 147) #[] #[]] 220] | .inr (.inr (.inr (.inr (.inr (.inr (.inr (.inl ())))))))=>∃ (o0:Nat),v=.func (.func 155) #[] #[.pointer (some ⟨o0,0,none⟩)]∧Φr=[]∧Hr=[.blk o0 [.func (.func 147) #[] #[]] 220] | .inr (.inr (.inr (.inr (.inr (.inr (.inr (.inr (.inl ()))))))))=>∃ (o0:Nat),v=.func (.func 156) #[] #[.pointer (some ⟨o0,0,none⟩)]∧Φr=[]∧Hr=[.blk o0 [.func (.func 147) #[] #[]] 220] | .inr (.inr (.inr (.inr (.inr (.inr (.inr (.inr (.inr ()))))))))=>v=.nilFunc∧Φr=[]∧Hr=[]):=by
 unfold Q3f at hm
 refine QI Tryz.func118 Z Tryz.ntmps118 Z (S:=[_]) Z (fun C=>(Q5 (Q1 (wP Z (Q4 (Q3 (Q2 [0] (S':=[_]) Z (Q5 (Q1 (Q13 Z Z Z Zq Z tZ_220 Z (fun h=>(wS 0 0 Z tS_220 (all':=[_]) Z (H':=[_]) Z (Q4 (Q3 (Q5 ?_)))))))))))))))
 refine Q1 (wl_makeMapE (Q78 (Q4A tI_62)) false Q6Q Z Z Z Zq Z (fun g4=>(Q4u (i:=1) (u:=.func (.func 148) #[] #[]) (cs:=[.func (.func 148) #[] #[]]) 0 Z Z (.inr Z) Z Z Z Z Q5U trivial Z (fun F w hφ=>⟨Z,Z⟩) (H':=[mapE (Q78 (Q4A tI_62)) false Q6Q g4 ([(1,.func (.func 148) #[] #[])]),.blk h [.func (.func 147) #[] #[]] 220]) Z (Q4u (i:=2) (u:=.func (.func 149) #[] #[]) (cs:=[.func (.func 149) #[] #[]]) 0 Z Z (.inr Z) Z Z Z Z Q5U trivial Z (fun F w hφ=>⟨Z,Z⟩) (H':=[mapE (Q78 (Q4A tI_62)) false Q6Q g4 ([(1,.func (.func 148) #[] #[]),(2,.func (.func 149) #[] #[])]),.blk h [.func (.func 147) #[] #[]] 220]) Z (Q4u (i:=3) (u:=.func (.func 150) #[] #[]) (cs:=[.func (.func 150) #[] #[]]) 0 Z Z (.inr Z) Z Z Z Z Q5U trivial Z (fun F w hφ=>⟨Z,Z⟩) (H':=[mapE (Q78 (Q4A tI_62)) false Q6Q g4 ([(1,.func (.func 148) #[] #[]),(2,.func (.func 149) #[] #[]),(3,.func (.func 150) #[] #[])]),.blk h [.func (.func 147) #[] #[]] 220]) Z (Q4u (i:=4) (u:=.func (.func 151) #[] #[]) (cs:=[.func (.func 151) #[] #[]]) 0 Z Z (.inr Z) Z Z Z Z Q5U trivial Z (fun F w hφ=>⟨Z,Z⟩) (H':=[mapE (Q78 (Q4A tI_62)) false Q6Q g4 ([(1,.func (.func 148) #[] #[]),(2,.func (.func 149) #[] #[]),(3,.func (.func 150) #[] #[]),(4,.func (.func 151) #[] #[])]),.blk h [.func (.func 147) #[] #[]] 220]) Z (Q33 Z Z Z Zq Z Z (Q4u (i:=7) (u:=.func (.func 152) #[] #[.pointer (some ⟨h,0,none⟩)]) (cs:=[.func (.func 152) #[] #[.pointer (some ⟨h,0,none⟩)]]) 0 Z Z (.inr Z) Z Z Z Z Q5U trivial Z (fun F w hφ=>⟨Z,Z⟩) (H':=[mapE (Q78 (Q4A tI_62)) false Q6Q g4 ([(1,.func (.func 148) #[] #[]),(2,.func (.func 149) #[] #[]),(3,.func (.func 150) #[] #[]),(4,.func (.func 151) #[] #[]),(7,.func (.func 152) #[] #[.pointer (some ⟨h,0,none⟩)])]),.blk h [.func (.func 147) #[] #[]] 220]) Z (Q33 Z Z Z Zq Z Z (Q4u (i:=8) (u:=.func (.func 153) #[] #[.pointer (some ⟨h,0,none⟩)]) (cs:=[.func (.func 153) #[] #[.pointer (some ⟨h,0,none⟩)]]) 0 Z Z (.inr Z) Z Z Z Z Q5U trivial Z (fun F w hφ=>⟨Z,Z⟩) (H':=[mapE (Q78 (Q4A tI_62)) false Q6Q g4 ([(1,.func (.func 148) #[] #[]),(2,.func (.func 149) #[] #[]),(3,.func (.func 150) #[] #[]),(4,.func (.func 151) #[] #[]),(7,.func (.func 152) #[] #[.pointer (some ⟨h,0,none⟩)]),(8,.func (.func 153) #[] #[.pointer (some ⟨h,0,none⟩)])]),.blk h [.func (.func 147) #[] #[]] 220]) Z (Q33 Z Z Z Zq Z Z (Q4u (i:=9) (u:=.func (.func 154) #[] #[.pointer (some ⟨h,0,none⟩)]) (cs:=[.func (.func 154) #[] #[.pointer (some ⟨h,0,none⟩)]]) 0 Z Z (.inr Z) Z Z Z Z Q5U trivial Z (fun F w hφ=>⟨Z,Z⟩) (H':=[mapE (Q78 (Q4A tI_62)) false Q6Q g4 ([(1,.func (.func 148) #[] #[]),(2,.func (.func 149) #[] #[]),(3,.func (.func 150) #[] #[]),(4,.func (.func 151) #[] #[]),(7,.func (.func 152) #[] #[.pointer (some ⟨h,0,none⟩)]),(8,.func (.func 153) #[] #[.pointer (some ⟨h,0,none⟩)]),(9,.func (.func 154) #[] #[.pointer (some ⟨h,0,none⟩)])]),.blk h [.func (.func 147) #[] #[]] 220]) Z (Q33 Z Z Z Zq Z Z (Q4u (i:=10) (u:=.func (.func 155) #[] #[.pointer (some ⟨h,0,none⟩)]) (cs:=[.func (.func 155) #[] #[.pointer (some ⟨h,0,none⟩)]]) 0 Z Z (.inr Z) Z Z Z Z Q5U trivial Z (fun F w hφ=>⟨Z,Z⟩) (H':=[mapE (Q78 (Q4A tI_62)) false Q6Q g4 ([(1,.func (.func 148) #[] #[]),(2,.func (.func 149) #[] #[]),(3,.func (.func 150) #[] #[]),(4,.func (.func 151) #[] #[]),(7,.func (.func 152) #[] #[.pointer (some ⟨h,0,none⟩)]),(8,.func (.func 153) #[] #[.pointer (some ⟨h,0,none⟩)]),(9,.func (.func 154) #[] #[.pointer (some ⟨h,0,none⟩)]),(10,.func (.func 155) #[] #[.pointer (some ⟨h,0,none⟩)])]),.blk h [.func (.func 147) #[] #[]] 220]) Z ?_))))))))))))))
 refine Q33 Z Z Z Zq Z Z (Q4u (i:=11) (u:=.func (.func 156) #[] #[.pointer (some ⟨h,0,none⟩)]) (cs:=[.func (.func 156) #[] #[.pointer (some ⟨h,0,none⟩)]]) 0 Z Z (.inr Z) Z Z Z Z Q5U trivial Z (fun F w hφ=>⟨Z,Z⟩) (H':=[mapE (Q78 (Q4A tI_62)) false Q6Q g4 ([(1,.func (.func 148) #[] #[]),(2,.func (.func 149) #[] #[]),(3,.func (.func 150) #[] #[]),(4,.func (.func 151) #[] #[]),(7,.func (.func 152) #[] #[.pointer (some ⟨h,0,none⟩)]),(8,.func (.func 153) #[] #[.pointer (some ⟨h,0,none⟩)]),(9,.func (.func 154) #[] #[.pointer (some ⟨h,0,none⟩)]),(10,.func (.func 155) #[] #[.pointer (some ⟨h,0,none⟩)]),(11,.func (.func 156) #[] #[.pointer (some ⟨h,0,none⟩)])]),.blk h [.func (.func 147) #[] #[]] 220]) Z (wP Z (wP Z ?_)))
 rcases Q14 hm with ⟨s,hm⟩ | ⟨s,hm⟩
 refine Q3J (i:=a0) (a:=(.func (.func 148) #[] #[])) Q3h 0 Z Z Z Zq Z Z Z Z Q5U trivial (by rw [eq_of_beq s];rfl) (u:=fun _=>.func (.func 148) #[] #[]) (fun _=>Z) (v:=fun _=>.func (.func 148) #[] #[]) (fun _=>Z) (fun _ _=>(wP Z (Q4 (Q3 (Q2 [2] (S':=[_]) Z (Qk ?_))))))
 have hE:=(Zi hm).symm
 subst hE
 dsimp only
 refine Qq (Hr:=[]) [] Tryz.results118 (Qb Z) ⟨Z,Z,Z⟩ (asK [] Z) Z Z (.inl Z)
 rcases Q14 hm with ⟨y,hm⟩ | ⟨y,hm⟩
 refine Q3J (i:=a0) (a:=(.func (.func 149) #[] #[])) Q3h 0 Z Z Z Zq Z Z Z Z Q5U trivial (by rw [eq_of_beq y];rfl) (u:=fun _=>.func (.func 149) #[] #[]) (fun _=>Z) (v:=fun _=>.func (.func 149) #[] #[]) (fun _=>Z) (fun _ _=>(wP Z (Q4 (Q3 (Q2 [2] (S':=[_]) Z (Qk ?_))))))
 have hE:=(Zi hm).symm
 subst hE
 dsimp only
 refine Qq (Hr:=[]) [] Tryz.results118 (Qb Z) ⟨Z,Z,Z⟩ (asK [] Z) Z Z (.inl Z)
 rcases Q14 hm with ⟨z,hm⟩ | ⟨z,hm⟩
 refine Q3J (i:=a0) (a:=(.func (.func 150) #[] #[])) Q3h 0 Z Z Z Zq Z Z Z Z Q5U trivial (by rw [eq_of_beq z];rfl) (u:=fun _=>.func (.func 150) #[] #[]) (fun _=>Z) (v:=fun _=>.func (.func 150) #[] #[]) (fun _=>Z) (fun _ _=>(wP Z (Q4 (Q3 (Q2 [2] (S':=[_]) Z (Qk ?_))))))
 have hE:=(Zi hm).symm
 subst hE
 dsimp only
 refine Qq (Hr:=[]) [] Tryz.results118 (Qb Z) ⟨Z,Z,Z⟩ (asK [] Z) Z Z (.inl Z)
 rcases Q14 hm with ⟨a1,hm⟩ | ⟨a1,hm⟩
 refine Q3J (i:=a0) (a:=(.func (.func 151) #[] #[])) Q3h 0 Z Z Z Zq Z Z Z Z Q5U trivial (by rw [eq_of_beq a1];rfl) (u:=fun _=>.func (.func 151) #[] #[]) (fun _=>Z) (v:=fun _=>.func (.func 151) #[] #[]) (fun _=>Z) (fun _ _=>(wP Z (Q4 (Q3 (Q2 [2] (S':=[_]) Z (Qk ?_))))))
 have hE:=(Zi hm).symm
 subst hE
 dsimp only
 refine Qq (Hr:=[]) [] Tryz.results118 (Qb Z) ⟨Z,Z,Z⟩ (asK [] Z) Z Z (.inl Z)
 rcases Q14 hm with ⟨a2,hm⟩ | ⟨a2,hm⟩
 refine Q3J (i:=a0) (a:=(.func (.func 152) #[] #[.pointer (some ⟨h,0,none⟩)])) Q3h 0 Z Z Z Zq Z Z Z Z Q5U trivial (by rw [eq_of_beq a2];rfl) (u:=fun _=>.func (.func 152) #[] #[.pointer (some ⟨h,0,none⟩)]) (fun _=>Z) (v:=fun _=>.func (.func 152) #[] #[.pointer (some ⟨h,0,none⟩)]) (fun _=>Z) (fun _ _=>(wP Z (Q4 (Q3 (Q2 [2] (S':=[_]) Z (Qk ?_))))))
 have hE:=(Zi hm).symm
 subst hE
 dsimp only
 refine Qq (Hr:=[_]) [1] Tryz.results118 (Qb Z) ⟨h,Z,Z,Z⟩ (asK [] Z) Z Z (.inl Z)
 rcases Q14 hm with ⟨a3,hm⟩ | ⟨a3,hm⟩
 refine Q3J (i:=a0) (a:=(.func (.func 153) #[] #[.pointer (some ⟨h,0,none⟩)])) Q3h 0 Z Z Z Zq Z Z Z Z Q5U trivial (by rw [eq_of_beq a3];rfl) (u:=fun _=>.func (.func 153) #[] #[.pointer (some ⟨h,0,none⟩)]) (fun _=>Z) (v:=fun _=>.func (.func 153) #[] #[.pointer (some ⟨h,0,none⟩)]) (fun _=>Z) (fun _ _=>(wP Z (Q4 (Q3 (Q2 [2] (S':=[_]) Z (Qk ?_))))))
 have hE:=(Zi hm).symm
 subst hE
 dsimp only
 refine Qq (Hr:=[_]) [1] Tryz.results118 (Qb Z) ⟨h,Z,Z,Z⟩ (asK [] Z) Z Z (.inl Z)
 rcases Q14 hm with ⟨a4,hm⟩ | ⟨a4,hm⟩
 refine Q3J (i:=a0) (a:=(.func (.func 154) #[] #[.pointer (some ⟨h,0,none⟩)])) Q3h 0 Z Z Z Zq Z Z Z Z Q5U trivial (by rw [eq_of_beq a4];rfl) (u:=fun _=>.func (.func 154) #[] #[.pointer (some ⟨h,0,none⟩)]) (fun _=>Z) (v:=fun _=>.func (.func 154) #[] #[.pointer (some ⟨h,0,none⟩)]) (fun _=>Z) (fun _ _=>(wP Z (Q4 (Q3 (Q2 [2] (S':=[_]) Z (Qk ?_))))))
 have hE:=(Zi hm).symm
 subst hE
 dsimp only
 refine Qq (Hr:=[_]) [1] Tryz.results118 (Qb Z) ⟨h,Z,Z,Z⟩ (asK [] Z) Z Z (.inl Z)
 rcases Q14 hm with ⟨a5,hm⟩ | ⟨a5,hm⟩
 refine Q3J (i:=a0) (a:=(.func (.func 155) #[] #[.pointer (some ⟨h,0,none⟩)])) Q3h 0 Z Z Z Zq Z Z Z Z Q5U trivial (by rw [eq_of_beq a5];rfl) (u:=fun _=>.func (.func 155) #[] #[.pointer (some ⟨h,0,none⟩)]) (fun _=>Z) (v:=fun _=>.func (.func 155) #[] #[.pointer (some ⟨h,0,none⟩)]) (fun _=>Z) (fun _ _=>(wP Z (Q4 (Q3 (Q2 [2] (S':=[_]) Z (Qk ?_))))))
 have hE:=(Zi hm).symm
 subst hE
 dsimp only
 refine Qq (Hr:=[_]) [1] Tryz.results118 (Qb Z) ⟨h,Z,Z,Z⟩ (asK [] Z) Z Z (.inl Z)
 rcases Q14 hm with ⟨a6,hm⟩ | ⟨a6,hm⟩
 refine Q3J (i:=a0) (a:=(.func (.func 156) #[] #[.pointer (some ⟨h,0,none⟩)])) Q3h 0 Z Z Z Zq Z Z Z Z Q5U trivial (by rw [eq_of_beq a6];rfl) (u:=fun _=>.func (.func 156) #[] #[.pointer (some ⟨h,0,none⟩)]) (fun _=>Z) (v:=fun _=>.func (.func 156) #[] #[.pointer (some ⟨h,0,none⟩)]) (fun _=>Z) (fun _ _=>(wP Z (Q4 (Q3 (Q2 [2] (S':=[_]) Z (Qk ?_))))))
 have hE:=(Zi hm).symm
 subst hE
 dsimp only
 refine Qq (Hr:=[_]) [1] Tryz.results118 (Qb Z) ⟨h,Z,Z,Z⟩ (asK [] Z) Z Z (.inl Z)
 refine wl_lookNoE (i:=a0) 0 Z Z Z Zq Z Z Z Z tZ_183 Q5U trivial (by simp [Q8T,(ne_of_beq_false s).symm,(ne_of_beq_false y).symm,(ne_of_beq_false z).symm,(ne_of_beq_false a1).symm,(ne_of_beq_false a2).symm,(ne_of_beq_false a3).symm,(ne_of_beq_false a4).symm,(ne_of_beq_false a5).symm,(ne_of_beq_false a6).symm]) (v:=.nilFunc) Z (wP Z (Q4 (Q3 (Q2 [2] (S':=[_]) Z (Qk ?_)))))
 have hE:=(Zi hm).symm
 subst hE
 dsimp only
 refine Qq (Hr:=[]) [] Tryz.results118 (Qb Z) ⟨Z,Z,Z⟩ (asK [] Z) Z Z (.inl Z)
theorem w_value_does_s0 (N:Nat)(a0:Int)  (hm:Q3f N a0=some (.inl ())):Q1d Tryz.prog 118 [.int .u8 a0] [] [] (fun v Φr Hr=>v=.func (.func 148) #[] #[]∧Φr=[]∧Hr=[]):=Q3i N a0 _ hm
theorem w_value_does_s1 (N:Nat)(a0:Int)  (hm:Q3f N a0=some (.inr (.inl ()))):Q1d Tryz.prog 118 [.int .u8 a0] [] [] (fun v Φr Hr=>v=.func (.func 149) #[] #[]∧Φr=[]∧Hr=[]):=Q3i N a0 _ hm
theorem w_value_does_s2 (N:Nat)(a0:Int)  (hm:Q3f N a0=some (.inr (.inr (.inl ())))):Q1d Tryz.prog 118 [.int .u8 a0] [] [] (fun v Φr Hr=>v=.func (.func 150) #[] #[]∧Φr=[]∧Hr=[]):=Q3i N a0 _ hm
theorem w_value_does_s3 (N:Nat)(a0:Int)  (hm:Q3f N a0=some (.inr (.inr (.inr (.inl ()))))):Q1d Tryz.prog 118 [.int .u8 a0] [] [] (fun v Φr Hr=>v=.func (.func 151) #[] #[]∧Φr=[]∧Hr=[]):=Q3i N a0 _ hm
theorem w_value_does_s4 (N:Nat)(a0:Int)  (hm:Q3f N a0=some (.inr (.inr (.inr (.inr (.inl ())))))):Q1d Tryz.prog 118 [.int .u8 a0] [] [] (fun v Φr Hr=>∃ (o0:Nat),v=.func (.func 152) #[] #[.pointer (some ⟨o0,0,none⟩)]∧Φr=[]∧Hr=[.blk o0 [.func (.func 147) #[] #[]] 220]):=Q3i N a0 _ hm
theorem w_value_does_s5 (N:Nat)(a0:Int)  (hm:Q3f N a0=some (.inr (.inr (.inr (.inr (.inr (.inl ()))))))):Q1d Tryz.prog 118 [.int .u8 a0] [] [] (fun v Φr Hr=>∃ (o0:Nat),v=.func (.func 153) #[] #[.pointer (some ⟨o0,0,none⟩)]∧Φr=[]∧Hr=[.blk o0 [.func (.func 147) #[] #[]] 220]):=Q3i N a0 _ hm
theorem w_value_does_s6 (N:Nat)(a0:Int)  (hm:Q3f N a0=some (.inr (.inr (.inr (.inr (.inr (.inr (.inl ())))))))):Q1d Tryz.prog 118 [.int .u8 a0] [] [] (fun v Φr Hr=>∃ (o0:Nat),v=.func (.func 154) #[] #[.pointer (some ⟨o0,0,none⟩)]∧Φr=[]∧Hr=[.blk o0 [.func (.func 147) #[] #[]] 220]):=Q3i N a0 _ hm
theorem w_value_does_s7 (N:Nat)(a0:Int)  (hm:Q3f N a0=some (.inr (.inr (.inr (.inr (.inr (.inr (.inr (.inl ()))))))))):Q1d Tryz.prog 118 [.int .u8 a0] [] [] (fun v Φr Hr=>∃ (o0:Nat),v=.func (.func 155) #[] #[.pointer (some ⟨o0,0,none⟩)]∧Φr=[]∧Hr=[.blk o0 [.func (.func 147) #[] #[]] 220]):=Q3i N a0 _ hm
theorem w_value_does_s8 (N:Nat)(a0:Int)  (hm:Q3f N a0=some (.inr (.inr (.inr (.inr (.inr (.inr (.inr (.inr (.inl ())))))))))):Q1d Tryz.prog 118 [.int .u8 a0] [] [] (fun v Φr Hr=>∃ (o0:Nat),v=.func (.func 156) #[] #[.pointer (some ⟨o0,0,none⟩)]∧Φr=[]∧Hr=[.blk o0 [.func (.func 147) #[] #[]] 220]):=Q3i N a0 _ hm
theorem w_value_does_2_s (N:Nat)(a0:Int)(a1:Int)  (hm:Q8n N a0 a1=some ()):Q1d Tryz.prog 148 [.int .i64 a0,.int .i64 a1] [] [] (fun v Φr Hr=>v=.tuple #[.int .i64 (IntKind.wrap .i64 (a0+a1)),.bool ((decide ((IntKind.wrap .i64 (a0+a1)) < a0))==(decide (a1 < 0)))]∧Φr=[]∧Hr=[]):=by
 unfold Q8n at hm
 refine QI Tryz.func148 Z Tryz.ntmps148 Z (S:=[_,_]) Z (fun C=>(Q5 (Q1 (wP Z (wP Z (Q4 (Q3 (Q2 [0,1] (S':=[_,_]) Z (Q5 (Q1 (wP Z (wP Z (wP Z (wP Z ?_))))))))))))))
 refine wP Z (wP Z (wP Z (wP Z (wP Z (wP Z (Q65 Z Z Z Zq Z Z Z (eqlB _ _ (decide ((IntKind.wrap .i64 (a0+a1)) < a0)) (decide (a1 < 0))) (wP Z (wP Z (Q4 (Q3 (Q2 [5,4] (S':=[_,_]) Z (Qk ?_))))))))))))
 have hE:=(Zi hm).symm
 refine QH (Hr:=[]) [] Tryz.results148 (Qb Z) (Qb Z) ⟨Z,Z,Z⟩ (asK [] Z) Z Z (.inl Z)
theorem w_value_does_3_s (N:Nat)(a0:Int)(a1:Int)  (hm:Q8o N a0 a1=some ()):Q1d Tryz.prog 149 [.int .i64 a0,.int .i64 a1] [] [] (fun v Φr Hr=>v=.tuple #[.int .i64 (IntKind.wrap .i64 (a0 - a1)),.bool ((decide ((IntKind.wrap .i64 (a0 - a1)) > a0))==(decide (a1 < 0)))]∧Φr=[]∧Hr=[]):=by
 unfold Q8o at hm
 refine QI Tryz.func149 Z Tryz.ntmps149 Z (S:=[_,_]) Z (fun C=>(Q5 (Q1 (wP Z (wP Z (Q4 (Q3 (Q2 [0,1] (S':=[_,_]) Z (Q5 (Q1 (wP Z (wP Z (wP Z (wP Z ?_))))))))))))))
 refine wP Z (wP Z (wP Z (wP Z (wP Z (wP Z (Q65 Z Z Z Zq Z Z Z (eqlB _ _ (decide ((IntKind.wrap .i64 (a0 - a1)) > a0)) (decide (a1 < 0))) (wP Z (wP Z (Q4 (Q3 (Q2 [5,4] (S':=[_,_]) Z (Qk ?_))))))))))))
 have hE:=(Zi hm).symm
 refine QH (Hr:=[]) [] Tryz.results149 (Qb Z) (Qb Z) ⟨Z,Z,Z⟩ (asK [] Z) Z Z (.inl Z)
theorem w_value_product_s (N:Nat)(a0:Int)(a1:Int)(o0:Int)(o1:Bool)(hm:Q4t N a0 a1=some (o0,o1)):Q1d Tryz.prog 150 [.int .i64 a0,.int .i64 a1] [] [] (fun v Φr Hr=>v=.tuple #[.int .i64 o0,.bool o1]∧Φr=[]∧Hr=[]):=by
 unfold Q4t at hm
 refine QI Tryz.func150 Z Tryz.ntmps150 Z (S:=[_,_]) Z (fun C=>(Q5 (Q1 (wP Z (wP Z (Q4 (Q3 (Q2 [0,1] (S':=[_,_]) Z (Q5 (Q1 (wP Z (Q3E Z Z Z Zq (rk_conv Z Z tI_2 tI_246) (wP Z (Q3E Z Z Z Zq (rk_conv Z Z tI_2 tI_246) ?_))))))))))))))
 refine wP Z (wP Z (Q4 (Q3 (Q2 [7,6,0,1] (S':=V4 ..) Z (Q5 ?_)))))
 obtain ⟨a9,hm,hLj_1⟩:=Q7 hm
 refine QF (σ:=Int) (fun h=>a9=h) (fun h=>[(7,.int .u64 (IntKind.wrap .u64 a1)),(6,.int .u64 h),(0,.int .i64 a0),(1,.int .i64 a1)]) (fun h=>[]) (fun h=>[]) ?_ ?_
 refine Q5 (Q1 (wP Z (wP Z (Q4 (Q3 (Q2 [15,7,6,0,1] (S':=V5 ..) Z ?_))))))
 refine Qm Z (fun y=>?_) (fun y=>?_)
 replace hm:=Qw hm y
 refine Q2 [7,6,0,1] (S':=V4 ..) Z (Q1 (wP Z (Q3E Z Z Z Zq (rk_neg Z Z) (QS (S':=V5 ..) Z Z Z Z Z (Q4 ?_)))))
 have hE:=(Zi hm).symm
 refine Qd (IntKind.wrap .u64 (0 - (IntKind.wrap .u64 a0))) hE [7,6,0,1] Z (asK [] Z) Z
 replace hm:=Qv hm y
 refine Q2 [7,6,0,1] (S':=V4 ..) Z (Qt ?_)
 have hE:=(Zi hm).symm
 refine Qd (IntKind.wrap .u64 a0) hE [7,6,0,1] Z (asK [] Z) Z
 rintro h hE
 try dsimp only
 have hm:=hLj_1
 try rw [hE] at hm
 refine Q5 ?_
 obtain ⟨aA,hm,hLj_2⟩:=Q7 hm
 refine QF (σ:=Int) (fun s=>aA=s) (fun s=>[(7,.int .u64 s),(6,.int .u64 h),(0,.int .i64 a0),(1,.int .i64 a1)]) (fun s=>[]) (fun s=>[]) ?_ ?_
 refine Q5 (Q1 (wP Z (wP Z (Q4 (Q3 (Q2 [19,7,6,0,1] (S':=V5 ..) Z ?_))))))
 refine Qm Z (fun z=>?_) (fun z=>?_)
 replace hm:=Qw hm z
 refine Q2 [7,6,0,1] (S':=V4 ..) Z (Q1 (wP Z (Q3E Z Z Z Zq (rk_neg Z Z) (QS (S':=V5 ..) Z Z Z Z Z (Q4 ?_)))))
 have hE:=(Zi hm).symm
 refine Qd (IntKind.wrap .u64 (0 - (IntKind.wrap .u64 a1))) hE [7,6,0,1] Z (asK [] Z) Z
 replace hm:=Qv hm z
 refine Q2 [7,6,0,1] (S':=V4 ..) Z (Qt ?_)
 have hE:=(Zi hm).symm
 refine Qd (IntKind.wrap .u64 a1) hE [7,6,0,1] Z (asK [] Z) Z
 rintro s hE
 try dsimp only
 have hm:=hLj_2
 try rw [hE] at hm
 refine Q5 (Q1 (wP Z (wP Z ?_)))
 obtain ⟨a5,hm⟩:=Qz hm
 obtain ⟨a6,hm⟩:=Qz hm
 refine wC [] [] Z fn_195 Z (sh_Mul64 h s a5 a6) (asK [] Z) Z (H':=[]) Z ?_
 rintro _ _ _ ⟨rfl,rfl,rfl⟩
 refine wP Z (wP Z (wP Z (wP Z (wP Z (Q4 (Q3 (Q2 [9,8,0,1] (S':=V4 ..) Z (Q5 (Q5 (Q1 (wP Z (wP Z (wP Z ?_)))))))))))))
 refine wP Z (Q65 Z Z Z Zq Z Z Z (neqB _ _ (decide (a0 < 0)) (decide (a1 < 0))) (Q4 (Q3 (Q2 [32,9,8] (S':=V3 ..) Z ?_))))
 refine Qm Z (fun a2=>?_) (fun a2=>?_)
 replace hm:=Qw hm a2
 refine Q2 [9,8] (S':=[_,_]) Z (Q5 (Q1 (wP Z (Q3E Z Z Z Zq (rk_neg Z Z) (Q3E Z Z Z Zq (rk_conv Z Z tI_246 tI_2) (wP Z (wP Z (wP Z ?_))))))))
 refine Qr (d:=38) (S':=V7 ..) Z Z (fun a3=>?_) (fun a3=>?_)
 replace hm:=Qw hm a3
 refine wP Z (wP Z (wP Z (wP Z (wP Z (Q4 (Q3 (Q2 [5,4] (S':=[_,_]) Z (Qk (Q8 ?_)))))))))
 have hE:=(Zi hm).symm
 obtain ⟨hE0,hE1⟩:=Prod.mk.inj hE
 clear hE
 replace hE0:=hE0.symm
 subst hE0
 replace hE1:=hE1.symm
 subst hE1
 refine QH (Hr:=[]) [] Tryz.results150 (Qb Z) (Qb Z) ⟨Z,Z,Z⟩ (asK [] Z) Z Z (.inl Z)
 replace hm:=Qv hm a3
 refine wO Z (wO Z (wP Z (wP Z (wP Z (Q4 (Q3 (Q2 [5,4] (S':=[_,_]) Z (Qk (Q8 ?_)))))))))
 have hE:=(Zi hm).symm
 obtain ⟨hE0,hE1⟩:=Prod.mk.inj hE
 clear hE
 replace hE0:=hE0.symm
 subst hE0
 replace hE1:=hE1.symm
 subst hE1
 refine QH (Hr:=[]) [] Tryz.results150 (Qb Z) (Qb Z) ⟨Z,Z,Z⟩ (asK [] Z) Z Z (.inl Z)
 replace hm:=Qv hm a2
 refine Q2 [9,8] (S':=[_,_]) Z (Qt (Q3 (Q5 (Q1 (wP Z (Q3E Z Z Z Zq (rk_conv Z Z tI_246 tI_2) (wP Z (wP Z (wP Z ?_)))))))))
 refine Qr (d:=46) (S':=V6 ..) Z Z (fun a4=>?_) (fun a4=>?_)
 replace hm:=Qw hm a4
 refine wP Z (wP Z (wP Z (wP Z (wP Z (Q4 (Q3 (Q2 [5,4] (S':=[_,_]) Z (Qk ?_))))))))
 have hE:=(Zi hm).symm
 obtain ⟨hE0,hE1⟩:=Prod.mk.inj hE
 clear hE
 replace hE0:=hE0.symm
 subst hE0
 replace hE1:=hE1.symm
 subst hE1
 refine QH (Hr:=[]) [] Tryz.results150 (Qb Z) (Qb Z) ⟨Z,Z,Z⟩ (asK [] Z) Z Z (.inl Z)
 replace hm:=Qv hm a4
 refine wO Z (wO Z (wP Z (wP Z (wP Z (Q4 (Q3 (Q2 [5,4] (S':=[_,_]) Z (Qk ?_))))))))
 have hE:=(Zi hm).symm
 obtain ⟨hE0,hE1⟩:=Prod.mk.inj hE
 clear hE
 replace hE0:=hE0.symm
 subst hE0
 replace hE1:=hE1.symm
 subst hE1
 refine QH (Hr:=[]) [] Tryz.results150 (Qb Z) (Qb Z) ⟨Z,Z,Z⟩ (asK [] Z) Z Z (.inl Z)
theorem w_value_does_4_s (N:Nat)(a0:Int)(a1:Int)  (hm:Q8p N a0 a1=some ()):Q1d Tryz.prog 151 [.int .i64 a0,.int .i64 a1] [] [] (fun v Φr Hr=>v=.tuple #[.int .i64 (IntKind.wrap .i64 (0 - a0)),.bool (a0 !=-9223372036854775808)]∧Φr=[]∧Hr=[]):=by
 unfold Q8p at hm
 refine QI Tryz.func151 Z Tryz.ntmps151 Z (S:=[_,_]) Z (fun C=>(Q5 (Q1 (wP Z (wP Z (Q4 (Q3 (Q2 [0] (S':=[_]) Z (Q5 (Q1 (wP Z (Q3E Z Z Z Zq (rk_neg Z Z) (wP Z (wP Z ?_))))))))))))))
 refine wP Z (wP Z (Q4 (Q3 (Q2 [5,4] (S':=[_,_]) Z (Qk ?_)))))
 have hE:=(Zi hm).symm
 refine QH (Hr:=[]) [] Tryz.results151 (Qb Z) (Qb Z) ⟨Z,Z,Z⟩ (asK [] Z) Z Z (.inl Z)
theorem Q3Z (N:Nat)(a0:Bool)(o0:Int)(hm:Q1A N a0=some o0):Q1d Tryz.prog 147 [.bool a0] [] [] (fun v Φr Hr=>v=.tuple #[.int .i64 o0,.bool true]∧Φr=[]∧Hr=[]):=by
 unfold Q1A at hm
 refine QI Tryz.func147 Z Tryz.ntmps147 Z (S:=[_]) Z (fun C=>(Q5 (Q1 (wP Z (wP Z (Q4 (Q3 (Q2 [0] (S':=[_]) Z (Q5 (Q1 (wP Z ?_)))))))))))
 obtain ⟨v5,hc5,hm⟩:=Q7 hm
 refine wC [] [] Z fn_117 Z (Q84 N a0 _ hc5) (asK [] Z) Z (H':=[]) Z ?_
 rintro _ _ _ ⟨rfl,rfl,rfl⟩
 refine Q3E Z Z Z Zq (rk_field Z Z tFT_57_1 Q6n Q6p (v:=.int .i64 v5) Z) (wP Z (wP Z (Q4 (Q3 (Q2 [3,2] (S':=[_,_]) Z (Qk ?_))))))
 have hE:=(Zi hm).symm
 replace hE:=hE.symm
 subst hE
 refine QH (Hr:=[]) [] Tryz.results147 (Qb Z) (Qb Z) ⟨Z,Z,Z⟩ (asK [] Z) Z Z (.inl Z)
theorem w_value_does_5_s (N:Nat)(a0:Int)(a1:Int)(qg0:Nat)(o0:Int)(hm:Q7b N a0 a1=some o0):Q1d Tryz.prog 152 [.int .i64 a0,.int .i64 a1,.pointer (some ⟨qg0,0,none⟩)] [] [.blk qg0 [.func (.func 147) #[] #[]] 220] (fun v Φr Hr=>v=.tuple #[.int .i64 o0,.bool true]∧Φr=[]∧Hr=[.blk qg0 [.func (.func 147) #[] #[]] 220]):=by
 unfold Q7b at hm
 refine QI Tryz.func152 Z Tryz.ntmps152 Z (S:=V3 ..) Z (fun C=>(Q5 (Q1 (wP Z (wP Z (Q4 (Q3 (Q2 [0,1,2] (S':=V3 ..) Z (Q5 (Q1 (wD 0 0 Z tS_220 tA_220 Z (wP Z (wP Z (wP Z ?_))))))))))))))
 obtain ⟨v11,hc11,hm⟩:=Q7 hm
 refine Q1p [] [0] Z Z Z Zq Z Z Z fn_147 Z Z (Q3Z N (decide (a0 < a1)) _ hc11) (asK [] Z) Z (H':=[_]) Z ?_
 rintro _ _ _ ⟨rfl,rfl,rfl⟩
 refine wP Z (wP Z (wP Z (wP Z (Q4 (Q3 (Q2 [6,5] (S':=[_,_]) Z (Qk ?_)))))))
 have hE:=(Zi hm).symm
 replace hE:=hE.symm
 subst hE
 refine QH (Hr:=[_]) [0] Tryz.results152 (Qb Z) (Qb Z) ⟨Z,Z,Z⟩ (asK [] Z) Z Z (.inl Z)
theorem w_value_does_6_s (N:Nat)(a0:Int)(a1:Int)(qg0:Nat)(o0:Int)(hm:Q7c N a0 a1=some o0):Q1d Tryz.prog 153 [.int .i64 a0,.int .i64 a1,.pointer (some ⟨qg0,0,none⟩)] [] [.blk qg0 [.func (.func 147) #[] #[]] 220] (fun v Φr Hr=>v=.tuple #[.int .i64 o0,.bool true]∧Φr=[]∧Hr=[.blk qg0 [.func (.func 147) #[] #[]] 220]):=by
 unfold Q7c at hm
 refine QI Tryz.func153 Z Tryz.ntmps153 Z (S:=V3 ..) Z (fun C=>(Q5 (Q1 (wP Z (wP Z (Q4 (Q3 (Q2 [0,1,2] (S':=V3 ..) Z (Q5 (Q1 (wD 0 0 Z tS_220 tA_220 Z (wP Z (wP Z (wP Z ?_))))))))))))))
 obtain ⟨v11,hc11,hm⟩:=Q7 hm
 refine Q1p [] [0] Z Z Z Zq Z Z Z fn_147 Z Z (Q3Z N (decide (a0≤a1)) _ hc11) (asK [] Z) Z (H':=[_]) Z ?_
 rintro _ _ _ ⟨rfl,rfl,rfl⟩
 refine wP Z (wP Z (wP Z (wP Z (Q4 (Q3 (Q2 [6,5] (S':=[_,_]) Z (Qk ?_)))))))
 have hE:=(Zi hm).symm
 replace hE:=hE.symm
 subst hE
 refine QH (Hr:=[_]) [0] Tryz.results153 (Qb Z) (Qb Z) ⟨Z,Z,Z⟩ (asK [] Z) Z Z (.inl Z)
theorem w_value_does_7_s (N:Nat)(a0:Int)(a1:Int)(qg0:Nat)(o0:Int)(hm:Q7d N a0 a1=some o0):Q1d Tryz.prog 154 [.int .i64 a0,.int .i64 a1,.pointer (some ⟨qg0,0,none⟩)] [] [.blk qg0 [.func (.func 147) #[] #[]] 220] (fun v Φr Hr=>v=.tuple #[.int .i64 o0,.bool true]∧Φr=[]∧Hr=[.blk qg0 [.func (.func 147) #[] #[]] 220]):=by
 unfold Q7d at hm
 refine QI Tryz.func154 Z Tryz.ntmps154 Z (S:=V3 ..) Z (fun C=>(Q5 (Q1 (wP Z (wP Z (Q4 (Q3 (Q2 [0,1,2] (S':=V3 ..) Z (Q5 (Q1 (wD 0 0 Z tS_220 tA_220 Z (wP Z (wP Z (wP Z ?_))))))))))))))
 refine Qr (d:=10) (S':=V6 ..) Z Z (fun hs10=>?_) (fun hs10=>?_)
 replace hm:=Qw hm hs10
 refine wP Z (wP Z (wP Z ?_))
 obtain ⟨v14,hc14,hm⟩:=Q7 hm
 refine Q1p [] [0] Z Z Z Zq Z Z Z fn_147 Z Z (Q3Z N (a1 !=0) _ hc14) (asK [] Z) Z (H':=[_]) Z ?_
 rintro _ _ _ ⟨rfl,rfl,rfl⟩
 refine wP Z (wP Z (wP Z (wP Z (Q4 (Q3 (Q2 [6,5] (S':=[_,_]) Z (Qk ?_)))))))
 have hE:=(Zi hm).symm
 replace hE:=hE.symm
 subst hE
 refine QH (Hr:=[_]) [0] Tryz.results154 (Qb Z) (Qb Z) ⟨Z,Z,Z⟩ (asK [] Z) Z Z (.inl Z)
 replace hm:=Qv hm hs10
 refine wO Z (wO Z (wP Z ?_))
 obtain ⟨v14,hc14,hm⟩:=Q7 hm
 refine Q1p [] [0] Z Z Z Zq Z Z Z fn_147 Z Z (Q3Z N false _ hc14) (asK [] Z) Z (H':=[_]) Z ?_
 rintro _ _ _ ⟨rfl,rfl,rfl⟩
 refine wP Z (wP Z (wP Z (wP Z (Q4 (Q3 (Q2 [6,5] (S':=[_,_]) Z (Qk ?_)))))))
 have hE:=(Zi hm).symm
 replace hE:=hE.symm
 subst hE
 refine QH (Hr:=[_]) [0] Tryz.results154 (Qb Z) (Qb Z) ⟨Z,Z,Z⟩ (asK [] Z) Z Z (.inl Z)
theorem w_value_does_8_s (N:Nat)(a0:Int)(a1:Int)(qg0:Nat)(o0:Int)(hm:Q7e N a0 a1=some o0):Q1d Tryz.prog 155 [.int .i64 a0,.int .i64 a1,.pointer (some ⟨qg0,0,none⟩)] [] [.blk qg0 [.func (.func 147) #[] #[]] 220] (fun v Φr Hr=>v=.tuple #[.int .i64 o0,.bool true]∧Φr=[]∧Hr=[.blk qg0 [.func (.func 147) #[] #[]] 220]):=by
 unfold Q7e at hm
 refine QI Tryz.func155 Z Tryz.ntmps155 Z (S:=V3 ..) Z (fun C=>(Q5 (Q1 (wP Z (wP Z (Q4 (Q3 (Q2 [0,1,2] (S':=V3 ..) Z (Q5 (Q1 (wD 0 0 Z tS_220 tA_220 Z (wP Z (wP Z (wP Z ?_))))))))))))))
 refine Qr (d:=10) (S':=V6 ..) Z Z (fun hs10=>?_) (fun hs10=>?_)
 replace hm:=Qw hm hs10
 refine wO Z (wO Z (wP Z ?_))
 obtain ⟨v14,hc14,hm⟩:=Q7 hm
 refine Q1p [] [0] Z Z Z Zq Z Z Z fn_147 Z Z (Q3Z N true _ hc14) (asK [] Z) Z (H':=[_]) Z ?_
 rintro _ _ _ ⟨rfl,rfl,rfl⟩
 refine wP Z (wP Z (wP Z (wP Z (Q4 (Q3 (Q2 [6,5] (S':=[_,_]) Z (Qk ?_)))))))
 have hE:=(Zi hm).symm
 replace hE:=hE.symm
 subst hE
 refine QH (Hr:=[_]) [0] Tryz.results155 (Qb Z) (Qb Z) ⟨Z,Z,Z⟩ (asK [] Z) Z Z (.inl Z)
 replace hm:=Qv hm hs10
 refine wP Z (wP Z (wP Z ?_))
 obtain ⟨v14,hc14,hm⟩:=Q7 hm
 refine Q1p [] [0] Z Z Z Zq Z Z Z fn_147 Z Z (Q3Z N (a1 !=0) _ hc14) (asK [] Z) Z (H':=[_]) Z ?_
 rintro _ _ _ ⟨rfl,rfl,rfl⟩
 refine wP Z (wP Z (wP Z (wP Z (Q4 (Q3 (Q2 [6,5] (S':=[_,_]) Z (Qk ?_)))))))
 have hE:=(Zi hm).symm
 replace hE:=hE.symm
 subst hE
 refine QH (Hr:=[_]) [0] Tryz.results155 (Qb Z) (Qb Z) ⟨Z,Z,Z⟩ (asK [] Z) Z Z (.inl Z)
theorem w_value_does_9_s (N:Nat)(a0:Int)(a1:Int)(qg0:Nat)(o0:Int)(hm:Q7f N a0 a1=some o0):Q1d Tryz.prog 156 [.int .i64 a0,.int .i64 a1,.pointer (some ⟨qg0,0,none⟩)] [] [.blk qg0 [.func (.func 147) #[] #[]] 220] (fun v Φr Hr=>v=.tuple #[.int .i64 o0,.bool true]∧Φr=[]∧Hr=[.blk qg0 [.func (.func 147) #[] #[]] 220]):=by
 unfold Q7f at hm
 refine QI Tryz.func156 Z Tryz.ntmps156 Z (S:=V3 ..) Z (fun C=>(Q5 (Q1 (wP Z (wP Z (Q4 (Q3 (Q2 [0,2] (S':=[_,_]) Z (Q5 (Q1 (wD 0 0 Z tS_220 tA_220 Z (wP Z (wP Z ?_)))))))))))))
 obtain ⟨v10,hc10,hm⟩:=Q7 hm
 refine Q1p [] [0] Z Z Z Zq Z Z Z fn_147 Z Z (Q3Z N (a0==0) _ hc10) (asK [] Z) Z (H':=[_]) Z ?_
 rintro _ _ _ ⟨rfl,rfl,rfl⟩
 refine wP Z (wP Z (wP Z (wP Z (Q4 (Q3 (Q2 [6,5] (S':=[_,_]) Z (Qk ?_)))))))
 have hE:=(Zi hm).symm
 replace hE:=hE.symm
 subst hE
 refine QH (Hr:=[_]) [0] Tryz.results156 (Qb Z) (Qb Z) ⟨Z,Z,Z⟩ (asK [] Z) Z Z (.inl Z)
theorem w_value_Do_s (N:Nat)(a0:Int)(aA:OA)(aB:Nat)(l1:List V)(o0:Nat)(o1:Int)(o2:Nat)(hm:Q2Y N a0 l1=some (o0,o1,o2)):Q1d Tryz.prog 84 [.int .u8 a0,.slice aA l1.length aB] [.sli 3 R_V aA aB l1] [] (fun v Φr Hr=>v=.tuple #[.agg #[.int .u8 ((o0:Nat):Int),.int .i64 o1,.string ((⟨#[]⟩ : ByteArray))],.int .i64 ((o2:Nat):Int)]∧Φr=[]∧Hr=[]):=by
 unfold Q2Y at hm
 refine QI Tryz.func84 Z Tryz.ntmps84 Z (S:=[_,_]) Z (fun C=>(Q5 (Q1 (Q13 Z Z Z Zq Z Q1Q Z (fun g4=>(wP Z (Q4 (Q3 (Q2 [4,0,1] (S':=V3 ..) Z (Q5 (Q1 (wP Z (Q4 (Q3 (Q5 ?_)))))))))))))))
 obtain ⟨b3,hm,hLj_1⟩:=Q7 hm
 unfold Q63 at hm
 refine QF (σ:=Nat) (fun h=>b3=h) (fun h=>[(4,.pointer (some ⟨g4,0,none⟩)),(0,.int .u8 a0),(1,.slice aA l1.length aB),(6,.int .i64 ((h:Nat):Int))]) (fun h=>[.sli 3 R_V aA aB l1]) (fun h=>[.blk g4 [.int .u8 0,.int .i64 0,.string ((⟨#[]⟩ : ByteArray))] 57]) ?_ ?_
 refine Q5 ?_
 obtain ⟨b4,hm,hLj_2⟩:=Q7 hm
 refine QF (σ:=Bool) (fun a7=>b4=a7) (fun a7=>[(4,.pointer (some ⟨g4,0,none⟩)),(0,.int .u8 a0),(1,.slice aA l1.length aB),(6,.int .i64 2),(19,.bool a7)]) (fun a7=>[.sli 3 R_V aA aB l1]) (fun a7=>[.blk g4 [.int .u8 0,.int .i64 0,.string ((⟨#[]⟩ : ByteArray))] 57]) ?_ ?_
 refine Q1 (wP Z (wP Z (wP Z ?_)))
 refine Qr (d:=16) (S':=V6 ..) Z Z (fun aL=>?_) (fun aL=>?_)
 replace hm:=Qw hm aL
 refine wO Z (wO Z (wP Z (Q4 ?_)))
 have hE:=(Zi hm).symm
 refine Qd true hE [4,0,1,6,19] Z (asK [0] Z) Z
 replace hm:=Qv hm aL
 refine wP Z (wP Z (wP Z (Q4 ?_)))
 have hE:=(Zi hm).symm
 refine Qd (a0==11) hE [4,0,1,6,19] Z (asK [0] Z) Z
 rintro a7 hE
 try dsimp only
 have hm:=hLj_2
 try rw [hE] at hm
 refine Qm Z (fun aM=>?_) (fun aM=>?_)
 replace hm:=Qw hm aM
 refine Q2 [4,0,1] (S':=V3 ..) Z (Q1 (wP Z (Q4 ?_)))
 have hE:=(Zi hm).symm
 refine Qd 1 hE [4,0,1,6] Z (asK [0] Z) Z
 replace hm:=Qv hm aM
 refine Q2 [4,0,1,6] (S':=V4 ..) Z (Qt ?_)
 have hE:=(Zi hm).symm
 refine Qd 2 hE [4,0,1,6] Z (asK [0] Z) Z
 rintro h hE
 try dsimp only
 have hm:=hLj_1
 try rw [hE] at hm
 refine Q5 (Q5 ?_)
 obtain ⟨b5,hm,hLj_3⟩:=Q7 hm
 refine QF (σ:=Bool) (fun a8=>b5=a8) (fun a8=>[(4,.pointer (some ⟨g4,0,none⟩)),(0,.int .u8 a0),(1,.slice aA l1.length aB),(6,.int .i64 ((h:Nat):Int)),(31,.bool a8)]) (fun a8=>[.sli 3 R_V aA aB l1]) (fun a8=>[.blk g4 [.int .u8 0,.int .i64 0,.string ((⟨#[]⟩ : ByteArray))] 57]) ?_ ?_
 refine Q1 (wP Z (wP Z (wP Z ?_)))
 refine Qr (d:=22) (S':=V6 ..) Z Z (fun aN=>?_) (fun aN=>?_)
 replace hm:=Qw hm aN
 refine wO Z (wO Z (wP Z (wP Z (wO Z (wO Z (wO Z (wO Z (wP Z (Q4 ?_)))))))))
 have hE:=(Zi hm).symm
 refine Qd true hE [4,0,1,6,31] Z (asK [0] Z) Z
 replace hm:=Qv hm aN
 refine wP Z (wP Z (wP Z (wP Z ?_)))
 refine Qr (d:=26) (S':=V10 ..) Z Z (fun aO=>?_) (fun aO=>?_)
 replace hm:=Qw hm aO
 refine wO Z (wO Z (wO Z (wO Z (wP Z (Q4 ?_)))))
 have hE:=(Zi hm).symm
 refine Qd true hE [4,0,1,6,31] Z (asK [0] Z) Z
 replace hm:=Qv hm aO
 refine wP Z (wN Z Q29 (wP Z (wP Z (QD (d:=30) (v':=.bool (l1.length !=h)) (S':=V14 ..) Z Z (natne (a:=l1.length) (b:=h)) (wP Z (Q4 ?_))))))
 have hE:=(Zi hm).symm
 refine Qd (l1.length !=h) hE [4,0,1,6,31] Z (asK [0] Z) Z
 rintro a8 hE
 try dsimp only
 have hm:=hLj_3
 try rw [hE] at hm
 refine Qm Z (fun aP=>?_) (fun aP=>?_)
 replace hm:=Qw hm aP
 refine Q2 [4] (S':=[_]) Z (Q5 (Q1 (Q1F Z Z Z Zq Z Q1Q Q69 Z (out:=V3 ..) Z (wS 0 0 Z QB (all':=V3 ..) Z (H':=[_]) Z (wP Z (Q4 (Q3 (Q2 [5,4] (S':=[_,_]) Z (Qk (Q8 ?_))))))))))
 have hE:=(Zi hm).symm
 obtain ⟨hE0,hF1⟩:=Prod.mk.inj hE
 obtain ⟨hE1,hE2⟩:=Prod.mk.inj hF1
 clear hE hF1
 replace hE0:=hE0.symm
 subst hE0
 replace hE1:=hE1.symm
 subst hE1
 replace hE2:=hE2.symm
 subst hE2
 refine QH (Hr:=[]) [] Tryz.results84 (Q1e 0 Z Z QB Q1b Z Z) (Qb Z) ⟨Z,Z,Z⟩ (asK [] Z) Z Z (.inl Z)
 replace hm:=Qv hm aP
 refine Q2 [4,0,1,6] (S':=V4 ..) Z (Qt (Q3 (Q5 (Q1 (wP Z (Q4 (Q3 (Q5 ?_))))))))
 obtain ⟨aY,hm,hLj_4⟩:=QN hm
 refine QF (σ:=Bool) (fun aC=>aY=.inl aC) (fun aC=>[(4,.pointer (some ⟨g4,0,none⟩)),(0,.int .u8 a0),(1,.slice aA l1.length aB),(6,.int .i64 ((h:Nat):Int)),(7,.bool aC)]) (fun aC=>[.sli 3 R_V aA aB l1]) (fun aC=>[.blk g4 [.int .u8 0,.int .i64 0,.string ((⟨#[]⟩ : ByteArray))] 57]) ?_ ?_
 refine Q5 (Q1 (wP Z (wN Z Q29 (wP Z (Q4 (Q3 (Qx (Q1o (σ:=Nat×Nat×Bool) (fun (aK,y,aF)=>Q19 (Q1M N l1) aK (y,aF)=some aY) (fun (aK,y,aF)=>aK) (fun (aK,y,aF)=>[(35,.int .i64 ((y:Nat):Int)),(34,.int .i64 ((l1.length:Nat):Int)),(33,.slice aA l1.length aB),(7,.bool aF),(4,.pointer (some ⟨g4,0,none⟩)),(0,.int .u8 a0),(1,.slice aA l1.length aB),(6,.int .i64 ((h:Nat):Int))]) (fun (aK,y,aF)=>[.sli 3 R_V aA aB l1]) (fun (aK,y,aF)=>[.blk g4 [.int .u8 0,.int .i64 0,.string ((⟨#[]⟩ : ByteArray))] 57]) (N,0,false) hm [35,34,33,7,4,0,1,6] Z (asK [0] Z) Z (fun s_ hm=>?_)))))))))
 obtain ⟨aK,y,aF⟩:=s_
 try dsimp only at hm ⊢
 obtain ⟨bV,bW,b6,hq,hLu1⟩:=Q10 hm
 clear hm
 subst b6
 replace hm:=hq
 clear hq
 unfold Q1M at hm
 try dsimp only at hm
 refine Q5 (Q1 (wP Z (QD (d:=36) (v':=.bool (decide (y < l1.length))) (S':=V8 ..) Z Z (Q2E (a:=y) (b:=l1.length)) (Q4 (Q3 (Q5 ?_))))))
 refine Qm Z (fun aQ=>?_) (fun aQ=>?_)
 replace hm:=Qw hm aQ
 refine Q2 [35,34,33,7,4,0,1,6] (S':=V8 ..) Z (Qt (Q3 (Q5 ?_)))
 obtain ⟨b7,hm,hLj_5⟩:=QN hm
 unfold Q4H at hm
 refine QF (σ:=Bool) (fun aD=>b7=.inl aD) (fun aD=>[(35,.int .i64 ((y:Nat):Int)),(34,.int .i64 ((l1.length:Nat):Int)),(33,.slice aA l1.length aB),(7,.bool aD),(4,.pointer (some ⟨g4,0,none⟩)),(0,.int .u8 a0),(1,.slice aA l1.length aB),(6,.int .i64 ((h:Nat):Int))]) (fun aD=>[.sli 3 R_V aA aB l1]) (fun aD=>[.blk g4 [.int .u8 0,.int .i64 0,.string ((⟨#[]⟩ : ByteArray))] 57]) ?_ ?_
 refine Qx (Q5 (Q1 ?_))
 obtain ⟨aX,b8,hm⟩:=Q7 hm
 refine QT 0 y Z Z Z Zq Z Z Z Z Z b8 Q29 QB (fun bX bY bS bM=>(Q1h Q2l 1 Z (fun bZ b9 _=>?_)))
 subst b9
 refine Q1g 0 0 Z Z Z Zq Z Z Z (cs:=V3 ..) Z QB Q1b Z Z (Q13 Z Z Z Zq Z Q1Q Z (fun g9=>(wS 0 0 Z QB (all':=V3 ..) Z (H':=[_,_]) Z (Q4 (Q3 (Q2 [9,35,34,33,7,4,0,1,6] (S':=V9 ..) Z (Q5 (Q5 (Q1 (QM 0 0 Z Z Z Zq Z Z Z (cs:=V3 ..) Z QB Q1b Z Z ?_))))))))))
 obtain ⟨c0,bA,hm⟩:=Q7 hm
 refine wC [] [0,1] Z fn_64 Z (Q56 N aX.k aX.n aX.s _ bA) (asK [] Z) Z (H':=[_,_]) Z ?_
 rintro _ _ _ ⟨rfl,rfl,rfl⟩
 refine wP Z (Q4 (Q3 (Q2 [41,9,35,34,33,7,4,0,1,6] (S':=V10 ..) Z ?_)))
 refine Qm Z (fun aR=>?_) (fun aR=>?_)
 replace hm:=Qw hm aR
 refine Q2 [4] (S':=[_]) Z (Q5 (Q1 (Q1F Z Z Z Zq Z Q1Q Q69 Z (out:=V3 ..) Z (wS 1 0 Z QB (all':=V3 ..) Z (H':=[_,_]) Z (wP Z (Q4 (Q3 (Q2 [5,4] (S':=[_,_]) Z (Qk (Q8 (Qa (Q8 (Q8 ?_)))))))))))))
 refine Qa (Q8 ?_)
 have hE:=(Zi hm).symm
 replace hE:=Qn hLj_5 hE
 replace hE:=Qn hLu1 hE
 replace hE:=Qn hLj_4 hE
 obtain ⟨hE0,hF1⟩:=Prod.mk.inj hE
 obtain ⟨hE1,hE2⟩:=Prod.mk.inj hF1
 clear hE hF1
 replace hE0:=hE0.symm
 subst hE0
 replace hE1:=hE1.symm
 subst hE1
 replace hE2:=hE2.symm
 subst hE2
 refine QH (Hr:=[]) [] Tryz.results84 (Q1e 1 Z Z QB Q1b Z Z) (Qb Z) ⟨Z,Z,Z⟩ (asK [] Z) Z Z (.inl Z)
 replace hm:=Qv hm aR
 refine Q2 [9,35,34,33,7,4,0,1,6] (S':=V9 ..) Z (Qt (Q3 (Q1 (wP Z (wP Z ?_)))))
 refine Qr (d:=44) (S':=V10 ..) Z Z (fun aS=>?_) (fun aS=>?_)
 replace hm:=Qw hm aS
 refine wO Z (wO Z (wO Z (wP Z (QS (S':=V14 ..) Z Z Z Z Z (Q4 (Qf ?_))))))
 have hE:=(Zi hm).symm
 refine Qu [1] Z (H':=[_]) Z ?_
 refine Qd true hE [35,34,33,7,4,0,1,6] Z (asK [2] Z) Z
 replace hm:=Qv hm aS
 refine wF Z Q9T (wD 0 0 Z tS_55 tA_55 Z (wP Z (wP Z (QS (S':=V14 ..) Z Z Z Z Z (Q4 (Qf ?_))))))
 have hE:=(Zi hm).symm
 refine Qu [1] Z (H':=[_]) Z ?_
 refine Qd (aX.k==2) hE [35,34,33,7,4,0,1,6] Z (asK [2] Z) Z
 rintro aD hE
 try dsimp only
 have hm:=QA hLj_5 hE
 refine Q1 (wP Z ?_)
 obtain ⟨bB,hm⟩:=Qz hm
 refine QD (d:=49) (v':=.int .i64 ((y+1:Nat):Int)) (S':=V8 ..) Z Z (Q1f (a:=y) (b:=1) bB) (QS (S':=V8 ..) Z Z Z Z Z (Q4 ?_))
 have hE:=(Zi hm).symm
 replace hE:=QA hLu1 hE
 refine QY (_,y+1,aD) (Nat.lt_succ_self _) hE [35,34,33,7,4,0,1,6] Z (asK [0] Z) Z
 replace hm:=Qv hm aQ
 refine Q2 [7,4,0,1,6] (S':=V5 ..) Z (Q1k (Qo (Qo (QG ?_))))
 have hE:=(Zi hm).symm
 replace hE:=Qn hLu1 hE
 refine Qd aF hE [4,0,1,6,7] Z (asK [0] Z) Z
 rintro aC hE
 try dsimp only
 have hm:=QA hLj_4 hE
 refine Q5 ?_
 obtain ⟨a1,bC,hm⟩:=Q7 hm
 obtain ⟨bD,hm⟩:=Qz hm
 obtain ⟨bE,hm⟩:=Qz hm
 obtain ⟨a2,bF,hm⟩:=Q7 hm
 refine QF (σ:=Nat×Nat) (fun _=>True) (fun (a3,a4)=>[(11,.pointer (some ⟨a3,0,none⟩)),(10,.pointer (some ⟨a4,0,none⟩)),(4,.pointer (some ⟨g4,0,none⟩)),(0,.int .u8 a0),(7,.bool aC)]) (fun (a3,a4)=>[]) (fun (a3,a4)=>[.blk a3 [.int .u8 (a2.k),.int .i64 (a2.n),.string a2.s] 57,.blk a4 [.int .u8 (a1.k),.int .i64 (a1.n),.string a1.s] 57,.blk g4 [.int .u8 0,.int .i64 0,.string ((⟨#[]⟩ : ByteArray))] 57]) ?_ ?_
 refine QR [0,1,2,3,4,5,6,7] Z Z (fun hok=>(xP hok 0 Z (Q1B hok 1 0 0 Z Z Z Zq Z Z Z Z Z Z bC Q29 QB (fun c1 c2 bT bN=>(Q1X Q2l 1 Z (fun c3 bG _=>?_))))))
 subst bG
 refine Q2J hok 2 0 0 Z Z Z Zq Z Z Z Z (cs:=V3 ..) Z QB Q1b Z Z (xP hok 3 Z (xP hok 4 Z (xP hok 5 Z (Q17 (d:=55) (v':=.int .i64 (((h:Nat):Int) - 1)) (S':=V10 ..) Z Z (i64_in bD) (Q1B hok 6 2 ((((h:Nat):Int) - 1).toNat) Z Z Z Zq Z Z Z Z Z (Q1I bE) bF Q29 QB (fun c4 c5 bU bO=>(Q1X Q2l 1 Z (fun c6 bH _=>?_))))))))
 subst bH
 refine Q2J hok 7 0 0 Z Z Z Zq Z Z Z Z (cs:=V3 ..) Z QB Q1b Z Z ?_
 refine Q8H hok 8 9 Z Z Z Z Z Z ?_ ?_
 refine Q13 Z Z Z Zq Z Q1Q Z (fun aZ=>(Q4 (Q12 [0,1,2,3,4] [] Z Z (xS hok 9 Z (Q13 Z Z Z Zq Z Q1Q Z (fun b0=>(Q4 (Q12 [0,1,2,3,4] [] Z Z (xS hok 10 Z (wS 1 0 Z QB (all':=V3 ..) Z (H':=V3 ..) Z (Q4 (Q12 [0,1,2,3,4] [] Z Z (xS hok 11 Z (wS 0 0 Z QB (all':=V3 ..) Z (H':=V3 ..) Z (Q4 ?_)))))))))))))))
 refine Q12 [0,1,2,3,4] [] Z Z (QO hok Z ?_)
 refine Qd (b0,aZ) trivial [11,10,4,0,7] Z (asK [] Z) Z
 refine Q13 Z Z Z Zq Z Q1Q Z (fun b0=>(Q4 (Q12 [0,1,2,3,4] [] Z Z (xS hok 8 Z (Q13 Z Z Z Zq Z Q1Q Z (fun aZ=>(Q4 (Q12 [0,1,2,3,4] [] Z Z (xS hok 10 Z (wS 0 0 Z QB (all':=V3 ..) Z (H':=V3 ..) Z (Q4 (Q12 [0,1,2,3,4] [] Z Z (xS hok 11 Z (wS 1 0 Z QB (all':=V3 ..) Z (H':=V3 ..) Z (Q4 ?_)))))))))))))))
 refine Q12 [0,1,2,3,4] [] Z Z (QO hok Z (Qu [1,0,2] Z (H':=V3 ..) Z ?_))
 refine Qd (b0,aZ) trivial [11,10,4,0,7] Z (asK [] Z) Z
 rintro ⟨a3,a4⟩ _
 try dsimp only
 refine Q5 (Qx (Q5 (Q1 (wP Z (wP Z (wP Z (Q4 (Q3 (Q2 [58,11,10,4,0,7] (S':=V6 ..) Z ?_)))))))))
 refine Qm Z (fun aT=>?_) (fun aT=>?_)
 replace hm:=Qw hm aT
 refine Q2 [11,10,4] (S':=V3 ..) Z (Q5 (Q1 (QM 1 0 Z Z Z Zq Z Z Z (cs:=V3 ..) Z QB Q1b Z Z (QM 0 0 Z Z Z Zq Z Z Z (cs:=V3 ..) Z QB Q1b Z Z (Q65 Z Z Z Zq Z Z Z (eqlV _ _ a1 a2) ?_)))))
 obtain ⟨c7,bI,hm⟩:=Q7 hm
 refine wC [] [0,1,2] Z fn_117 Z (Q84 N (decide (a1=a2)) _ bI) (asK [] Z) Z (H':=V3 ..) Z ?_
 rintro _ _ _ ⟨rfl,rfl,rfl⟩
 refine wS 2 0 Z QB (all':=V3 ..) Z (H':=V3 ..) Z (wP Z (Q4 (Q3 (Q2 [5,4] (S':=[_,_]) Z (Qk (Qa (Q8 ?_)))))))
 have hE:=(Zi hm).symm
 obtain ⟨hE0,hF1⟩:=Prod.mk.inj hE
 obtain ⟨hE1,hE2⟩:=Prod.mk.inj hF1
 clear hE hF1
 replace hE0:=hE0.symm
 subst hE0
 replace hE1:=hE1.symm
 subst hE1
 replace hE2:=hE2.symm
 subst hE2
 refine QH (Hr:=[]) [] Tryz.results84 (Q1e 2 Z Z QB Q1b Z Z) (Qb Z) ⟨Z,Z,Z⟩ (asK [] Z) Z Z (.inl Z)
 replace hm:=Qv hm aT
 refine Q2 [11,10,4,0,7] (S':=V5 ..) Z (Q5 (Q1 (wP Z (wP Z (wP Z (Q4 (Q3 (Q2 [65,11,10,4,0,7] (S':=V6 ..) Z ?_))))))))
 refine Qm Z (fun aU=>?_) (fun aU=>?_)
 replace hm:=Qw hm aU
 refine Q2 [11,10,4] (S':=V3 ..) Z (Q5 (Q1 (QM 1 0 Z Z Z Zq Z Z Z (cs:=V3 ..) Z QB Q1b Z Z (QM 0 0 Z Z Z Zq Z Z Z (cs:=V3 ..) Z QB Q1b Z Z (Q65 Z Z Z Zq Z Z Z (neqV _ _ a1 a2) ?_)))))
 obtain ⟨c8,bJ,hm⟩:=Q7 hm
 refine wC [] [0,1,2] Z fn_117 Z (Q84 N (!decide (a1=a2)) _ bJ) (asK [] Z) Z (H':=V3 ..) Z ?_
 rintro _ _ _ ⟨rfl,rfl,rfl⟩
 refine wS 2 0 Z QB (all':=V3 ..) Z (H':=V3 ..) Z (wP Z (Q4 (Q3 (Q2 [5,4] (S':=[_,_]) Z (Qk (Qa (Q8 ?_)))))))
 have hE:=(Zi hm).symm
 obtain ⟨hE0,hF1⟩:=Prod.mk.inj hE
 obtain ⟨hE1,hE2⟩:=Prod.mk.inj hF1
 clear hE hF1
 replace hE0:=hE0.symm
 subst hE0
 replace hE1:=hE1.symm
 subst hE1
 replace hE2:=hE2.symm
 subst hE2
 refine QH (Hr:=[]) [] Tryz.results84 (Q1e 2 Z Z QB Q1b Z Z) (Qb Z) ⟨Z,Z,Z⟩ (asK [] Z) Z Z (.inl Z)
 replace hm:=Qv hm aU
 refine Q2 [11,10,4,0,7] (S':=V5 ..) Z (Q5 (Q1 (wP Z (wP Z (Q4 (Q3 (Q2 [72,11,10,4,0] (S':=V5 ..) Z ?_)))))))
 refine Qm Z (fun aV=>?_) (fun aV=>?_)
 replace hm:=Qw hm aV
 refine Q2 [4] (S':=[_]) Z (Q5 (Q1 (Q1F Z Z Z Zq Z Q1Q Q69 Z (out:=V3 ..) Z (wS 2 0 Z QB (all':=V3 ..) Z (H':=V3 ..) Z (wP Z (Q4 (Q3 (Q2 [5,4] (S':=[_,_]) Z (Qk (Qa (Q8 ?_)))))))))))
 have hE:=(Zi hm).symm
 obtain ⟨hE0,hF1⟩:=Prod.mk.inj hE
 obtain ⟨hE1,hE2⟩:=Prod.mk.inj hF1
 clear hE hF1
 replace hE0:=hE0.symm
 subst hE0
 replace hE1:=hE1.symm
 subst hE1
 replace hE2:=hE2.symm
 subst hE2
 refine QH (Hr:=[]) [] Tryz.results84 (Q1e 2 Z Z QB Q1b Z Z) (Qb Z) ⟨Z,Z,Z⟩ (asK [] Z) Z Z (.inl Z)
 replace hm:=Qv hm aV
 refine Q2 [11,10,4,0] (S':=V4 ..) Z (Qt (Qf (Q3 (Q5 ?_))))
 obtain ⟨bK,hm,hLj_7⟩:=Q7 hm
 unfold QV at hm
 refine QF (σ:=Int×Bool) (fun (a5,a9)=>bK=(a5,a9)) (fun (a5,a9)=>[(4,.pointer (some ⟨g4,0,none⟩)),(12,.int .i64 a5),(13,.bool a9)]) (fun (a5,a9)=>[]) (fun (a5,a9)=>[.blk g4 [.int .u8 0,.int .i64 0,.string ((⟨#[]⟩ : ByteArray))] 57]) ?_ ?_
 obtain ⟨_ | _ | _ | _ | _ | _ | _ | _ | _ | _,aE,hm⟩:=Q7 hm
 try dsimp only at hm
 obtain ⟨_,z,hm⟩:=Q7 hm
 try dsimp only at hm
 refine QR [0,2,3,4,5,7,8,9] Z Z (fun hok=>(xP hok 0 Z (Q9 hok 2 Z Z Z Zq Z Z Z Q1Z (Ql hok 3 1 1 Z Z Z Zq Z Z Z Z (cs:=[_]) Z Q6p Q6n Z Z (Q9 hok 4 Z Z Z Zq Z Z Z Q1Z (Ql hok 5 0 1 Z Z Z Zq Z Z Z Z (cs:=[_]) Z Q6p Q6n Z Z (xS hok 1 Z (wC [] [0,1,2] Z Q9F Z (w_value_does_s0 N a0 aE) (asK [] Z) Z (H':=V3 ..) Z ?_))))))))
 rintro _ _ _ ⟨rfl,rfl,rfl⟩
 refine Q4 (Q12 [] [0,1] Z Z (xS hok 6 Z (Q1p [] [0,1,2] Z Z Z Zq Z Z Z fn_148 Z Z (w_value_does_2_s N a1.n a2.n z) (asK [] Z) Z (H':=V3 ..) Z ?_)))
 rintro _ _ _ ⟨rfl,rfl,rfl⟩
 refine Q4 (Q12 [] [] Z Z (xP hok 7 Z (xP hok 8 Z (xP hok 9 Z (xS hok 10 Z (wP Z (Q4 (Q12 [] [] Z Z (xS hok 11 Z (wP Z (Q4 (Q12 [] [] Z Z (QO hok Z ?_)))))))))))))
 have hE:=(Zi hm).symm
 refine Qu [2] Z (H':=[_]) Z ?_
 refine Qd (IntKind.wrap .i64 (a1.n+a2.n),(decide ((IntKind.wrap .i64 (a1.n+a2.n)) < a1.n))==(decide (a2.n < 0))) hE [4,12,13] Z (asK [] Z) Z
 try dsimp only at hm
 obtain ⟨_,z,hm⟩:=Q7 hm
 try dsimp only at hm
 refine QR [0,2,3,4,5,7,8,9] Z Z (fun hok=>(xP hok 0 Z (Q9 hok 2 Z Z Z Zq Z Z Z Q1Z (Ql hok 3 1 1 Z Z Z Zq Z Z Z Z (cs:=[_]) Z Q6p Q6n Z Z (Q9 hok 4 Z Z Z Zq Z Z Z Q1Z (Ql hok 5 0 1 Z Z Z Zq Z Z Z Z (cs:=[_]) Z Q6p Q6n Z Z (xS hok 1 Z (wC [] [0,1,2] Z Q9F Z (w_value_does_s1 N a0 aE) (asK [] Z) Z (H':=V3 ..) Z ?_))))))))
 rintro _ _ _ ⟨rfl,rfl,rfl⟩
 refine Q4 (Q12 [] [0,1] Z Z (xS hok 6 Z (Q1p [] [0,1,2] Z Z Z Zq Z Z Z fn_149 Z Z (w_value_does_3_s N a1.n a2.n z) (asK [] Z) Z (H':=V3 ..) Z ?_)))
 rintro _ _ _ ⟨rfl,rfl,rfl⟩
 refine Q4 (Q12 [] [] Z Z (xP hok 7 Z (xP hok 8 Z (xP hok 9 Z (xS hok 10 Z (wP Z (Q4 (Q12 [] [] Z Z (xS hok 11 Z (wP Z (Q4 (Q12 [] [] Z Z (QO hok Z ?_)))))))))))))
 have hE:=(Zi hm).symm
 refine Qu [2] Z (H':=[_]) Z ?_
 refine Qd (IntKind.wrap .i64 (a1.n - a2.n),(decide ((IntKind.wrap .i64 (a1.n - a2.n)) > a1.n))==(decide (a2.n < 0))) hE [4,12,13] Z (asK [] Z) Z
 try dsimp only at hm
 obtain ⟨⟨b1,b2⟩,z,hm⟩:=Q7 hm
 try dsimp only at hm
 refine QR [0,2,3,4,5,7,8,9] Z Z (fun hok=>(xP hok 0 Z (Q9 hok 2 Z Z Z Zq Z Z Z Q1Z (Ql hok 3 1 1 Z Z Z Zq Z Z Z Z (cs:=[_]) Z Q6p Q6n Z Z (Q9 hok 4 Z Z Z Zq Z Z Z Q1Z (Ql hok 5 0 1 Z Z Z Zq Z Z Z Z (cs:=[_]) Z Q6p Q6n Z Z (xS hok 1 Z (wC [] [0,1,2] Z Q9F Z (w_value_does_s2 N a0 aE) (asK [] Z) Z (H':=V3 ..) Z ?_))))))))
 rintro _ _ _ ⟨rfl,rfl,rfl⟩
 refine Q4 (Q12 [] [0,1] Z Z (xS hok 6 Z (Q1p [] [0,1,2] Z Z Z Zq Z Z Z fn_150 Z Z (w_value_product_s N a1.n a2.n _ _ z) (asK [] Z) Z (H':=V3 ..) Z ?_)))
 rintro _ _ _ ⟨rfl,rfl,rfl⟩
 refine Q4 (Q12 [] [] Z Z (xP hok 7 Z (xP hok 8 Z (xP hok 9 Z (xS hok 10 Z (wP Z (Q4 (Q12 [] [] Z Z (xS hok 11 Z (wP Z (Q4 (Q12 [] [] Z Z (QO hok Z ?_)))))))))))))
 have hE:=(Zi hm).symm
 refine Qu [2] Z (H':=[_]) Z ?_
 refine Qd (b1,b2) hE [4,12,13] Z (asK [] Z) Z
 try dsimp only at hm
 obtain ⟨_,z,hm⟩:=Q7 hm
 try dsimp only at hm
 refine QR [0,2,3,4,5,7,8,9] Z Z (fun hok=>(xP hok 0 Z (Q9 hok 2 Z Z Z Zq Z Z Z Q1Z (Ql hok 3 1 1 Z Z Z Zq Z Z Z Z (cs:=[_]) Z Q6p Q6n Z Z (Q9 hok 4 Z Z Z Zq Z Z Z Q1Z (Ql hok 5 0 1 Z Z Z Zq Z Z Z Z (cs:=[_]) Z Q6p Q6n Z Z (xS hok 1 Z (wC [] [0,1,2] Z Q9F Z (w_value_does_s3 N a0 aE) (asK [] Z) Z (H':=V3 ..) Z ?_))))))))
 rintro _ _ _ ⟨rfl,rfl,rfl⟩
 refine Q4 (Q12 [] [0,1] Z Z (xS hok 6 Z (Q1p [] [0,1,2] Z Z Z Zq Z Z Z fn_151 Z Z (w_value_does_4_s N a1.n a2.n z) (asK [] Z) Z (H':=V3 ..) Z ?_)))
 rintro _ _ _ ⟨rfl,rfl,rfl⟩
 refine Q4 (Q12 [] [] Z Z (xP hok 7 Z (xP hok 8 Z (xP hok 9 Z (xS hok 10 Z (wP Z (Q4 (Q12 [] [] Z Z (xS hok 11 Z (wP Z (Q4 (Q12 [] [] Z Z (QO hok Z ?_)))))))))))))
 have hE:=(Zi hm).symm
 refine Qu [2] Z (H':=[_]) Z ?_
 refine Qd (IntKind.wrap .i64 (0 - a1.n),a1.n !=-9223372036854775808) hE [4,12,13] Z (asK [] Z) Z
 try dsimp only at hm
 obtain ⟨aI,z,hm⟩:=Q7 hm
 refine QR [0,2,3,4,5,7,8,9] Z Z (fun hok=>(xP hok 0 Z (Q9 hok 2 Z Z Z Zq Z Z Z Q1Z (Ql hok 3 1 1 Z Z Z Zq Z Z Z Z (cs:=[_]) Z Q6p Q6n Z Z (Q9 hok 4 Z Z Z Zq Z Z Z Q1Z (Ql hok 5 0 1 Z Z Z Zq Z Z Z Z (cs:=[_]) Z Q6p Q6n Z Z (xS hok 1 Z (wC [] [0,1,2] Z Q9F Z (w_value_does_s4 N a0 aE) (asK [] Z) Z (H':=V3 ..) Z ?_))))))))
 rintro _ _ _ ⟨a6,rfl,rfl,rfl⟩
 refine Q4 (Q12 [] [1,2] Z Z (xS hok 6 Z (Q1p [0] [1,2,3] Z Z Z Zq Z Z Z fn_152 Z Z (w_value_does_5_s N a1.n a2.n a6 _ z) (asK [] Z) Z (H':=V3 ..) Z ?_)))
 rintro _ _ _ ⟨rfl,rfl,rfl⟩
 refine Q4 (Q12 [] [] Z Z (xP hok 7 Z (xP hok 8 Z (xP hok 9 Z (xS hok 10 Z (wP Z (Q4 (Q12 [] [] Z Z (xS hok 11 Z (wP Z (Q4 (Q12 [] [] Z Z (QO hok Z ?_)))))))))))))
 have hE:=(Zi hm).symm
 refine Qu [3] Z (H':=[_]) Z ?_
 refine Qd (aI,true) hE [4,12,13] Z (asK [] Z) Z
 try dsimp only at hm
 obtain ⟨aI,z,hm⟩:=Q7 hm
 refine QR [0,2,3,4,5,7,8,9] Z Z (fun hok=>(xP hok 0 Z (Q9 hok 2 Z Z Z Zq Z Z Z Q1Z (Ql hok 3 1 1 Z Z Z Zq Z Z Z Z (cs:=[_]) Z Q6p Q6n Z Z (Q9 hok 4 Z Z Z Zq Z Z Z Q1Z (Ql hok 5 0 1 Z Z Z Zq Z Z Z Z (cs:=[_]) Z Q6p Q6n Z Z (xS hok 1 Z (wC [] [0,1,2] Z Q9F Z (w_value_does_s5 N a0 aE) (asK [] Z) Z (H':=V3 ..) Z ?_))))))))
 rintro _ _ _ ⟨a6,rfl,rfl,rfl⟩
 refine Q4 (Q12 [] [1,2] Z Z (xS hok 6 Z (Q1p [0] [1,2,3] Z Z Z Zq Z Z Z fn_153 Z Z (w_value_does_6_s N a1.n a2.n a6 _ z) (asK [] Z) Z (H':=V3 ..) Z ?_)))
 rintro _ _ _ ⟨rfl,rfl,rfl⟩
 refine Q4 (Q12 [] [] Z Z (xP hok 7 Z (xP hok 8 Z (xP hok 9 Z (xS hok 10 Z (wP Z (Q4 (Q12 [] [] Z Z (xS hok 11 Z (wP Z (Q4 (Q12 [] [] Z Z (QO hok Z ?_)))))))))))))
 have hE:=(Zi hm).symm
 refine Qu [3] Z (H':=[_]) Z ?_
 refine Qd (aI,true) hE [4,12,13] Z (asK [] Z) Z
 try dsimp only at hm
 obtain ⟨aI,z,hm⟩:=Q7 hm
 refine QR [0,2,3,4,5,7,8,9] Z Z (fun hok=>(xP hok 0 Z (Q9 hok 2 Z Z Z Zq Z Z Z Q1Z (Ql hok 3 1 1 Z Z Z Zq Z Z Z Z (cs:=[_]) Z Q6p Q6n Z Z (Q9 hok 4 Z Z Z Zq Z Z Z Q1Z (Ql hok 5 0 1 Z Z Z Zq Z Z Z Z (cs:=[_]) Z Q6p Q6n Z Z (xS hok 1 Z (wC [] [0,1,2] Z Q9F Z (w_value_does_s6 N a0 aE) (asK [] Z) Z (H':=V3 ..) Z ?_))))))))
 rintro _ _ _ ⟨a6,rfl,rfl,rfl⟩
 refine Q4 (Q12 [] [1,2] Z Z (xS hok 6 Z (Q1p [0] [1,2,3] Z Z Z Zq Z Z Z fn_154 Z Z (w_value_does_7_s N a1.n a2.n a6 _ z) (asK [] Z) Z (H':=V3 ..) Z ?_)))
 rintro _ _ _ ⟨rfl,rfl,rfl⟩
 refine Q4 (Q12 [] [] Z Z (xP hok 7 Z (xP hok 8 Z (xP hok 9 Z (xS hok 10 Z (wP Z (Q4 (Q12 [] [] Z Z (xS hok 11 Z (wP Z (Q4 (Q12 [] [] Z Z (QO hok Z ?_)))))))))))))
 have hE:=(Zi hm).symm
 refine Qu [3] Z (H':=[_]) Z ?_
 refine Qd (aI,true) hE [4,12,13] Z (asK [] Z) Z
 try dsimp only at hm
 obtain ⟨aI,z,hm⟩:=Q7 hm
 refine QR [0,2,3,4,5,7,8,9] Z Z (fun hok=>(xP hok 0 Z (Q9 hok 2 Z Z Z Zq Z Z Z Q1Z (Ql hok 3 1 1 Z Z Z Zq Z Z Z Z (cs:=[_]) Z Q6p Q6n Z Z (Q9 hok 4 Z Z Z Zq Z Z Z Q1Z (Ql hok 5 0 1 Z Z Z Zq Z Z Z Z (cs:=[_]) Z Q6p Q6n Z Z (xS hok 1 Z (wC [] [0,1,2] Z Q9F Z (w_value_does_s7 N a0 aE) (asK [] Z) Z (H':=V3 ..) Z ?_))))))))
 rintro _ _ _ ⟨a6,rfl,rfl,rfl⟩
 refine Q4 (Q12 [] [1,2] Z Z (xS hok 6 Z (Q1p [0] [1,2,3] Z Z Z Zq Z Z Z fn_155 Z Z (w_value_does_8_s N a1.n a2.n a6 _ z) (asK [] Z) Z (H':=V3 ..) Z ?_)))
 rintro _ _ _ ⟨rfl,rfl,rfl⟩
 refine Q4 (Q12 [] [] Z Z (xP hok 7 Z (xP hok 8 Z (xP hok 9 Z (xS hok 10 Z (wP Z (Q4 (Q12 [] [] Z Z (xS hok 11 Z (wP Z (Q4 (Q12 [] [] Z Z (QO hok Z ?_)))))))))))))
 have hE:=(Zi hm).symm
 refine Qu [3] Z (H':=[_]) Z ?_
 refine Qd (aI,true) hE [4,12,13] Z (asK [] Z) Z
 try dsimp only at hm
 obtain ⟨aI,z,hm⟩:=Q7 hm
 refine QR [0,2,3,4,5,7,8,9] Z Z (fun hok=>(xP hok 0 Z (Q9 hok 2 Z Z Z Zq Z Z Z Q1Z (Ql hok 3 1 1 Z Z Z Zq Z Z Z Z (cs:=[_]) Z Q6p Q6n Z Z (Q9 hok 4 Z Z Z Zq Z Z Z Q1Z (Ql hok 5 0 1 Z Z Z Zq Z Z Z Z (cs:=[_]) Z Q6p Q6n Z Z (xS hok 1 Z (wC [] [0,1,2] Z Q9F Z (w_value_does_s8 N a0 aE) (asK [] Z) Z (H':=V3 ..) Z ?_))))))))
 rintro _ _ _ ⟨a6,rfl,rfl,rfl⟩
 refine Q4 (Q12 [] [1,2] Z Z (xS hok 6 Z (Q1p [0] [1,2,3] Z Z Z Zq Z Z Z fn_156 Z Z (w_value_does_9_s N a1.n a2.n a6 _ z) (asK [] Z) Z (H':=V3 ..) Z ?_)))
 rintro _ _ _ ⟨rfl,rfl,rfl⟩
 refine Q4 (Q12 [] [] Z Z (xP hok 7 Z (xP hok 8 Z (xP hok 9 Z (xS hok 10 Z (wP Z (Q4 (Q12 [] [] Z Z (xS hok 11 Z (wP Z (Q4 (Q12 [] [] Z Z (QO hok Z ?_)))))))))))))
 have hE:=(Zi hm).symm
 refine Qu [3] Z (H':=[_]) Z ?_
 refine Qd (aI,true) hE [4,12,13] Z (asK [] Z) Z
 ·
  try dsimp only at hm
  cases hm
 rintro ⟨a5,a9⟩ hE
 try dsimp only
 have hm:=hLj_7
 try rw [hE] at hm
 try dsimp only at hm
 refine Q5 (Q5 (Q1 (wP Z (wP Z (Q4 (Q3 (Q2 [86,4,12] (S':=V3 ..) Z ?_)))))))
 refine Qm Z (fun aW=>?_) (fun aW=>?_)
 replace hm:=Qw hm aW
 refine Q2 [4] (S':=[_]) Z (Q5 (Q1 (Q1F Z Z Z Zq Z Q1Q Q69 Z (out:=V3 ..) Z (wS 0 0 Z QB (all':=V3 ..) Z (H':=[_]) Z (wP Z (Q4 (Q3 (Q2 [5,4] (S':=[_,_]) Z (Qk (Q8 ?_))))))))))
 have hE:=(Zi hm).symm
 obtain ⟨hE0,hF1⟩:=Prod.mk.inj hE
 obtain ⟨hE1,hE2⟩:=Prod.mk.inj hF1
 clear hE hF1
 replace hE0:=hE0.symm
 subst hE0
 replace hE1:=hE1.symm
 subst hE1
 replace hE2:=hE2.symm
 subst hE2
 refine QH (Hr:=[]) [] Tryz.results84 (Q1e 0 Z Z QB Q1b Z Z) (Qb Z) ⟨Z,Z,Z⟩ (asK [] Z) Z Z (.inl Z)
 replace hm:=Qv hm aW
 refine Q2 [4,12] (S':=[_,_]) Z (Qt (Q3 (Q5 (Q1 (wP Z ?_)))))
 obtain ⟨_,bL,hm⟩:=Q7 hm
 try dsimp only at hm
 refine wC [] [0] Z fn_119 Z (Q7E N a5 bL) (asK [] Z) Z (H':=[_]) Z ?_
 rintro _ _ _ ⟨rfl,rfl,rfl⟩
 refine wS 0 0 Z QB (all':=V3 ..) Z (H':=[_]) Z (wP Z (Q4 (Q3 (Q2 [5,4] (S':=[_,_]) Z (Qk ?_)))))
 have hE:=(Zi hm).symm
 obtain ⟨hE0,hF1⟩:=Prod.mk.inj hE
 obtain ⟨hE1,hE2⟩:=Prod.mk.inj hF1
 clear hE hF1
 replace hE0:=hE0.symm
 subst hE0
 replace hE1:=hE1.symm
 subst hE1
 replace hE2:=hE2.symm
 subst hE2
 refine QH (Hr:=[]) [] Tryz.results84 (Q1e 0 Z Z QB Q1b Z Z) (Qb Z) ⟨Z,Z,Z⟩ (asK [] Z) Z Z (.inl Z)
theorem w_expr_All_v2_s (N:Nat)(rc:Int→Int→Int→ByteArray→Int→Int→(List Qe)→(List V)→Option (Int×Int×ByteArray×Nat))(ih : ∀ (a0:Int)(a1:Int)(a2:Int)(a3:ByteArray)(a4:Int)(a5:Int)(aF:OA)(aG:Nat)(l6:List Qe)(aH:OA)(aI:Nat)(l7:List V)(o0:Int)(o1:Int)(o2:ByteArray)(o3:Nat),rc a0 a1 a2 a3 a4 a5 l6 l7=some (o0,o1,o2,o3)→Q1d Tryz.prog 44 [.agg #[.int .u8 a0,.int .u8 a1,.int .i64 a2,.string a3,.int .i64 a4,.int .u8 a5,.slice aF l6.length aG],.slice aH l7.length aI] [.sli 7 Qs aF aG l6,.sli 3 R_V aH aI l7] [] (fun v Φr Hr=>v=.tuple #[.agg #[.int .u8 o0,.int .i64 o1,.string o2],.int .i64 ((o3:Nat):Int)]∧Φr=[]∧Hr=[]))(aF:OA)(aG:Nat)(l0:List V)(aH:OA)(aI:Nat)(l1:List Qe)(o2:List V)(o4:Nat)(hm:Q62 N rc l0 l1=some (o2,o4)):Q1d Tryz.prog 83 [.slice aF l0.length aG,.slice aH l1.length aI] [.sli 3 R_V aF aG l0,.sli 7 Qs aH aI l1] [] (fun v Φr Hr=>∃ (o0:OA)(o1:Nat)(o3:Nat),v=.tuple #[.slice o0 o3 o1,.int .i64 ((o4:Nat):Int)]∧Φr=[]∧Hr=[.own 57 3 R_V (.slice o0 o3 o1) o2]):=by
 unfold Q62 at hm
 refine QI Tryz.func83 Z Tryz.ntmps83 Z (S:=[_,_]) Z (fun C=>(Q5 (Q1 (wP Z (wP Z (Q4 (Q3 (Q2 [0,1] (S':=[_,_]) Z (Q5 (Q1 (wP Z (Q4 (Q3 (Q5 ?_))))))))))))))
 obtain ⟨aP,hm,hLj_1⟩:=QN hm
 refine QF (σ:=(List V)×OA×Nat×Nat) (fun (aB,z,a6,a7)=>aP=.inl aB) (fun (aB,z,a6,a7)=>[(6,.slice z a7 a6)]) (fun (aB,z,a6,a7)=>[]) (fun (aB,z,a6,a7)=>[.own 57 3 R_V (.slice z a7 a6) aB]) ?_ ?_
 refine Q5 (Q1 (wP Z (wN Z Q4r (wP Z (Q4 (Q3 (Q2 [13,12,11,6,0] (S':=V5 ..) Z (Qx (Q74 57 3 R_V (Q1o (σ:=Nat×Nat×(List V)×OA×Nat×Nat) (fun (aJ,y,h,a8,a9,aA)=>Q19 (Q4K N l1 rc l0) aJ (y,h)=some aP) (fun (aJ,y,h,a8,a9,aA)=>aJ) (fun (aJ,y,h,a8,a9,aA)=>[(13,.int .i64 ((y:Nat):Int)),(12,.int .i64 ((l1.length:Nat):Int)),(11,.slice aH l1.length aI),(6,.slice a8 aA a9),(0,.slice aF l0.length aG)]) (fun (aJ,y,h,a8,a9,aA)=>[.sli 7 Qs aH aI l1,.sli 3 R_V aF aG l0]) (fun (aJ,y,h,a8,a9,aA)=>[.own 57 3 R_V (.slice a8 aA a9) h]) (N,0,[],none,0,0) hm [13,12,11,6,0] Z (asK [1,0] Z) Z (fun s_ hm=>?_)))))))))))
 obtain ⟨aJ,y,h,a8,a9,aA⟩:=s_
 try dsimp only at hm ⊢
 obtain ⟨bF,bG,aY,hq,hLu1⟩:=Q10 hm
 clear hm
 subst aY
 replace hm:=hq
 clear hq
 unfold Q4K at hm
 try dsimp only at hm
 refine Q5 (Q1 (wP Z (QD (d:=14) (v':=.bool (decide (y < l1.length))) (S':=V5 ..) Z Z (Q2E (a:=y) (b:=l1.length)) (Q4 (Q3 (Q5 ?_))))))
 refine Qm Z (fun aL=>?_) (fun aL=>?_)
 replace hm:=Qw hm aL
 refine Q2 [13,12,11,6,0] (S':=V5 ..) Z (Qt (Q3 (Q5 (Qx (Q5 (Q1 ?_))))))
 obtain ⟨aK,aZ,hm⟩:=Q7 hm
 refine QT 0 y Z Z Z Zq Z Z Z Z Z aZ Q4r Q52 (fun bH bI bE b6=>(Q1h Q30 1 Z (fun b0 b1 _=>?_)))
 subst b1
 refine Q1g 1 0 Z Z Z Zq Z Z Z (cs:=V7 ..) Z Q52 Q6E Z Z (Q13 Z Z Z Zq Z tZ_65 Z (fun g8=>(wS 0 0 Z Q52 (all':=V7 ..) Z (H':=[_,_]) Z (Q4 (Q3 (Q2 [8,13,12,11,6,0] (S':=V6 ..) Z (Q5 (Q1 (QM 0 0 Z Z Z Zq Z Z Z (cs:=V7 ..) Z Q52 Q6E Z Z (wP Z ?_))))))))))
 obtain ⟨⟨aC,aD,aE,aM⟩,b2,hm⟩:=Q7 hm
 try dsimp only at hm
 refine wC [] [0,1] Z fn_44 Z (ih aK.kind aK.value.k aK.value.n aK.value.s aK.var aK.op b0.1 b0.2 aK.kids aF aG l0 _ _ _ _ b2) (asK [0,4] Z) Z (H':=[_,_]) Z ?_
 rintro _ _ _ ⟨rfl,rfl,rfl⟩
 refine wP Z (wP Z (wP Z (Q13 Z Z Z Zq Z Q1Q Z (fun g9=>(wS 0 0 Z QB (all':=V3 ..) Z (H':=V3 ..) Z (wP Z (Q4 (Q3 (Q2 [10,9,13,12,11,6,0] (S':=V7 ..) Z (Q5 (Q5 (Q1 (wP Z (wP Z ?_))))))))))))))
 refine QD (d:=24) (v':=.bool (aM !=0)) (S':=V8 ..) Z Z (natne (a:=aM) (b:=0)) (Q4 (Q3 (Q2 [24,10,9,13,12,11,6,0] (S':=V8 ..) Z ?_)))
 refine Qm Z (fun aN=>?_) (fun aN=>?_)
 replace hm:=Qw hm aN
 refine Q2 [10] (S':=[_]) Z (Q5 (Q1 (wP Z (wP Z (wP Z (Q4 (Q3 (Q2 [5,4] (S':=[_,_]) Z (Qk (Q8 (Qa (Q8 (Q8 ?_)))))))))))))
 refine Qa (Q8 ?_)
 have hE:=(Zi hm).symm
 replace hE:=Qn hLu1 hE
 replace hE:=Qn hLj_1 hE
 obtain ⟨hE0,hE1⟩:=Prod.mk.inj hE
 clear hE
 replace hE0:=hE0.symm
 subst hE0
 replace hE1:=hE1.symm
 subst hE1
 refine Q2T 57 3 R_V ?_
 refine QH (Hr:=[_]) [0] Tryz.results83 (Qb Z) (Qb Z) ⟨none,0,0,Z,Z,Z⟩ (asK [] Z) Z Z (.inl Z)
 replace hm:=Qv hm aN
 refine Q2 [9,13,12,11,6,0] (S':=V6 ..) Z (Qt (Q3 (Q1 (wP Z (QM 0 0 Z Z Z Zq Z Z Z (cs:=V3 ..) Z QB Q1b Z Z (Q1y Z Z Z Zq Z Q29 QB Q1Q Z (zs:=[.int .u8 0,.int .i64 0,.string ((⟨#[]⟩ : ByteArray))]) (by kernel_rfl) Z (out:=V3 ..) Z (fun bJ=>?_)))))))
 obtain ⟨aQ,hm⟩:=Qz hm
 refine Q6S ([(⟨aC,aD,aE⟩ : V)]) 3 0 Z Z Z Zq Z Z Z Z Z (fun F w hφ=>⟨[.int .u8 aC,.int .i64 aD,.string aE],[],Z,Z,⟨(),Z,Q1n⟩,Z⟩) Q29 tR_57 Z Z (Nat.le_trans aQ (by decide)) (Nat.le_trans (Nat.mul_le_mul_right _ aQ) (by decide)) (H2:=fun aS aT=>[_,_,_,.own 57 3 R_V (.slice aS ((h++([(⟨aC,aD,aE⟩ : V)])).length) aT) (h++([(⟨aC,aD,aE⟩ : V)]))]) (fun _ _=>Z) (fun aS aT=>(Qa6 0 Z (H':=V3 ..) Z (QS (S':=V9 ..) Z Z Z Z Z (Q4 (Qf (Q3 (Q2 [6,13,12,11,0] (S':=V5 ..) Z (Q1 (wP Z ?_)))))))))
 obtain ⟨b3,hm⟩:=Qz hm
 refine QD (d:=30) (v':=.int .i64 ((y+1:Nat):Int)) (S':=V5 ..) Z Z (Q1f (a:=y) (b:=1) b3) (QS (S':=V5 ..) Z Z Z Z Z (Q4 ?_))
 have hE:=(Zi hm).symm
 replace hE:=QA hLu1 hE
 refine Qu [2] Z (H':=[_]) Z ?_
 refine QY (_,y+1,(h++([(⟨aC,aD,aE⟩ : V)])),aS,aT,((h++([(⟨aC,aD,aE⟩ : V)])).length)) (Nat.lt_succ_self _) hE [13,12,11,6,0] Z (asK [3,4] Z) Z
 replace hm:=Qv hm aL
 refine Q2 [6] (S':=[_]) Z (Q1k (Qo (Qo (QG ?_))))
 have hE:=(Zi hm).symm
 replace hE:=Qn hLu1 hE
 refine Qd (h,a8,a9,aA) hE [6] Z (asK [] Z) Z
 rintro ⟨aB,z,a6,a7⟩ hE
 try dsimp only
 have hm:=QA hLj_1 hE
 refine Q5 (Q1 (wP Z (wP Z (wP Z (Q4 (Q3 (Q2 [5,4] (S':=[_,_]) Z (Qk ?_))))))))
 have hE:=(Zi hm).symm
 obtain ⟨hE0,hE1⟩:=Prod.mk.inj hE
 clear hE
 replace hE0:=hE0.symm
 subst hE0
 replace hE1:=hE1.symm
 subst hE1
 refine QH (Hr:=[_]) [0] Tryz.results83 (Qb Z) (Qb Z) ⟨z,a6,a7,Z,Z,Z⟩ (asK [] Z) Z Z (.inl Z)
theorem QaX (N:Nat)(rc:Int→Int→Int→ByteArray→Int→Int→(List Qe)→(List V)→Option (Int×Int×ByteArray×Nat))(ih : ∀ (a0:Int)(a1:Int)(a2:Int)(a3:ByteArray)(a4:Int)(a5:Int)(aN:OA)(aO:Nat)(l6:List Qe)(aP:OA)(aQ:Nat)(l7:List V)(o0:Int)(o1:Int)(o2:ByteArray)(o3:Nat),rc a0 a1 a2 a3 a4 a5 l6 l7=some (o0,o1,o2,o3)→Q1d Tryz.prog 44 [.agg #[.int .u8 a0,.int .u8 a1,.int .i64 a2,.string a3,.int .i64 a4,.int .u8 a5,.slice aN l6.length aO],.slice aP l7.length aQ] [.sli 7 Qs aN aO l6,.sli 3 R_V aP aQ l7] [] (fun v Φr Hr=>v=.tuple #[.agg #[.int .u8 o0,.int .i64 o1,.string o2],.int .i64 ((o3:Nat):Int)]∧Φr=[]∧Hr=[]))(aC:Nat)(s:OA)(y:Nat)(l0:List V)(aD:Nat)(a1:Int)(a2:Int)(a3:Int)(a4:ByteArray)(a5:Int)(a6:Int)(z:OA)(a7:Nat)(l7:List Qe)(o0:Nat)(o1:Int)(o2:Nat)(hm:Q4L N rc l0 a1 a2 a3 a4 a5 a6 l7=some (o0,o1,o2)):Q1d Tryz.prog 82 [.pointer (some ⟨aC,0,none⟩),.pointer (some ⟨aD,0,none⟩)] [.sli 3 R_V s y l0,.sli 7 Qs z a7 l7] [.blk aC [.slice s l0.length y] 43,.blk aD [.int .u8 a1,.int .u8 a2,.int .i64 a3,.string a4,.int .i64 a5,.int .u8 a6,.slice z l7.length a7] 65] (fun v Φr Hr=>v=.tuple #[.agg #[.int .u8 ((o0:Nat):Int),.int .i64 o1,.string ((⟨#[]⟩ : ByteArray))],.int .i64 ((o2:Nat):Int)]∧Φr=[.sli 3 R_V s y l0,.sli 7 Qs z a7 l7]∧Hr=[.blk aC [.slice s l0.length y] 43,.blk aD [.int .u8 a1,.int .u8 a2,.int .i64 a3,.string a4,.int .i64 a5,.int .u8 a6,.slice z l7.length a7] 65]):=by
 unfold Q4L at hm
 refine QI Tryz.func82 Z Tryz.ntmps82 Z (S:=[_,_]) Z (fun C=>(Q5 (Q1 (Q13 Z Z Z Zq Z Q1Q Z (fun g2=>(wP Z (Q4 (Q3 (Q2 [2,0,1] (S':=V3 ..) Z (Q5 (Q1 (wD 1 0 Z Q5i Q5f Z (wF Z Q5S (wD 2 6 Z Q51 Q50 Z ?_))))))))))))))
 obtain ⟨⟨aE,a8⟩,aU,hm⟩:=Q7 hm
 try dsimp only at hm
 refine wC [] [0,1,2] Z fn_83 Z (w_expr_All_v2_s N rc ih s y l0 z a7 l7 _ _ aU) (asK [0,1] Z) Z (H':=V3 ..) Z ?_
 rintro _ _ _ ⟨aF,aG,aY,rfl,rfl,rfl⟩
 refine wP Z (wP Z (wP Z (wP Z (wP Z (Q4 (Q3 (Q2 [5,4,2,1] (S':=V4 ..) Z (Q5 (Q5 (Q1 (wP Z (wP Z (QD (d:=14) (v':=.bool (a8 !=0)) (S':=V5 ..) Z Z (natne (a:=a8) (b:=0)) ?_)))))))))))))
 refine Q4 (Q3 (Q2 [14,5,4,2,1] (S':=V5 ..) Z ?_))
 refine Qm Z (fun a9=>?_) (fun a9=>?_)
 replace hm:=Qw hm a9
 refine Q2 [5,2] (S':=[_,_]) Z (Q5 (Q1 (Q1F Z Z Z Zq Z Q1Q Q69 Z (out:=V3 ..) Z (wP Z (wS 1 0 Z QB (all':=V3 ..) Z (H':=V4 ..) Z (wP Z (Q4 (Q3 (Q2 [3,2] (S':=[_,_]) Z (Qk (Q8 ?_)))))))))))
 have hE:=(Zi hm).symm
 obtain ⟨hE0,hF1⟩:=Prod.mk.inj hE
 obtain ⟨hE1,hE2⟩:=Prod.mk.inj hF1
 clear hE hF1
 replace hE0:=hE0.symm
 subst hE0
 replace hE1:=hE1.symm
 subst hE1
 replace hE2:=hE2.symm
 subst hE2
 refine QH (Hr:=[_,_]) [2,3] Tryz.results82 (Q1e 1 Z Z QB Q1b Z Z) (Qb Z) ⟨Z,Z,Z⟩ (asK [0,1] Z) Z Z (.inl Z)
 replace hm:=Qv hm a9
 refine Q2 [4,2,1] (S':=V3 ..) Z (Qt (Q3 (Q5 (Q1 (wF Z Q5g (wD 3 5 Z Q7R Q7P Z (wP Z (Q3H 0 Z (fun aA _=>?_)))))))))
 subst aA
 obtain ⟨⟨aZ,b0,b1⟩,aV,hm⟩:=Q7 hm
 try dsimp only at hm
 refine Qa7 [] [0,1,2,3] [0] Z Z Z Zq Z Z fn_84 Z (w_value_Do_s N a6 aF aG aE _ _ _ aV) (fun F w hφ hh=>(Q1j (Q5R (hh _ (Q1W (k:=0) Z))) Q1n)) (fun _ _ _ hR=>by obtain ⟨rfl,rfl,rfl⟩:=hR;exact ⟨Z,(fun _ h=>Q8m h)⟩) Z Z (H':=V4 ..) Z ?_
 rintro _ _ _ ⟨rfl,rfl,rfl⟩
 refine wP Z (wP Z (wS 1 0 Z QB (all':=V3 ..) Z (H':=V4 ..) Z (wP Z (Q4 (Q3 (Q2 [3,2] (S':=[_,_]) Z (Qk ?_)))))))
 have hE:=(Zi hm).symm
 obtain ⟨hE0,hF1⟩:=Prod.mk.inj hE
 obtain ⟨hE1,hE2⟩:=Prod.mk.inj hF1
 clear hE hF1
 replace hE0:=hE0.symm
 subst hE0
 replace hE1:=hE1.symm
 subst hE1
 replace hE2:=hE2.symm
 subst hE2
 refine QH (Hr:=[_,_]) [2,3] Tryz.results82 (Q1e 1 Z Z QB Q1b Z Z) (Qb Z) ⟨Z,Z,Z⟩ (asK [0,1] Z) Z Z (.inl Z)
theorem w_expr_Eval_s_b (N:Nat)(rc:Int→Int→Int→ByteArray→Int→Int→(List Qe)→(List V)→Option (Int×Int×ByteArray×Nat))(ih : ∀ (a0:Int)(a1:Int)(a2:Int)(a3:ByteArray)(a4:Int)(a5:Int)(s:OA)(y:Nat)(l6:List Qe)(z:OA)(a6:Nat)(l7:List V)(o0:Int)(o1:Int)(o2:ByteArray)(o3:Nat),rc a0 a1 a2 a3 a4 a5 l6 l7=some (o0,o1,o2,o3)→Q1d Tryz.prog 44 [.agg #[.int .u8 a0,.int .u8 a1,.int .i64 a2,.string a3,.int .i64 a4,.int .u8 a5,.slice s l6.length y],.slice z l7.length a6] [.sli 7 Qs s y l6,.sli 3 R_V z a6 l7] [] (fun v Φr Hr=>v=.tuple #[.agg #[.int .u8 o0,.int .i64 o1,.string o2],.int .i64 ((o3:Nat):Int)]∧Φr=[]∧Hr=[]))(a0:Int)(a1:Int)(a2:Int)(a3:ByteArray)(a4:Int)(a5:Int)(s:OA)(y:Nat)(l6:List Qe)(z:OA)(a6:Nat)(l7:List V)(o0:Int)(o1:Int)(o2:ByteArray)(o3:Nat)(hm:Q38 N rc a0 a1 a2 a3 a4 a5 l6 l7=some (o0,o1,o2,o3)):Q1d Tryz.prog 44 [.agg #[.int .u8 a0,.int .u8 a1,.int .i64 a2,.string a3,.int .i64 a4,.int .u8 a5,.slice s l6.length y],.slice z l7.length a6] [.sli 7 Qs s y l6,.sli 3 R_V z a6 l7] [] (fun v Φr Hr=>v=.tuple #[.agg #[.int .u8 o0,.int .i64 o1,.string o2],.int .i64 ((o3:Nat):Int)]∧Φr=[]∧Hr=[]):=by
 unfold Q38 at hm
 refine QI Tryz.func44 Z Tryz.ntmps44 Z (S:=[_,_]) Z (fun C=>(Q5 (Q1 (wB Z (fun h=>(wB Z (fun g3=>(Q13 Z Z Z Zq Z Q1Q Z (fun g4=>(wP Z (Q4 (Q3 (Q2 [4,3,2] (S':=V3 ..) Z (Q5 (Q1 (wl_makeMapE (Q78 (Q4A tI_61)) false Q6Q Z Z Z Zq Z (fun g9=>(Q33 Z Z Z Zq Z Z ?_))))))))))))))))))
 refine Q4u (i:=1) (u:=.func (.func 79) #[] #[.pointer (some ⟨h,0,none⟩)]) (cs:=[.func (.func 79) #[] #[.pointer (some ⟨h,0,none⟩)]]) 0 Z Z (.inr Z) Z Z Z Z tM_146 trivial Z (fun F w hφ=>⟨Z,Z⟩) (H':=[mapE (Q78 (Q4A tI_61)) false Q6Q g9 ([(1,.func (.func 79) #[] #[.pointer (some ⟨h,0,none⟩)])]),.blk g4 [.int .u8 0,.int .i64 0,.string ((⟨#[]⟩ : ByteArray))] 57,.blk g3 [.slice z l7.length a6] 43,.blk h [.int .u8 a0,.int .u8 a1,.int .i64 a2,.string a3,.int .i64 a4,.int .u8 a5,.slice s l6.length y] 65]) Z (Q33 Z Z Z Zq Z Z (Q4u (i:=2) (u:=.func (.func 81) #[] #[.pointer (some ⟨h,0,none⟩),.pointer (some ⟨g3,0,none⟩)]) (cs:=[.func (.func 81) #[] #[.pointer (some ⟨h,0,none⟩),.pointer (some ⟨g3,0,none⟩)]]) 0 Z Z (.inr Z) Z Z Z Z tM_146 trivial Z (fun F w hφ=>⟨Z,Z⟩) (H':=[mapE (Q78 (Q4A tI_61)) false Q6Q g9 ([(1,.func (.func 79) #[] #[.pointer (some ⟨h,0,none⟩)]),(2,.func (.func 81) #[] #[.pointer (some ⟨h,0,none⟩),.pointer (some ⟨g3,0,none⟩)])]),.blk g4 [.int .u8 0,.int .i64 0,.string ((⟨#[]⟩ : ByteArray))] 57,.blk g3 [.slice z l7.length a6] 43,.blk h [.int .u8 a0,.int .u8 a1,.int .i64 a2,.string a3,.int .i64 a4,.int .u8 a5,.slice s l6.length y] 65]) Z (Q33 Z Z Z Zq Z Z (Q4u (i:=3) (u:=.func (.func 82) #[] #[.pointer (some ⟨g3,0,none⟩),.pointer (some ⟨h,0,none⟩)]) (cs:=[.func (.func 82) #[] #[.pointer (some ⟨g3,0,none⟩),.pointer (some ⟨h,0,none⟩)]]) 0 Z Z (.inr Z) Z Z Z Z tM_146 trivial Z (fun F w hφ=>⟨Z,Z⟩) (H':=[mapE (Q78 (Q4A tI_61)) false Q6Q g9 ([(1,.func (.func 79) #[] #[.pointer (some ⟨h,0,none⟩)]),(2,.func (.func 81) #[] #[.pointer (some ⟨h,0,none⟩),.pointer (some ⟨g3,0,none⟩)]),(3,.func (.func 82) #[] #[.pointer (some ⟨g3,0,none⟩),.pointer (some ⟨h,0,none⟩)])]),.blk g4 [.int .u8 0,.int .i64 0,.string ((⟨#[]⟩ : ByteArray))] 57,.blk g3 [.slice z l7.length a6] 43,.blk h [.int .u8 a0,.int .u8 a1,.int .i64 a2,.string a3,.int .i64 a4,.int .u8 a5,.slice s l6.length y] 65]) Z (wP Z (wF Z tF_65_0 (wD 3 0 Z tS_61 tA_61 Z ?_)))))))
 rcases Q14 hm with ⟨a7,hm⟩ | ⟨a7,hm⟩
 refine Q3J (i:=a0) (a:=(.func (.func 79) #[] #[.pointer (some ⟨h,0,none⟩)])) Q3h 0 Z Z Z Zq Z Z Z Z tM_146 trivial (by rw [eq_of_beq a7];rfl) (u:=fun _=>.func (.func 79) #[] #[.pointer (some ⟨h,0,none⟩)]) (fun _=>Z) (v:=fun _=>.tuple #[.func (.func 79) #[] #[.pointer (some ⟨h,0,none⟩)],.bool true]) (fun _=>Z) (fun _ _=>(wP Z (wP Z (wP Z (wP Z (wP Z (Q4 (Q3 (Q2 [7,6,4] (S':=V3 ..) Z (Q5 (Q5 (Q1 (wP Z (wP Z ?_))))))))))))))
 refine Q4 (Q3 (Q2 [20,6,4] (S':=V3 ..) Z (QaB Z (Q2 [6,4] (S':=[_,_]) Z (Qt (Q3 (Q5 (Q1 (wP Z ?_)))))))))
 obtain ⟨⟨aK,aL,aM,aO⟩,aB,hm⟩:=Q7 hm
 try dsimp only at hm
 refine Q1p [3] [0,1,2] Z Z Z Zq Z Z Z fn_79 Z Z (w_expr_Eval_1_s N h a0 a1 a2 a3 a4 a5 s y l6 _ _ _ _ aB) (asK [0] Z) Z (H':=V3 ..) Z ?_
 rintro _ _ _ ⟨rfl,rfl,rfl⟩
 refine wP Z (wP Z (wS 2 0 Z QB (all':=V3 ..) Z (H':=V4 ..) Z (wP Z (Q4 (Q3 (Q2 [5,4] (S':=[_,_]) Z (Qk ?_)))))))
 have hE:=(Zi hm).symm
 obtain ⟨hE0,hF1⟩:=Prod.mk.inj hE
 obtain ⟨hE1,hF2⟩:=Prod.mk.inj hF1
 obtain ⟨hE2,hE3⟩:=Prod.mk.inj hF2
 clear hE hF1 hF2
 replace hE0:=hE0.symm
 subst hE0
 replace hE1:=hE1.symm
 subst hE1
 replace hE2:=hE2.symm
 subst hE2
 replace hE3:=hE3.symm
 subst hE3
 refine QH (Hr:=[]) [] Tryz.results44 (Q1e 2 Z Z QB Q1b Z Z) (Qb Z) ⟨Z,Z,Z⟩ (asK [] Z) Z Z (.inl Z)
 rcases Q14 hm with ⟨a8,hm⟩ | ⟨a8,hm⟩
 refine Q3J (i:=a0) (a:=(.func (.func 81) #[] #[.pointer (some ⟨h,0,none⟩),.pointer (some ⟨g3,0,none⟩)])) Q3h 0 Z Z Z Zq Z Z Z Z tM_146 trivial (by rw [eq_of_beq a8];rfl) (u:=fun _=>.func (.func 81) #[] #[.pointer (some ⟨h,0,none⟩),.pointer (some ⟨g3,0,none⟩)]) (fun _=>Z) (v:=fun _=>.tuple #[.func (.func 81) #[] #[.pointer (some ⟨h,0,none⟩),.pointer (some ⟨g3,0,none⟩)],.bool true]) (fun _=>Z) (fun _ _=>(wP Z (wP Z (wP Z (wP Z (wP Z (Q4 (Q3 (Q2 [7,6,4] (S':=V3 ..) Z (Q5 (Q5 (Q1 (wP Z (wP Z ?_))))))))))))))
 refine Q4 (Q3 (Q2 [20,6,4] (S':=V3 ..) Z (QaB Z (Q2 [6,4] (S':=[_,_]) Z (Qt (Q3 (Q5 (Q1 (wP Z ?_)))))))))
 obtain ⟨⟨aK,aL,aM,aO⟩,aB,hm⟩:=Q7 hm
 try dsimp only at hm
 refine Q1p [3,2] [0,1] Z Z Z Zq Z Z Z fn_81 Z Z (w_expr_Eval_2_s N h a0 a1 a2 a3 a4 a5 s y l6 g3 z a6 l7 _ _ _ _ aB) (asK [0,1] Z) Z (H':=[_,_]) Z ?_
 rintro _ _ _ ⟨rfl,rfl,rfl⟩
 refine wP Z (wP Z (wS 3 0 Z QB (all':=V3 ..) Z (H':=V4 ..) Z (wP Z (Q4 (Q3 (Q2 [5,4] (S':=[_,_]) Z (Qk ?_)))))))
 have hE:=(Zi hm).symm
 obtain ⟨hE0,hF1⟩:=Prod.mk.inj hE
 obtain ⟨hE1,hF2⟩:=Prod.mk.inj hF1
 obtain ⟨hE2,hE3⟩:=Prod.mk.inj hF2
 clear hE hF1 hF2
 replace hE0:=hE0.symm
 subst hE0
 replace hE1:=hE1.symm
 subst hE1
 replace hE2:=hE2.symm
 subst hE2
 replace hE3:=hE3.symm
 subst hE3
 refine QH (Hr:=[]) [] Tryz.results44 (Q1e 3 Z Z QB Q1b Z Z) (Qb Z) ⟨Z,Z,Z⟩ (asK [] Z) Z Z (.inl Z)
 rcases Q14 hm with ⟨a9,hm⟩ | ⟨a9,hm⟩
 refine Q3J (i:=a0) (a:=(.func (.func 82) #[] #[.pointer (some ⟨g3,0,none⟩),.pointer (some ⟨h,0,none⟩)])) Q3h 0 Z Z Z Zq Z Z Z Z tM_146 trivial (by rw [eq_of_beq a9];rfl) (u:=fun _=>.func (.func 82) #[] #[.pointer (some ⟨g3,0,none⟩),.pointer (some ⟨h,0,none⟩)]) (fun _=>Z) (v:=fun _=>.tuple #[.func (.func 82) #[] #[.pointer (some ⟨g3,0,none⟩),.pointer (some ⟨h,0,none⟩)],.bool true]) (fun _=>Z) (fun _ _=>(wP Z (wP Z (wP Z (wP Z (wP Z (Q4 (Q3 (Q2 [7,6,4] (S':=V3 ..) Z (Q5 (Q5 (Q1 (wP Z (wP Z ?_))))))))))))))
 refine Q4 (Q3 (Q2 [20,6,4] (S':=V3 ..) Z (QaB Z (Q2 [6,4] (S':=[_,_]) Z (Qt (Q3 (Q5 (Q1 (wP Z ?_)))))))))
 obtain ⟨⟨aK,aL,aM⟩,aB,hm⟩:=Q7 hm
 try dsimp only at hm
 refine Q1p [2,3] [0,1] Z Z Z Zq Z Z Z fn_82 Z Z (QaX N rc ih g3 z a6 l7 h a0 a1 a2 a3 a4 a5 s y l6 _ _ _ aB) (asK [1,0] Z) Z (H':=[_,_]) Z ?_
 rintro _ _ _ ⟨rfl,rfl,rfl⟩
 refine wP Z (wP Z (wS 3 0 Z QB (all':=V3 ..) Z (H':=V4 ..) Z (wP Z (Q4 (Q3 (Q2 [5,4] (S':=[_,_]) Z (Qk ?_)))))))
 have hE:=(Zi hm).symm
 obtain ⟨hE0,hF1⟩:=Prod.mk.inj hE
 obtain ⟨hE1,hF2⟩:=Prod.mk.inj hF1
 obtain ⟨hE2,hE3⟩:=Prod.mk.inj hF2
 clear hE hF1 hF2
 replace hE0:=hE0.symm
 subst hE0
 replace hE1:=hE1.symm
 subst hE1
 replace hE2:=hE2.symm
 subst hE2
 replace hE3:=hE3.symm
 subst hE3
 refine QH (Hr:=[]) [] Tryz.results44 (Q1e 3 Z Z QB Q1b Z Z) (Qb Z) ⟨Z,Z,Z⟩ (asK [] Z) Z Z (.inl Z)
 refine wl_lookNoE (i:=a0) 0 Z Z Z Zq Z Z Z Z tZ_140 tM_146 trivial (by simp [Q8T,(ne_of_beq_false a7).symm,(ne_of_beq_false a8).symm,(ne_of_beq_false a9).symm]) (v:=.tuple #[.nilFunc,.bool false]) Z (wP Z (wP Z (wP Z (wP Z (wP Z (Q4 (Q3 (Q2 [7,6,4] (S':=V3 ..) Z (Q5 (Q5 (Q1 (wP Z (wP Z ?_)))))))))))))
 refine Q4 (Q3 (Q2 [20,6,4] (S':=V3 ..) Z ?_))
 refine Qm Z (fun aN=>?_) (fun aN=>?_)
 replace hm:=Qw hm aN
 refine Q2 [4] (S':=[_]) Z (Q5 (Q1 (Q1F Z Z Z Zq Z Q1Q Q69 Z (out:=V3 ..) Z (wS 1 0 Z QB (all':=V3 ..) Z (H':=V4 ..) Z (wP Z (Q4 (Q3 (Q2 [5,4] (S':=[_,_]) Z (Qk (Q8 ?_))))))))))
 have hE:=(Zi hm).symm
 obtain ⟨hE0,hF1⟩:=Prod.mk.inj hE
 obtain ⟨hE1,hF2⟩:=Prod.mk.inj hF1
 obtain ⟨hE2,hE3⟩:=Prod.mk.inj hF2
 clear hE hF1 hF2
 replace hE0:=hE0.symm
 subst hE0
 replace hE1:=hE1.symm
 subst hE1
 replace hE2:=hE2.symm
 subst hE2
 replace hE3:=hE3.symm
 subst hE3
 refine QH (Hr:=[]) [] Tryz.results44 (Q1e 1 Z Z QB Q1b Z Z) (Qb Z) ⟨Z,Z,Z⟩ (asK [] Z) Z Z (.inl Z)
 ·
  replace hm:=Qv hm aN
  refine Q2 [6,4] (S':=[_,_]) Z (Qt (Q3 (Q5 (Q1 (wP Z ?_)))))
  cases hm
theorem w_expr_Eval_s : ∀ (N:Nat),∀ (a0:Int)(a1:Int)(a2:Int)(a3:ByteArray)(a4:Int)(a5:Int)(qp0:OA)(qc1:Nat)(l6:List Qe)(qp2:OA)(qc3:Nat)(l7:List V)(o0:Int)(o1:Int)(o2:ByteArray)(o3:Nat),Q1m N a0 a1 a2 a3 a4 a5 l6 l7=some (o0,o1,o2,o3)→Q1d Tryz.prog 44 [.agg #[.int .u8 a0,.int .u8 a1,.int .i64 a2,.string a3,.int .i64 a4,.int .u8 a5,.slice qp0 l6.length qc1],.slice qp2 l7.length qc3] [.sli 7 Qs qp0 qc1 l6,.sli 3 R_V qp2 qc3 l7] [] (fun v Φr Hr=>v=.tuple #[.agg #[.int .u8 o0,.int .i64 o1,.string o2],.int .i64 ((o3:Nat):Int)]∧Φr=[]∧Hr=[]):=by
 intro N
 induction N with
 | zero=>intro a0 a1 a2 a3 a4 a5 qp0 qc1 l6 qp2 qc3 l7 o0 o1 o2 o3 hm;cases hm
 | succ N ih=>intro a0 a1 a2 a3 a4 a5 qp0 qc1 l6 qp2 qc3 l7 o0 o1 o2 o3 hm;exact w_expr_Eval_s_b N (Q1m N) ih a0 a1 a2 a3 a4 a5 qp0 qc1 l6 qp2 qc3 l7 o0 o1 o2 o3 hm
theorem Qay (N:Nat)(y:OA)(z:Nat)(l0:List Bool)(a2:OA)(a3:Nat)(l1:List V)(o0:Bool)(hm:Q4Q N l0 l1=some o0):Q1d Tryz.prog 88 [.agg #[.slice y l0.length z,.slice a2 l1.length a3]] [.sli 1 Q1R y z l0,.sli 3 R_V a2 a3 l1] [] (fun v Φr Hr=>v=.bool o0∧Φr=[]∧Hr=[]):=by
 unfold Q4Q at hm
 refine QI Tryz.func88 Z Tryz.ntmps88 Z (S:=[_]) Z (fun C=>(Q5 (Q1 (wB Z (fun g1=>(wP Z (Q4 (Q3 (Q2 [1] (S':=[_]) Z (Q5 (Q5 (Q1 (wF Z Q8y (wD 0 0 Z tS_98 tA_98 Z (wN Z tE_98 ?_)))))))))))))))
 refine wF Z Q8z (wD 0 1 Z Q5i Q5f Z (wN Z Q29 (wP Z (QD (d:=11) (v':=.bool (l0.length !=l1.length)) (S':=V7 ..) Z Z (natne (a:=l0.length) (b:=l1.length)) (Q4 (Q3 (Q2 [11,1] (S':=[_,_]) Z ?_)))))))
 refine Qm Z (fun a4=>?_) (fun a4=>?_)
 replace hm:=Qw hm a4
 refine Q2 [] (S':=[]) Z (Q5 (Q1 (wP Z (Q4 (Q3 (Qk (Q8 ?_)))))))
 have hE:=(Zi hm).symm
 replace hE:=hE.symm
 subst hE
 refine Qq (Hr:=[]) [] Tryz.results88 (Qb Z) ⟨Z,Z,Z⟩ (asK [] Z) Z Z (.inl Z)
 replace hm:=Qv hm a4
 refine Q2 [1] (S':=[_]) Z (Qt (Q3 (Q5 ?_)))
 obtain ⟨a9,hm,hLj_1⟩:=QN hm
 refine QF (σ:=Unit) (fun _=>a9=.inl ()) (fun _=>[]) (fun _=>[]) (fun _=>[]) ?_ ?_
 refine Q5 (Q1 (wF Z Q8y (wD 0 0 Z tS_98 tA_98 Z (wN Z tE_98 (wP Z (Q4 (Q3 (Q2 [15,14,13,1] (S':=V4 ..) Z (Qx (Q1o (σ:=Nat×Nat) (fun (a1,h)=>Q19 (Q2y N l0 l1) a1 h=some a9) (fun (a1,h)=>a1) (fun (a1,h)=>[(15,.int .i64 ((h:Nat):Int)),(14,.int .i64 ((l0.length:Nat):Int)),(13,.slice y l0.length z),(1,.pointer (some ⟨g1,0,none⟩))]) (fun (a1,h)=>[.sli 1 Q1R y z l0,.sli 3 R_V a2 a3 l1]) (fun (a1,h)=>[.blk g1 [.slice y l0.length z,.slice a2 l1.length a3] 100]) (N,0) hm [15,14,13,1] Z (asK [0,1] Z) Z (fun s_ hm=>?_)))))))))))
 obtain ⟨a1,h⟩:=s_
 try dsimp only at hm ⊢
 obtain ⟨aO,aP,aA,hq,hLu1⟩:=Q10 hm
 clear hm
 subst aA
 replace hm:=hq
 clear hq
 unfold Q2y at hm
 try dsimp only at hm
 refine Q5 (Q1 (wP Z (QD (d:=16) (v':=.bool (decide (h < l0.length))) (S':=V4 ..) Z Z (Q2E (a:=h) (b:=l0.length)) (Q4 (Q3 (Q5 ?_))))))
 refine Qm Z (fun a5=>?_) (fun a5=>?_)
 replace hm:=Qw hm a5
 refine Q2 [15,14,13,1] (S':=V4 ..) Z (Qt (Q3 (Q5 (Qx (Q5 (Q1 (wP Z ?_)))))))
 obtain ⟨aQ,aB,hm⟩:=Q7 hm
 refine QT 0 h Z Z Z Zq Z Z Z Z Z aB tE_98 tS_4 (fun aR aS aM aJ=>(Q1h Q9D 1 Z (fun aT aC _=>?_)))
 subst aC
 refine Q1g 0 0 Z Z Z Zq Z Z Z (cs:=[_]) Z tS_4 tA_4 Z Z (wP Z (wP Z (Q4 (Q3 (Q2 [4,3,15,14,13,1] (S':=V6 ..) Z (Q5 ?_))))))
 obtain ⟨aD,hm,hLj_2⟩:=Q7 hm
 refine QF (σ:=Bool) (fun s=>aD=s) (fun s=>[(15,.int .i64 ((h:Nat):Int)),(14,.int .i64 ((l0.length:Nat):Int)),(13,.slice y l0.length z),(1,.pointer (some ⟨g1,0,none⟩)),(30,.bool s)]) (fun s=>[.sli 1 Q1R y z l0,.sli 3 R_V a2 a3 l1]) (fun s=>[.blk g1 [.slice y l0.length z,.slice a2 l1.length a3] 100]) ?_ ?_
 refine Q1 (wP Z (wP Z (wP Z ?_)))
 refine Qr (d:=22) (S':=V8 ..) Z Z (fun a6=>?_) (fun a6=>?_)
 replace hm:=Qw hm a6
 refine wF Z Q8z (wD 0 1 Z Q5i Q5f Z (wP Z ?_))
 obtain ⟨aE,aF,hm⟩:=Q7 hm
 refine QT 3 h Z Z Z Zq Z Z Z Z Z aF Q29 QB (fun aU aV aN aK=>(Q1h Q2l 1 Z (fun aW aG _=>?_)))
 subst aG
 refine Q1g 0 0 Z Z Z Zq Z Z Z (cs:=V3 ..) Z QB Q1b Z Z (Q1F Z Z Z Zq Z Q1Q Q69 Z (out:=V3 ..) Z (Q65 Z Z Z Zq Z Z Z (neqV _ _ aE (⟨0,0,(⟨#[]⟩ : ByteArray)⟩ : V)) (wP Z (Q4 ?_))))
 have hE:=(Zi hm).symm
 refine Qd (!decide (aE=(⟨0,0,(⟨#[]⟩ : ByteArray)⟩ : V))) hE [15,14,13,1,30] Z (asK [4,5] Z) Z
 replace hm:=Qv hm a6
 refine wO Z (wO Z (wO Z (wO Z (wO Z (wO Z (wO Z (wP Z (Q4 ?_))))))))
 have hE:=(Zi hm).symm
 refine Qd false hE [15,14,13,1,30] Z (asK [2,3] Z) Z
 rintro s hE
 try dsimp only
 have hm:=hLj_2
 try rw [hE] at hm
 refine Qm Z (fun a7=>?_) (fun a7=>?_)
 replace hm:=Qw hm a7
 refine Q2 [] (S':=[]) Z (Q5 (Q1 (wP Z (Q4 (Q3 (Qk (Qa (Q8 (Q8 (Qa (Q8 ?_)))))))))))
 have hE:=(Zi hm).symm
 replace hE:=Qn hLu1 hE
 replace hE:=Qn hLj_1 hE
 replace hE:=hE.symm
 subst hE
 refine Qq (Hr:=[]) [] Tryz.results88 (Qb Z) ⟨Z,Z,Z⟩ (asK [] Z) Z Z (.inl Z)
 replace hm:=Qv hm a7
 refine Q2 [15,14,13,1] (S':=V4 ..) Z (Qt (Qf (Q3 (Q1 (wP Z ?_)))))
 obtain ⟨aH,hm⟩:=Qz hm
 refine QD (d:=31) (v':=.int .i64 ((h+1:Nat):Int)) (S':=V4 ..) Z Z (Q1f (a:=h) (b:=1) aH) (QS (S':=V4 ..) Z Z Z Z Z (Q4 ?_))
 have hE:=(Zi hm).symm
 replace hE:=QA hLu1 hE
 refine QY (_,h+1) (Nat.lt_succ_self _) hE [15,14,13,1] Z (asK [0,1] Z) Z
 replace hm:=Qv hm a5
 refine Q2 [] (S':=[]) Z (Q1k (Qo (Qo (QG ?_))))
 have hE:=(Zi hm).symm
 replace hE:=Qn hLu1 hE
 refine Qu [] Z (H':=[]) Z ?_
 refine Qd () hE [] Z (asK [] Z) Z
 rintro _ hE
 try dsimp only
 have hm:=QA hLj_1 hE
 try dsimp only at hm
 refine Q5 (Q1 (wP Z (Q4 (Q3 (Qk ?_)))))
 have hE:=(Zi hm).symm
 replace hE:=hE.symm
 subst hE
 refine Qq (Hr:=[]) [] Tryz.results88 (Qb Z) ⟨Z,Z,Z⟩ (asK [] Z) Z Z (.inl Z)
theorem Clone121f_s (p:OA)(c:Nat)(l:List Bool)(hb:l.length≤140737488355328):Q1d Tryz.prog 121 [.slice p l.length c] [.sli 1 Q1R p c l] [] (fun v Φr Hr=>∃ p' c',v=.slice p' l.length c' ∧Φr=[]∧Hr=[.own 4 1 Q1R v l]):=by
 refine QI Tryz.func121 Z Tryz.ntmps121 Z (S:=[_]) Z (fun C=>(wc_know (fun F w h=>sli_nil (h _ (Q1W (k:=0) Z))) (fun isnil=>(Q5 (Q1 (wP Z (Q4 (Q3 (Q5 (Q5 (Q1 (wP Z (wl_eqlNil Z Z Z Zq Z Z Z tE_98 (Q4 (Q3 ?_)))))))))))))))
 refine Q2 [4,2,0] (S':=V3 ..) Z ?_
 refine Qm Z (fun h4=>?_) (fun h4=>?_)
 replace h4:=isNone_true h4
 obtain rfl:=isnil h4
 subst h4
 refine Q74 4 1 Q1R (Q5 (Q1 (QS (S':=[_,_]) Z Z Z Z Z (Q4 (Q3 (Qk (Q8 (Qq (Hr:=[.own 4 1 Q1R (V1) []]) [0] Tryz.results121 (Qb Z) ?_ (asK [] Z) Z Z (.inl Z)))))))))
 exact ⟨none,0,Z,Z,Z⟩
 replace h4:=isNone_false h4
 refine Qt (Q3 (Q5 (Q1 (Q1y Z Z Z Zq Z tE_98 tS_4 tZ_4 Z (zs:=[]) (by kernel_rfl) Z (out:=[]) Z (fun g5=>(wP Z (wl_row (sz:=1) (m:=0) Q1R [] 0 Z (fun F w hφ=>Z) Z (by decide) (H':=[_]) Z (Q7F 0 0 Z Z Z Zq Z Z Z Z Z tE_98 tR_4 Z Z (by simp;omega) (by simp;omega) (H2:=fun p7 c7=>[.own 4 1 Q1R (.slice p7 (l).length c7) l]) (fun _ _=>Z) (fun p7 c7=>(QS (S':=V5 ..) Z Z Z Z Z (Q4 (Q3 (Q2 [2,4,0] (S':=V3 ..) Z (Qk (Qq (Hr:=[.own 4 1 Q1R (.slice p7 (l).length c7) l]) [0] Tryz.results121 (Qb Z) ?_ (asK [] Z) Z Z (.inl Z))))))))))))))))
 exact ⟨_,_,Z,Z,Z⟩
theorem Clone68f_s (p:OA)(c:Nat)(l:List V)(hb:l.length≤4398046511104):Q1d Tryz.prog 68 [.slice p l.length c] [.sli 3 R_V p c l] [] (fun v Φr Hr=>∃ p' c',v=.slice p' l.length c' ∧Φr=[]∧Hr=[.own 57 3 R_V v l]):=by
 refine QI Tryz.func68 Z Tryz.ntmps68 Z (S:=[_]) Z (fun C=>(wc_know (fun F w h=>sli_nil (h _ (Q1W (k:=0) Z))) (fun isnil=>(Q5 (Q1 (wP Z (Q4 (Q3 (Q5 (Q5 (Q1 (wP Z (wl_eqlNil Z Z Z Zq Z Z Z Q29 (Q4 (Q3 ?_)))))))))))))))
 refine Q2 [4,2,0] (S':=V3 ..) Z ?_
 refine Qm Z (fun h4=>?_) (fun h4=>?_)
 replace h4:=isNone_true h4
 obtain rfl:=isnil h4
 subst h4
 refine Q74 57 3 R_V (Q5 (Q1 (QS (S':=[_,_]) Z Z Z Z Z (Q4 (Q3 (Qk (Q8 (Qq (Hr:=[.own 57 3 R_V (V1) []]) [0] Tryz.results68 (Qb Z) ?_ (asK [] Z) Z Z (.inl Z)))))))))
 exact ⟨none,0,Z,Z,Z⟩
 replace h4:=isNone_false h4
 refine Qt (Q3 (Q5 (Q1 (Q1y Z Z Z Zq Z Q29 QB Q1Q Z (zs:=[]) (by kernel_rfl) Z (out:=[]) Z (fun g5=>(wP Z (wl_row (sz:=3) (m:=0) R_V [] 0 Z (fun F w hφ=>Z) Z (by decide) (H':=[_]) Z (Q7F 0 0 Z Z Z Zq Z Z Z Z Z Q29 tR_57 Z Z (by simp;omega) (by simp;omega) (H2:=fun p7 c7=>[.own 57 3 R_V (.slice p7 (l).length c7) l]) (fun _ _=>Z) (fun p7 c7=>(QS (S':=V5 ..) Z Z Z Z Z (Q4 (Q3 (Q2 [2,4,0] (S':=V3 ..) Z (Qk (Qq (Hr:=[.own 57 3 R_V (.slice p7 (l).length c7) l]) [0] Tryz.results68 (Qb Z) ?_ (asK [] Z) Z Z (.inl Z))))))))))))))))
 exact ⟨_,_,Z,Z,Z⟩
theorem w_pattern_of_s (N:Nat)(qp0:OA)(qc1:Nat)(l0:List Bool)(qp2:OA)(qc3:Nat)(l1:List V)  (hm:Q8b N l0 l1=some ()):Q1d Tryz.prog 89 [.agg #[.slice qp0 l0.length qc1,.slice qp2 l1.length qc3]] [.sli 1 Q1R qp0 qc1 l0,.sli 3 R_V qp2 qc3 l1] [] (fun v Φr Hr=>∃ (o0:OA)(o1:Nat)(o2:OA)(o3:Nat),v=.agg #[.slice o0 l0.length o1,.slice o2 l1.length o3]∧Φr=[]∧Hr=[.own 4 1 Q1R (.slice o0 l0.length o1) l0,.own 57 3 R_V (.slice o2 l1.length o3) l1]):=by
 unfold Q8b at hm
 refine QI Tryz.func89 Z Tryz.ntmps89 Z (S:=[_]) Z (fun C=>(Q5 (Q1 (wB Z (fun g1=>(Q13 Z Z Z Zq Z tZ_152 Z (fun g2=>(Q4 (Q3 (Q2 [2,1] (S':=[_,_]) Z (Q5 ?_)))))))))))
 obtain ⟨hg5,hm⟩:=Qz hm
 obtain ⟨hg8,hm⟩:=Qz hm
 refine QR [0,1,3,4,6,7] Z Z (fun hok=>(Q9 hok 0 Z Z Z Zq Z Z Z Q8y (Ql hok 1 1 0 Z Z Z Zq Z Z Z Z (cs:=[_]) Z tS_98 tA_98 Z Z (Q9 hok 3 Z Z Z Zq Z Z Z Q8z (Ql hok 4 1 1 Z Z Z Zq Z Z Z Z (cs:=[_]) Z Q5i Q5f Z Z (xS hok 2 Z (wC [] [0,1] Z fn_121 Z (Clone121f_s qp0 qc1 l0 hg5) (asK [0] Z) Z (H':=[_,_]) Z ?_)))))))
 rintro _ _ _ ⟨p5,c5,rfl,rfl,rfl⟩
 refine Q4 (Q12 [0,1] [2] Z Z (xS hok 5 Z (wC [] [0,1,2] Z fn_68 Z (Clone68f_s qp2 qc3 l1 hg8) (asK [1] Z) Z (H':=V3 ..) Z ?_)))
 rintro _ _ _ ⟨p8,c8,rfl,rfl,rfl⟩
 refine Q4 (Q12 [0,1] [3] Z Z (QaC hok 6 Z Z Z Zq Z Z Q9d tP_100 Z (out:=[_,_]) Z (QaC hok 7 Z Z Z Zq Z Z tZ_152 tP_152 Z (out:=[_,_]) Z (xS hok 8 Z (wS 2 0 Z tS_152 (all':=[_,_]) Z (H':=V4 ..) Z (Q4 (Q12 [0,1] [] Z Z (QO hok Z (Q3 (Q2 [2] (S':=[_]) Z (Qk ?_)))))))))))
 have hE:=(Zi hm).symm
 refine Qq (Hr:=[_,_]) [1,0] Tryz.results89 (Q1e 2 Z Z tS_152 tA_152 Z Z) ⟨p5,c5,p8,c8,Z,Z,Z⟩ (asK [] Z) Z Z (.inl Z)
theorem Q9w (N:Nat)(aC:OA)(aD:Nat)(aE:Nat)(l0:List Bool)(aF:OA)(aG:Nat)(aH:Nat)(l1:List V)(a2:Int)(a3:Int)(a4:Int)(a5:Int)(a6:ByteArray)(a7:Int)(a8:Int)(a9:ByteArray)(o0:Bool)(o1:List Bool)(o2:List V)(hm:Q3N N l0 l1 a2 a3 a4 a5 a6 a7 a8 a9=some (o0,o1,o2)):Q1d Tryz.prog 90 [.agg #[.slice aC aD aE,.slice aF aG aH],.agg #[.int .u8 a2,.int .i64 a3,.int .u8 a4,.int .i64 a5,.string a6],.agg #[.int .u8 a7,.int .i64 a8,.string a9]] [] [.own 4 1 Q1R (.slice aC aD aE) l0,.own 57 3 R_V (.slice aF aG aH) l1] (fun v Φr Hr=>v=.bool o0∧Φr=[]∧Hr=[.own 4 1 Q1R (.slice aC aD aE) o1,.own 57 3 R_V (.slice aF aG aH) o2]):=by
 unfold Q3N at hm
 refine QI Tryz.func90 Z Tryz.ntmps90 Z (S:=V3 ..) Z (fun C=>(Q5 (Q1 (wB Z (fun g3=>(wB Z (fun g4=>(wB Z (fun g5=>(wP Z (Q4 (Q3 (Q2 [5,4,3] (S':=V3 ..) Z (Q5 ?_))))))))))))))
 obtain ⟨b1,hm,hLj_1⟩:=Q7 hm
 refine QF (σ:=Bool) (fun z=>b1=z) (fun z=>[(5,.pointer (some ⟨g5,0,none⟩)),(4,.pointer (some ⟨g4,0,none⟩)),(3,.pointer (some ⟨g3,0,none⟩)),(7,.bool z)]) (fun z=>[]) (fun z=>[.blk g5 [.int .u8 a7,.int .i64 a8,.string a9] 57,.blk g4 [.int .u8 a2,.int .i64 a3,.int .u8 a4,.int .i64 a5,.string a6] 59,.blk g3 [.slice aC aD aE,.slice aF aG aH] 152,.own 4 1 Q1R (.slice aC aD aE) l0,.own 57 3 R_V (.slice aF aG aH) l1]) ?_ ?_
 refine Q1 (wF Z Q2S (wD 1 1 Z QZ Q15 Z (wP Z (wP Z ?_))))
 refine Qr (d:=11) (S':=V6 ..) Z Z (fun aI=>?_) (fun aI=>?_)
 replace hm:=Qw hm aI
 refine wF Z Q2S (wD 1 1 Z QZ Q15 Z (wF Z Q8A (wF Z Q8y (wD 2 0 Z tS_98 tA_98 Z (Q3H 3 Z (fun b2 _=>(wN Z tE_98 (QD (d:=17) (v':=.int .i64 ((l0.length:Nat):Int)) (S':=V12 ..) Z Z (len_is b2) (wP Z (wP Z (wP Z (Q4 ?_))))))))))))
 have hE:=(Zi hm).symm
 refine Qd (decide (a3 < ((l0.length:Nat):Int))) hE [5,4,3,7] Z (asK [] Z) Z
 replace hm:=Qv hm aI
 refine wO Z (wO Z (wO Z (wO Z (wO Z (wO Z (wO Z (wP Z (wP Z (Q4 ?_)))))))))
 have hE:=(Zi hm).symm
 refine Qd false hE [5,4,3,7] Z (asK [] Z) Z
 rintro z hE
 try dsimp only
 have hm:=hLj_1
 try rw [hE] at hm
 refine Q5 (Q5 (Q1 (wF Z tF_59_0 (wD 1 0 Z tS_54 tA_54 Z (Q4 (Q3 (Q2 [21,5,4,3,7] (S':=V5 ..) Z (Qx (Q5 (Q1 (wP Z (wP Z (Q4 ?_)))))))))))))
 refine Q3 (Q2 [22,21,5,4,3,7] (S':=V6 ..) Z ?_)
 refine Qm Z (fun aJ=>?_) (fun aJ=>?_)
 replace hm:=Qw hm aJ
 refine Q2 [] (S':=[]) Z (Q5 (Q1 (wP Z (Q4 (Q3 (Qk (Qa (Q8 ?_))))))))
 have hE:=(Zi hm).symm
 obtain ⟨hE0,hF1⟩:=Prod.mk.inj hE
 obtain ⟨hE1,hE2⟩:=Prod.mk.inj hF1
 clear hE hF1
 replace hE0:=hE0.symm
 subst hE0
 replace hE1:=hE1.symm
 subst hE1
 replace hE2:=hE2.symm
 subst hE2
 refine Qq (Hr:=[_,_]) [3,4] Tryz.results90 (Qb Z) ⟨Z,Z,Z⟩ (asK [] Z) Z Z (.inl Z)
 replace hm:=Qv hm aJ
 refine Q2 [21,5,4,3,7] (S':=V5 ..) Z (Q5 (Q1 (wP Z (wP Z (Q4 (Q3 (Q2 [24,21,5,4,3,7] (S':=V6 ..) Z ?_)))))))
 refine Qm Z (fun aK=>?_) (fun aK=>?_)
 replace hm:=Qw hm aK
 refine Q2 [5,4] (S':=[_,_]) Z (Q5 (Q1 (wF Z Q91 (QM 1 2 Z Z Z Zq Z Z Z (cs:=V3 ..) Z QB Q1b Z Z (QM 0 0 Z Z Z Zq Z Z Z (cs:=V3 ..) Z QB Q1b Z Z (Q65 Z Z Z Zq Z Z Z (eqlV _ _ (⟨a4,a5,a6⟩ : V) (⟨a7,a8,a9⟩ : V)) (wP Z (Q4 (Q3 (Q2 [6] (S':=[_]) Z (Qk (Qa (Q8 ?_)))))))))))))
 have hE:=(Zi hm).symm
 obtain ⟨hE0,hF1⟩:=Prod.mk.inj hE
 obtain ⟨hE1,hE2⟩:=Prod.mk.inj hF1
 clear hE hF1
 replace hE0:=hE0.symm
 subst hE0
 replace hE1:=hE1.symm
 subst hE1
 replace hE2:=hE2.symm
 subst hE2
 refine Qq (Hr:=[_,_]) [3,4] Tryz.results90 (Qb Z) ⟨Z,Z,Z⟩ (asK [] Z) Z Z (.inl Z)
 replace hm:=Qv hm aK
 refine Q2 [21,5,4,3,7] (S':=V5 ..) Z (Q5 (Q1 (wP Z (wP Z (Q4 (Q3 (Q2 [30,21,5,4,3,7] (S':=V6 ..) Z ?_)))))))
 refine Qm Z (fun aL=>?_) (fun aL=>?_)
 replace hm:=Qw hm aL
 refine Q2 [5,4,3,7] (S':=V4 ..) Z (Q5 ?_)
 rcases Q14 hm with ⟨aA,hm⟩ | ⟨aA,hm⟩
 obtain ⟨aS,hm⟩:=Qz hm
 obtain ⟨b3,aB,hm⟩:=Q7 hm
 rcases Q14 hm with ⟨aM,hm⟩ | ⟨aM,hm⟩
 obtain ⟨b4,hm⟩:=Qz hm
 obtain ⟨aR,aT,hm⟩:=Q7 hm
 refine QR [0,1,2,3,4,5,6,7,8,9,10,11,12,13,14,15,16,17,18,19,20] Z Z (fun hok=>(xP hok 0 Z (xP hok 1 Z (Q17 (d:=33) (v':=.bool true) (S':=V5 ..) Z Z (QJ aA) (Q9 hok 2 Z Z Z Zq Z Z Z Q8A (Q9 hok 3 Z Z Z Zq Z Z Z Q8y (Ql hok 4 2 0 Z Z Z Zq Z Z Z Z (cs:=[_]) Z tS_98 tA_98 Z Z (Q9 hok 5 Z Z Z Zq Z Z Z Q2S (Ql hok 6 1 1 Z Z Z Zq Z Z Z Z (cs:=[_]) Z QZ Q15 Z Z (Q7G hok 7 3 a3.toNat Z Z Z Zq Z Z Z Z Z (Q1I aS) (Q77 aB) tE_98 tS_4 (fun bD aN=>?_)))))))))))
 subst aN
 refine Qa9 hok 8 Q9D 3 a3.toNat 0 Z Z Z Zq Z Z Z Z aB tS_4 tA_4 (v:=.bool b3) Z Z (fun _=>(xP hok 9 Z (xP hok 10 Z (Q17 (d:=42) (v':=.bool true) (S':=V14 ..) Z Z (QJ aM) (Q9 hok 11 Z Z Z Zq Z Z Z Q8A (Q9 hok 12 Z Z Z Zq Z Z Z Q8z (Ql hok 13 2 1 Z Z Z Zq Z Z Z Z (cs:=[_]) Z Q5i Q5f Z Z (Q9 hok 14 Z Z Z Zq Z Z Z Q2S (Ql hok 15 1 1 Z Z Z Zq Z Z Z Z (cs:=[_]) Z QZ Q15 Z Z (Q7G hok 16 4 a3.toNat Z Z Z Zq Z Z Z Z Z (Q1I b4) (Q77 aT) Q29 QB (fun bL b5=>?_)))))))))))
 subst b5
 refine Qa9 hok 17 Q2l 4 a3.toNat 0 Z Z Z Zq Z Z Z Z aT QB Q1b (v:=.agg #[.int .u8 (aR.k),.int .i64 (aR.n),.string aR.s]) Z Z (fun _=>(Ql hok 18 0 0 Z Z Z Zq Z Z Z Z (cs:=V3 ..) Z QB Q1b Z Z (wx_bin hok 19 Z Z Z Zq Z Z Z Z (eqlV _ _ aR (⟨a7,a8,a9⟩ : V)) (xP hok 20 Z (xS hok 21 Z (wP Z (Q4 (Q12 [] [] Z Z (QO hok Z (Q3 (Q2 [6] (S':=[_]) Z (Qk (Qa (Q8 ?_))))))))))))))
 have hE:=(Zi hm).symm
 obtain ⟨hE0,hF1⟩:=Prod.mk.inj hE
 obtain ⟨hE1,hE2⟩:=Prod.mk.inj hF1
 clear hE hF1
 replace hE0:=hE0.symm
 subst hE0
 replace hE1:=hE1.symm
 subst hE1
 replace hE2:=hE2.symm
 subst hE2
 refine Qq (Hr:=[_,_]) [3,4] Tryz.results90 (Qb Z) ⟨Z,Z,Z⟩ (asK [] Z) Z Z (.inl Z)
 refine QR [0,1,2,3,4,5,6,7,8,9,10,11,12,13,14,15,16,17,18,19,20] Z Z (fun hok=>(xP hok 0 Z (xP hok 1 Z (Q17 (d:=33) (v':=.bool true) (S':=V5 ..) Z Z (QJ aA) (Q9 hok 2 Z Z Z Zq Z Z Z Q8A (Q9 hok 3 Z Z Z Zq Z Z Z Q8y (Ql hok 4 2 0 Z Z Z Zq Z Z Z Z (cs:=[_]) Z tS_98 tA_98 Z Z (Q9 hok 5 Z Z Z Zq Z Z Z Q2S (Ql hok 6 1 1 Z Z Z Zq Z Z Z Z (cs:=[_]) Z QZ Q15 Z Z (Q7G hok 7 3 a3.toNat Z Z Z Zq Z Z Z Z Z (Q1I aS) (Q77 aB) tE_98 tS_4 (fun bD aN=>?_)))))))))))
 subst aN
 refine Qa9 hok 8 Q9D 3 a3.toNat 0 Z Z Z Zq Z Z Z Z aB tS_4 tA_4 (v:=.bool b3) Z Z (fun _=>(xP hok 9 Z (xP hok 10 Z (Q17 (d:=42) (v':=.bool false) (S':=V14 ..) Z Z (QJ aM) (xO hok 11 Z (xO hok 12 Z (xO hok 13 Z (xO hok 14 Z (xO hok 15 Z (xO hok 16 Z (xO hok 17 Z (xO hok 18 Z (xO hok 19 Z (xP hok 20 Z ?_))))))))))))))
 refine xS hok 21 Z (wP Z (Q4 (Q12 [] [] Z Z (QO hok Z (Q3 (Q2 [6] (S':=[_]) Z (Qk (Qa (Q8 ?_)))))))))
 have hE:=(Zi hm).symm
 obtain ⟨hE0,hF1⟩:=Prod.mk.inj hE
 obtain ⟨hE1,hE2⟩:=Prod.mk.inj hF1
 clear hE hF1
 replace hE0:=hE0.symm
 subst hE0
 replace hE1:=hE1.symm
 subst hE1
 replace hE2:=hE2.symm
 subst hE2
 refine Qq (Hr:=[_,_]) [3,4] Tryz.results90 (Qb Z) ⟨Z,Z,Z⟩ (asK [] Z) Z Z (.inl Z)
 refine QR [0,1,2,3,4,5,6,7,8,9,10,11,12,13,14,15,16,17,18,19,20] Z Z (fun hok=>(xP hok 0 Z (xP hok 1 Z (Q17 (d:=33) (v':=.bool false) (S':=V5 ..) Z Z (QJ aA) (xO hok 2 Z (xO hok 3 Z (xO hok 4 Z (xO hok 5 Z (xO hok 6 Z (xO hok 7 Z (xO hok 8 Z (xP hok 9 Z (xP hok 10 Z (xO hok 11 Z ?_))))))))))))))
 refine xO hok 12 Z (xO hok 13 Z (xO hok 14 Z (xO hok 15 Z (xO hok 16 Z (xO hok 17 Z (xO hok 18 Z (xO hok 19 Z (xP hok 20 Z (xS hok 21 Z (wP Z (Q4 (Q12 [] [] Z Z (QO hok Z ?_)))))))))))))
 refine Q3 (Q2 [6] (S':=[_]) Z (Qk (Qa (Q8 ?_))))
 have hE:=(Zi hm).symm
 obtain ⟨hE0,hF1⟩:=Prod.mk.inj hE
 obtain ⟨hE1,hE2⟩:=Prod.mk.inj hF1
 clear hE hF1
 replace hE0:=hE0.symm
 subst hE0
 replace hE1:=hE1.symm
 subst hE1
 replace hE2:=hE2.symm
 subst hE2
 refine Qq (Hr:=[_,_]) [3,4] Tryz.results90 (Qb Z) ⟨Z,Z,Z⟩ (asK [] Z) Z Z (.inl Z)
 replace hm:=Qv hm aL
 refine Q2 [21,5,4,3,7] (S':=V5 ..) Z (Q5 (Q1 (wP Z (wP Z (Q4 (Q3 (Q2 [53,5,4,3,7] (S':=V5 ..) Z ?_)))))))
 refine Qm Z (fun aO=>?_) (fun aO=>?_)
 replace hm:=Qw hm aO
 refine Q2 [5,4,3,7] (S':=V4 ..) Z (Q5 ?_)
 obtain ⟨b6,hm,hLj_2⟩:=Q7 hm
 unfold Q42 at hm
 refine QF (σ:=(List Bool)×(List V)) (fun (h,y)=>b6=(h,y)) (fun (h,y)=>[(7,.bool z)]) (fun (h,y)=>[]) (fun (h,y)=>[.own 4 1 Q1R (.slice aC aD aE) h,.own 57 3 R_V (.slice aF aG aH) y]) ?_ ?_
 refine Q5 (Q1 (wP Z (Q4 (Q3 ?_))))
 refine Qm Z (fun aP=>?_) (fun aP=>?_)
 ·
  replace hm:=Qw hm aP
  refine Q2 [5,4,3,7] (S':=V4 ..) Z ?_
  obtain ⟨aU,hm⟩:=Qz hm
  obtain ⟨bM,a1,hm⟩:=Q7 hm
  obtain ⟨b7,hm⟩:=Qz hm
  obtain ⟨bN,aV,hm⟩:=Q7 hm
  refine QR [0,1,3,4,5,6,8,9,10,11,13] Z Z (fun hok=>(Q9 hok 0 Z Z Z Zq Z Z Z Q8A (Q9 hok 1 Z Z Z Zq Z Z Z Q8y (Q9 hok 3 Z Z Z Zq Z Z Z Q2S (Ql hok 4 1 1 Z Z Z Zq Z Z Z Z (cs:=[_]) Z QZ Q15 Z Z (Q9 hok 5 Z Z Z Zq Z Z Z Q8A (Q9 hok 6 Z Z Z Zq Z Z Z Q8z (Q9 hok 8 Z Z Z Zq Z Z Z Q2S (Ql hok 9 1 1 Z Z Z Zq Z Z Z Z (cs:=[_]) Z QZ Q15 Z Z (Ql hok 10 0 0 Z Z Z Zq Z Z Z Z (cs:=V3 ..) Z QB Q1b Z Z ?_))))))))))
  refine Q8H hok 2 7 Z Z Z Z Z Z ?_ ?_
  rotate_left
  focus
   refine wD 2 1 Z Q5i Q5f Z (Q4 (Q12 [] [0,1,1] Z Z (xS hok 2 Z (wD 2 0 Z tS_98 tA_98 Z (Q4 (Q12 [] [0,1,1] Z Z (Q7G hok 11 3 a3.toNat Z Z Z Zq Z Z Z Z Z (Q1I aU) (Q77 a1) tE_98 tS_4 (fun bE aQ=>?_))))))))
   subst aQ
   refine xS hok 12 Z (Q99 (u:=true) 3 a3.toNat Z Z Z Z Z (Q77 a1) Z Z tS_4 Z (fun F w hφ=>⟨(),Z,Q1n⟩) (H':=V5 ..) Z (Q4 (Q12 [] [0,1] Z Z ?_)))
  rotate_right
  focus
   refine wD 2 0 Z tS_98 tA_98 Z (Q4 (Q12 [] [0,1,1] Z Z (Q7G hok 11 3 a3.toNat Z Z Z Zq Z Z Z Z Z (Q1I aU) (Q77 a1) tE_98 tS_4 (fun bE aQ=>?_))))
   subst aQ
   refine Q8H hok 7 12 Z Z Z Z Z Z ?_ ?_
   rotate_left
   focus
    refine Q99 (u:=true) 3 a3.toNat Z Z Z Z Z (Q77 a1) Z Z tS_4 Z (fun F w hφ=>⟨(),Z,Q1n⟩) (H':=V5 ..) Z (Q4 (Q12 [] [0,1] Z Z (xS hok 7 Z (wD 2 1 Z Q5i Q5f Z (Q4 (Q12 [] [0,1,1] Z Z ?_))))))
   rotate_right
   focus
    refine wD 2 1 Z Q5i Q5f Z (Q4 (Q12 [] [0,1,1] Z Z (xS hok 12 Z (Q99 (u:=true) 3 a3.toNat Z Z Z Z Z (Q77 a1) Z Z tS_4 Z (fun F w hφ=>⟨(),Z,Q1n⟩) (H':=V5 ..) Z (Q4 (Q12 [] [0,1] Z Z ?_))))))
  all_goals
   refine Q7G hok 13 4 a3.toNat Z Z Z Zq Z Z Z Z Z (Q1I b7) (Q77 aV) Q29 QB (fun bO b8=>?_)
   subst b8
   refine xS hok 14 Z (Q99 (u:=(⟨a7,a8,a9⟩ : V)) 4 a3.toNat Z Z Z Z Z (Q77 aV) Z Z QB Z (fun F w hφ=>⟨(),Z,Q1n⟩) (H':=V5 ..) Z (Q4 (Q12 [] [] Z Z (QO hok Z ?_))))
   have hE:=(Zi hm).symm
   refine Qu [3,4] Z (H':=[_,_]) Z ?_
   refine Qd (l0.set a3.toNat true,(l1.set a3.toNat (⟨a7,a8,a9⟩ : V))) hE [7] Z (asK [] Z) Z
 replace hm:=Qv hm aP
 refine Q2 [7] (S':=[_]) Z (Qt ?_)
 have hE:=(Zi hm).symm
 refine Qu [3,4] Z (H':=[_,_]) Z ?_
 refine Qd (l0,l1) hE [7] Z (asK [] Z) Z
 rintro ⟨h,y⟩ hE
 try dsimp only
 have hm:=hLj_2
 try rw [hE] at hm
 try dsimp only at hm
 refine Q5 (Q1 (wP Z (wP Z (Q4 (Q3 (Q2 [6] (S':=[_]) Z (Qk (Qa (Q8 ?_)))))))))
 have hE:=(Zi hm).symm
 obtain ⟨hE0,hF1⟩:=Prod.mk.inj hE
 obtain ⟨hE1,hE2⟩:=Prod.mk.inj hF1
 clear hE hF1
 replace hE0:=hE0.symm
 subst hE0
 replace hE1:=hE1.symm
 subst hE1
 replace hE2:=hE2.symm
 subst hE2
 refine Qq (Hr:=[_,_]) [0,1] Tryz.results90 (Qb Z) ⟨Z,Z,Z⟩ (asK [] Z) Z Z (.inl Z)
 replace hm:=Qv hm aO
 refine Q2 [] (S':=[]) Z (Qt (Qf (Q3 (Q5 (Q1 (wP Z (Q4 (Q3 (Qk ?_)))))))))
 have hE:=(Zi hm).symm
 obtain ⟨hE0,hF1⟩:=Prod.mk.inj hE
 obtain ⟨hE1,hE2⟩:=Prod.mk.inj hF1
 clear hE hF1
 replace hE0:=hE0.symm
 subst hE0
 replace hE1:=hE1.symm
 subst hE1
 replace hE2:=hE2.symm
 subst hE2
 refine Qq (Hr:=[_,_]) [3,4] Tryz.results90 (Qb Z) ⟨Z,Z,Z⟩ (asK [] Z) Z Z (.inl Z)
theorem Q98 (N:Nat)(a0:Int)(a1:Int)(aP:OA)(aQ:Nat)(l2:List Q3S)(a3:Int)(a4:Int)(a5:Int)(a6:ByteArray)(a7:Int)(a8:Int)(aZ:OA)(b0:Nat)(l9:List Qe)(b1:Int)(b2:Int)(aR:OA)(aS:Nat)(aK:List V)(aT:OA)(aU:Nat)(aL:List Bool)(aV:OA)(aW:Nat)(aM:List V)(o2:List Bool)(o6:List V)(o8:Bool)(hm:Q54 N a0 a1 l2 a3 a4 a5 a6 a7 a8 l9 b1 b2 aK aL aM=some (o2,o6,o8)):Q1d Tryz.prog 49 [.agg #[.int .u8 a0,.int .i64 a1,.slice aP l2.length aQ,.int .u8 a3,.int .u8 a4,.int .i64 a5,.string a6,.int .i64 a7,.int .u8 a8,.slice aZ l9.length b0],.agg #[.int .i64 b1,.int .i64 b2,.slice aR aK.length aS],.agg #[.slice aT aL.length aU,.slice aV aM.length aW]] [.sli 5 Q2w aP aQ l2,.sli 7 Qs aZ b0 l9,.sli 3 R_V aR aS aK,.sli 1 Q1R aT aU aL,.sli 3 R_V aV aW aM] [] (fun v Φr Hr=>∃ (o0:OA)(o1:Nat)(o3:Nat)(o4:OA)(o5:Nat)(o7:Nat),v=.tuple #[.agg #[.slice o0 o3 o1,.slice o4 o7 o5],.bool o8]∧Φr=[]∧Hr=[.own 4 1 Q1R (.slice o0 o3 o1) o2,.own 57 3 R_V (.slice o4 o7 o5) o6]):=by
 unfold Q54 at hm
 refine QI Tryz.func49 Z Tryz.ntmps49 Z (S:=V3 ..) Z (fun C=>(Q5 (Q1 (wB Z (fun g3=>(wB Z (fun g4=>(wB Z (fun g5=>(Q13 Z Z Z Zq Z Q9d Z (fun g6=>(wP Z (Q4 (Q3 (Q2 [6,5,4,3] (S':=V4 ..) Z (Q5 ?_))))))))))))))))
 obtain ⟨bJ,hm,hLj_1⟩:=Q7 hm
 refine QF (σ:=Bool) (fun aF=>bJ=aF) (fun aF=>[(6,.pointer (some ⟨g6,0,none⟩)),(5,.pointer (some ⟨g5,0,none⟩)),(4,.pointer (some ⟨g4,0,none⟩)),(3,.pointer (some ⟨g3,0,none⟩)),(8,.bool aF)]) (fun aF=>[.sli 1 Q1R aT aU aL,.sli 3 R_V aV aW aM,.sli 3 R_V aR aS aK,.sli 5 Q2w aP aQ l2,.sli 7 Qs aZ b0 l9]) (fun aF=>[.blk g6 [V1,V1] 100,.blk g5 [.slice aT aL.length aU,.slice aV aM.length aW] 100,.blk g4 [.int .i64 b1,.int .i64 b2,.slice aR aK.length aS] 71,.blk g3 [.int .u8 a0,.int .i64 a1,.slice aP l2.length aQ,.int .u8 a3,.int .u8 a4,.int .i64 a5,.string a6,.int .i64 a7,.int .u8 a8,.slice aZ l9.length b0] 67]) ?_ ?_
 refine Q1 (wF Z Q6o (wD 3 0 Z tS_53 tA_53 Z (wP Z (wP Z ?_))))
 refine Qr (d:=15) (S':=V7 ..) Z Z (fun b3=>?_) (fun b3=>?_)
 replace hm:=Qw hm b3
 refine wO Z (wO Z (wO Z (wP Z (wP Z (Q4 ?_)))))
 have hE:=(Zi hm).symm
 refine Qd true hE [6,5,4,3,8] Z (asK [3,4,2,0,1] Z) Z
 replace hm:=Qv hm b3
 refine wF Z Q6o (wD 3 0 Z tS_53 tA_53 Z (wP Z (wP Z (wP Z (Q4 ?_)))))
 have hE:=(Zi hm).symm
 refine Qd (a0==2) hE [6,5,4,3,8] Z (asK [3,4,2,0,1] Z) Z
 rintro aF hE
 try dsimp only
 have hm:=hLj_1
 try rw [hE] at hm
 refine Q5 (Q5 ?_)
 obtain ⟨bK,hm,hLj_2⟩:=Q7 hm
 unfold Q5O at hm
 refine QF (σ:=Bool) (fun aE=>bK=aE) (fun aE=>[(6,.pointer (some ⟨g6,0,none⟩)),(5,.pointer (some ⟨g5,0,none⟩)),(4,.pointer (some ⟨g4,0,none⟩)),(3,.pointer (some ⟨g3,0,none⟩)),(42,.bool aE)]) (fun aE=>[.sli 1 Q1R aT aU aL,.sli 3 R_V aV aW aM,.sli 3 R_V aR aS aK,.sli 5 Q2w aP aQ l2,.sli 7 Qs aZ b0 l9]) (fun aE=>[.blk g6 [V1,V1] 100,.blk g5 [.slice aT aL.length aU,.slice aV aM.length aW] 100,.blk g4 [.int .i64 b1,.int .i64 b2,.slice aR aK.length aS] 71,.blk g3 [.int .u8 a0,.int .i64 a1,.slice aP l2.length aQ,.int .u8 a3,.int .u8 a4,.int .i64 a5,.string a6,.int .i64 a7,.int .u8 a8,.slice aZ l9.length b0] 67]) ?_ ?_
 refine Q1 (wP Z (wP Z (wP Z ?_)))
 refine Qr (d:=22) (S':=V7 ..) Z Z (fun b4=>?_) (fun b4=>?_)
 replace hm:=Qw hm b4
 refine wO Z (wO Z (wO Z (wO Z (wO Z (wP Z (wP Z (wO Z (wO Z (wO Z (wO Z (wO Z (wO Z (wO Z ?_)))))))))))))
 refine wP Z (wP Z (wO Z (wO Z (wO Z (wP Z (Q4 ?_))))))
 have hE:=(Zi hm).symm
 refine Qd true hE [6,5,4,3,42] Z (asK [0,1,2,3,4] Z) Z
 replace hm:=Qv hm b4
 refine wF Z tF_67_1 (wD 3 1 Z QZ Q15 Z (wF Z Q5h (wD 2 1 Z QZ Q15 Z (wP Z (wP Z (wP Z ?_))))))
 refine Qr (d:=29) (S':=V14 ..) Z Z (fun b5=>?_) (fun b5=>?_)
 replace hm:=Qw hm b5
 refine wO Z (wO Z (wO Z (wO Z (wO Z (wO Z (wO Z (wP Z (wP Z (wO Z (wO Z (wO Z (wP Z (Q4 ?_)))))))))))))
 have hE:=(Zi hm).symm
 refine Qd true hE [6,5,4,3,42] Z (asK [0,1,2,3,4] Z) Z
 replace hm:=Qv hm b5
 refine wF Z Q6J (wD 3 2 Z tS_60 tA_60 Z (wN Z Q8Y (wF Z Q68 (wD 2 2 Z Q5i Q5f Z (wN Z Q29 (wP Z (QD (d:=36) (v':=.bool (l2.length !=aK.length)) (S':=V21 ..) Z Z (natne (a:=l2.length) (b:=aK.length)) (wP Z (wP Z ?_)))))))))
 refine Qr (d:=38) (S':=V23 ..) Z Z (fun b6=>?_) (fun b6=>?_)
 replace hm:=Qw hm b6
 refine wO Z (wO Z (wO Z (wP Z (Q4 ?_))))
 have hE:=(Zi hm).symm
 refine Qd true hE [6,5,4,3,42] Z (asK [0,1,2,3,4] Z) Z
 replace hm:=Qv hm b6
 refine QM 1 0 Z Z Z Zq Z Z Z (cs:=[_,_]) Z Q5G Q8w Z Z ?_
 obtain ⟨c4,bL,hm⟩:=Q7 hm
 refine wC [] [0,1,2,3] Z fn_88 Z (Qay N aT aU aL aV aW aM _ bL) (asK [0,1] Z) Z (H':=V4 ..) Z ?_
 rintro _ _ _ ⟨rfl,rfl,rfl⟩
 refine wP Z (wP Z (Q4 ?_))
 have hE:=(Zi hm).symm
 refine Qd (!c4) hE [6,5,4,3,42] Z (asK [0,1,2,3,4] Z) Z
 rintro aE hE
 try dsimp only
 have hm:=hLj_2
 try rw [hE] at hm
 refine Qm Z (fun b7=>?_) (fun b7=>?_)
 replace hm:=Qw hm b7
 refine Q2 [6] (S':=[_]) Z (Q5 (Q1 (Q1F Z Z Z Zq Z Q9d tP_100 Z (out:=[_,_]) Z (wS 0 0 Z Q5G (all':=[_,_]) Z (H':=V4 ..) Z (wP Z (Q4 (Q3 (Q2 [7,6] (S':=[_,_]) Z (Qk (Q8 ?_))))))))))
 have hE:=(Zi hm).symm
 obtain ⟨hE0,hF1⟩:=Prod.mk.inj hE
 obtain ⟨hE1,hE2⟩:=Prod.mk.inj hF1
 clear hE hF1
 replace hE0:=hE0.symm
 subst hE0
 replace hE1:=hE1.symm
 subst hE1
 replace hE2:=hE2.symm
 subst hE2
 refine Q2T 4 1 Q1R (Q2T 57 3 R_V ?_)
 refine QH (Hr:=[_,_]) [1,0] Tryz.results49 (Q1e 2 Z Z Q5G Q8w Z Z) (Qb Z) ⟨none,0,0,none,0,0,Z,Z,Z⟩ (asK [] Z) Z Z (.inl Z)
 replace hm:=Qv hm b7
 refine Q2 [6,5,4,3] (S':=V4 ..) Z (Qt (Q3 (Q5 (Q1 (QM 1 0 Z Z Z Zq Z Z Z (cs:=[_,_]) Z Q5G Q8w Z Z ?_)))))
 obtain ⟨_,bM,hm⟩:=Q7 hm
 try dsimp only at hm
 refine wC [] [0,1,2,3] Z fn_89 Z (w_pattern_of_s N aT aU aL aV aW aM bM) (asK [0,1] Z) Z (H':=V4 ..) Z ?_
 rintro _ _ _ ⟨aG,aH,aI,aJ,rfl,rfl,rfl⟩
 refine Q13 Z Z Z Zq Z tZ_152 Z (fun g9=>(wS 0 0 Z tS_152 (all':=[_,_]) Z (H':=V7 ..) Z (Q4 (Q3 (Q2 [9,6,4,3] (S':=V4 ..) Z (Q5 ?_))))))
 obtain ⟨bC,hm,hLj_3⟩:=QN hm
 refine QF (σ:=(List Bool)×(List V)×Nat×Nat) (fun (aB,aC,z,a2)=>bC=.inl (aB,aC)) (fun (aB,aC,z,a2)=>[(9,.pointer (some ⟨g9,0,none⟩)),(6,.pointer (some ⟨g6,0,none⟩))]) (fun (aB,aC,z,a2)=>[]) (fun (aB,aC,z,a2)=>[.blk g9 [.slice aG z aH,.slice aI a2 aJ] 152,.own 4 1 Q1R (.slice aG z aH) aB,.own 57 3 R_V (.slice aI a2 aJ) aC,.blk g6 [V1,V1] 100]) ?_ ?_
 refine Q5 (Q1 (wF Z Q6J (wD 6 2 Z tS_60 tA_60 Z (wN Z Q8Y (wP Z (Q4 (Q3 (Q2 [49,48,47,9,6,4] (S':=V6 ..) Z (Qx (wc_pick [0,1,2,3,5] Z (H':=V5 ..) Z (Q1o (σ:=Nat×Nat×(List Bool)×(List V)×Nat×Nat) (fun (aY,aD,h,y,a9,aA)=>Q19 (Q3j N l2 aK) aY (aD,h,y)=some bC) (fun (aY,aD,h,y,a9,aA)=>aY) (fun (aY,aD,h,y,a9,aA)=>[(49,.int .i64 ((aD:Nat):Int)),(48,.int .i64 ((l2.length:Nat):Int)),(47,.slice aP l2.length aQ),(9,.pointer (some ⟨g9,0,none⟩)),(6,.pointer (some ⟨g6,0,none⟩)),(4,.pointer (some ⟨g4,0,none⟩))]) (fun (aY,aD,h,y,a9,aA)=>[.sli 5 Q2w aP aQ l2,.sli 3 R_V aR aS aK]) (fun (aY,aD,h,y,a9,aA)=>[.blk g9 [.slice aG a9 aH,.slice aI aA aJ] 152,.own 4 1 Q1R (.slice aG a9 aH) h,.own 57 3 R_V (.slice aI aA aJ) y,.blk g6 [V1,V1] 100,.blk g4 [.int .i64 b1,.int .i64 b2,.slice aR aK.length aS] 71]) (N,0,aL,aM,aL.length,aM.length) hm [49,48,47,9,6,4] Z (asK [3,2] Z) Z (fun s_ hm=>?_))))))))))))
 obtain ⟨aY,aD,h,y,a9,aA⟩:=s_
 try dsimp only at hm ⊢
 obtain ⟨cJ,cK,bN,hq,hLu1⟩:=Q10 hm
 clear hm
 subst bN
 replace hm:=hq
 clear hq
 unfold Q3j at hm
 try dsimp only at hm
 refine Q5 (Q1 (wP Z (QD (d:=50) (v':=.bool (decide (aD < l2.length))) (S':=V6 ..) Z Z (Q2E (a:=aD) (b:=l2.length)) (Q4 (Q3 (Q5 ?_))))))
 refine Qm Z (fun b8=>?_) (fun b8=>?_)
 replace hm:=Qw hm b8
 refine Q2 [49,48,47,9,6,4] (S':=V6 ..) Z (Qt (Q3 (Q5 (Qx (Q5 (Q1 (wP Z ?_)))))))
 obtain ⟨b9,bO,hm⟩:=Q7 hm
 refine QT 0 aD Z Z Z Zq Z Z Z Z Z bO Q8Y tS_59 (fun cL cM cH c5=>(Q1h Q89 1 Z (fun cN bP _=>?_)))
 subst bP
 refine Q1g 0 0 Z Z Z Zq Z Z Z (cs:=V5 ..) Z tS_59 tA_59 Z Z (Q13 Z Z Z Zq Z tZ_59 Z (fun cO=>(wP Z (wS 0 0 Z tS_59 (all':=V5 ..) Z (H':=V6 ..) Z (Q4 (Q3 (Q2 [10,11,49,48,47,9,6,4] (S':=V8 ..) Z (Q5 ?_))))))))
 obtain ⟨bE,bQ,hm⟩:=Q7 hm
 obtain ⟨⟨c6,bF,bG⟩,bR,hm⟩:=Q7 hm
 try dsimp only at hm
 refine QR [0,1,2,3,4,5,6,8] Z Z (fun hok=>(Ql hok 0 1 0 Z Z Z Zq Z Z Z Z (cs:=[_,_]) Z tS_152 tA_152 Z Z (Ql hok 1 0 0 Z Z Z Zq Z Z Z Z (cs:=V5 ..) Z tS_59 tA_59 Z Z (Q9 hok 2 Z Z Z Zq Z Z Z Q68 (Ql hok 3 5 2 Z Z Z Zq Z Z Z Z (cs:=[_]) Z Q5i Q5f Z Z (xP hok 4 Z (Q1B hok 5 3 aD Z Z Z Zq Z Z Z Z Z Z bQ Q29 QB (fun cP cQ cI c7=>(Q1X Q2l 1 Z (fun cR bS _=>?_))))))))))
 subst bS
 refine Q2J hok 6 0 0 Z Z Z Zq Z Z Z Z (cs:=V3 ..) Z QB Q1b Z Z (xS hok 7 Z (Q3H 2 Z (fun aN _=>?_)))
 subst aN
 refine Q3H 3 Z (fun aO _=>?_)
 subst aO
 refine wC [2,3] [0,1,4,5] Z fn_90 Z (Q9w N aG h.length aH h aI y.length aJ y b9.k b9.var b9.v.k b9.v.n b9.v.s bE.k bE.n bE.s _ _ _ bR) (asK [] Z) Z (H':=V4 ..) Z ?_
 rintro _ _ _ ⟨rfl,rfl,rfl⟩
 refine Q4 (Q12 [0,1,2,3,4,5] [5] Z Z (xP hok 8 Z (QO hok Z (Q3 (Q2 [62,49,48,47,9,6,4] (S':=V7 ..) Z ?_)))))
 refine Qm Z (fun bA=>?_) (fun bA=>?_)
 replace hm:=Qw hm bA
 refine Q2 [6] (S':=[_]) Z (Q5 (Q1 (Q1F Z Z Z Zq Z Q9d tP_100 Z (out:=[_,_]) Z (wS 4 0 Z Q5G (all':=[_,_]) Z (H':=V6 ..) Z (wP Z (Q4 (Q3 (Q2 [7,6] (S':=[_,_]) Z (Qk (Qa (Q8 (Q8 (Qa ?_)))))))))))))
 refine Q8 ?_
 have hE:=(Zi hm).symm
 replace hE:=Qn hLu1 hE
 replace hE:=Qn hLj_3 hE
 obtain ⟨hE0,hF1⟩:=Prod.mk.inj hE
 obtain ⟨hE1,hE2⟩:=Prod.mk.inj hF1
 clear hE hF1
 replace hE0:=hE0.symm
 subst hE0
 replace hE1:=hE1.symm
 subst hE1
 replace hE2:=hE2.symm
 subst hE2
 refine Q2T 4 1 Q1R (Q2T 57 3 R_V ?_)
 refine QH (Hr:=[_,_]) [1,0] Tryz.results49 (Q1e 6 Z Z Q5G Q8w Z Z) (Qb Z) ⟨none,0,0,none,0,0,Z,Z,Z⟩ (asK [] Z) Z Z (.inl Z)
 replace hm:=Qv hm bA
 refine Q2 [49,48,47,9,6,4] (S':=V6 ..) Z (Qt (Qf (Q3 (Q1 (wP Z ?_)))))
 obtain ⟨bT,hm⟩:=Qz hm
 refine QD (d:=64) (v':=.int .i64 ((aD+1:Nat):Int)) (S':=V6 ..) Z Z (Q1f (a:=aD) (b:=1) bT) (QS (S':=V6 ..) Z Z Z Z Z (Q4 ?_))
 have hE:=(Zi hm).symm
 replace hE:=QA hLu1 hE
 refine Qu [3,0,1,4,5] Z (H':=V5 ..) Z ?_
 refine QY (_,aD+1,bF,bG,h.length,y.length) (Nat.lt_succ_self _) hE [49,48,47,9,6,4] Z (asK [4,5] Z) Z
 replace hm:=Qv hm b8
 refine Q2 [9,6] (S':=[_,_]) Z (Q1k (Qo (Qo (QG ?_))))
 have hE:=(Zi hm).symm
 replace hE:=Qn hLu1 hE
 refine Qu [0,1,2,3] Z (H':=V4 ..) Z ?_
 refine Qd (h,y,a9,aA) hE [9,6] Z (asK [] Z) Z
 rintro ⟨aB,aC,z,a2⟩ hE
 try dsimp only
 have hm:=QA hLj_3 hE
 try dsimp only at hm
 refine Q5 (Q1 (wF Z Q8A (QM 0 0 Z Z Z Zq Z Z Z (cs:=[_,_]) Z Q5G Q8w Z Z (wS 3 0 Z Q5G (all':=[_,_]) Z (H':=V4 ..) Z (wP Z (Q4 (Q3 (Q2 [7,6] (S':=[_,_]) Z (Qk ?_)))))))))
 have hE:=(Zi hm).symm
 obtain ⟨hE0,hF1⟩:=Prod.mk.inj hE
 obtain ⟨hE1,hE2⟩:=Prod.mk.inj hF1
 clear hE hF1
 replace hE0:=hE0.symm
 subst hE0
 replace hE1:=hE1.symm
 subst hE1
 replace hE2:=hE2.symm
 subst hE2
 refine QH (Hr:=[_,_]) [1,2] Tryz.results49 (Q1e 3 Z Z Q5G Q8w Z Z) (Qb Z) ⟨aG,aH,z,aI,aJ,a2,Z,Z,Z⟩ (asK [] Z) Z Z (.inl Z)
theorem QaY (N:Nat)(a0:Int)(a1:Int)(aH:OA)(aI:Nat)(l2:List V)(aJ:Nat)(a3:Int)(a4:Int)(a5:OA)(aA:Nat)(l5:List Q3S)(a6:Int)(a7:Int)(a8:Int)(a9:ByteArray)(aF:Int)(aG:Int)(aB:OA)(aC:Nat)(y:List Qe)(aK:Nat)(aD:OA)(aE:Nat)(z:List Bool)(h:OA)(s:Nat)(a2:List V)(o0:Bool)(hm:Q6m N a0 a1 l2 a3 a4 l5 a6 a7 a8 a9 aF aG y z a2=some o0):Q1d Tryz.prog 86 [.agg #[.int .i64 a0,.int .i64 a1,.slice aH l2.length aI],.pointer (some ⟨aJ,0,none⟩),.pointer (some ⟨aK,0,none⟩)] [.sli 3 R_V aH aI l2,.sli 5 Q2w a5 aA l5,.sli 7 Qs aB aC y,.sli 1 Q1R aD aE z,.sli 3 R_V h s a2] [.blk aJ [.int .u8 a3,.int .i64 a4,.slice a5 l5.length aA,.int .u8 a6,.int .u8 a7,.int .i64 a8,.string a9,.int .i64 aF,.int .u8 aG,.slice aB y.length aC] 67,.blk aK [.slice aD z.length aE,.slice h a2.length s] 100] (fun v Φr Hr=>v=.bool o0∧Φr=[.sli 5 Q2w a5 aA l5,.sli 7 Qs aB aC y,.sli 1 Q1R aD aE z,.sli 3 R_V h s a2]∧Hr=[.blk aJ [.int .u8 a3,.int .i64 a4,.slice a5 l5.length aA,.int .u8 a6,.int .u8 a7,.int .i64 a8,.string a9,.int .i64 aF,.int .u8 aG,.slice aB y.length aC] 67,.blk aK [.slice aD z.length aE,.slice h a2.length s] 100]):=by
 unfold Q6m at hm
 refine QI Tryz.func86 Z Tryz.ntmps86 Z (S:=V3 ..) Z (fun C=>(Q5 (Q1 (wB Z (fun g3=>(wP Z (Q4 (Q3 (Q2 [3,1,2] (S':=V3 ..) Z (Q5 (Q1 (QM 1 0 Z Z Z Zq Z Z Z (cs:=V10 ..) Z Q6t tA_67 Z Z (QM 0 0 Z Z Z Zq Z Z Z (cs:=V3 ..) Z Q5Z tA_71 Z Z (QM 2 0 Z Z Z Zq Z Z Z (cs:=[_,_]) Z Q5G Q8w Z Z ?_))))))))))))))
 obtain ⟨⟨aW,aX,aY⟩,aM,hm⟩:=Q7 hm
 try dsimp only at hm
 refine wC [] [0,1,2] Z fn_49 Z (Q98 N a3 a4 a5 aA l5 a6 a7 a8 a9 aF aG aB aC y a0 a1 aH aI l2 aD aE z h s a2 _ _ _ aM) (asK [1,2,0,3,4] Z) Z (H':=V3 ..) Z ?_
 rintro _ _ _ ⟨aZ,b0,b1,b2,b3,b4,rfl,rfl,rfl⟩
 refine wP Z (wP Z (wP Z (Q13 Z Z Z Zq Z Q9d Z (fun g5=>(wS 0 0 Z Q5G (all':=[_,_]) Z (H':=V6 ..) Z (wP Z (Q4 (Q3 (Q2 [6] (S':=[_]) Z (Q5 (Q1 (wP Z (wP Z (Q4 ?_))))))))))))))
 refine Q3 (Q2 [4] (S':=[_]) Z (Qk ?_))
 have hE:=(Zi hm).symm
 replace hE:=hE.symm
 subst hE
 refine Qq (Hr:=[_,_]) [4,5] Tryz.results86 (Qb Z) ⟨Z,Z,Z⟩ (asK [1,2,3,4] Z) Z Z (.inl Z)
end Go.Proofs.YtbgodclhmgmcgaaGreatDoor
