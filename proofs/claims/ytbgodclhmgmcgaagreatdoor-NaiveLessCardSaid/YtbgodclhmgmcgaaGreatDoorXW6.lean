import Derived.Test.YtbgodclhmgmcgaaGreatDoorXW5
namespace Go.Proofs.YtbgodclhmgmcgaaGreatDoor
open Go.RowKit
set_option maxRecDepth 100000
set_option maxHeartbeats 4000000
theorem Q3j (N:Nat) (a0:Int)  (r_:(Unit ⊕ (Unit ⊕ (Unit ⊕ (Unit ⊕ (Unit ⊕ (Unit ⊕ (Unit ⊕ (Unit ⊕ (Unit ⊕ Unit)))))))))) (hm:Q3h N a0 = some r_):Q17 Tryz.prog 118 [.int .u8 a0] [] [] (fun v Φr Hr=>match r_ with | .inl ()=>v = .func (.func 148) #[] #[] ∧ Φr = [] ∧ Hr = [] | .inr (.inl ())=>v = .func (.func 149) #[] #[] ∧ Φr = [] ∧ Hr = [] | .inr (.inr (.inl ()))=>v = .func (.func 150) #[] #[] ∧ Φr = [] ∧ Hr = [] | .inr (.inr (.inr (.inl ())))=>v = .func (.func 151) #[] #[] ∧ Φr = [] ∧ Hr = [] | .inr (.inr (.inr (.inr (.inl ()))))=>∃ (o0:Nat),v = .func (.func 152) #[] #[.pointer (some ⟨o0,0,none⟩)] ∧ Φr = [] ∧ Hr = [.blk o0 [.func (.func 147) #[] #[]] 220] | .inr (.inr (.inr (.inr (.inr (.inl ())))))=>∃ (o0:Nat),v = .func (.func 153) #[] #[.pointer (some ⟨o0,0,none⟩)] ∧ Φr = [] ∧ Hr = [.blk o0 [.func (.func 147) #[] #[]] 220] | .inr (.inr (.inr (.inr (.inr (.inr (.inl ()))))))=>∃ (o0:Nat),v = .func (.func 154) #[] #[.pointer (some ⟨o0,0,none⟩)] ∧ Φr = [] ∧ Hr = [.blk o0 [.func (.func 147) #[] #[]] 220] | .inr (.inr (.inr (.inr (.inr (.inr (.inr (.inl ())))))))=>∃ (o0:Nat),v = .func (.func 155) #[] #[.pointer (some ⟨o0,0,none⟩)] ∧ Φr = [] ∧ Hr = [.blk o0 [.func (.func 147) #[] #[]] 220] | .inr (.inr (.inr (.inr (.inr (.inr (.inr (.inr (.inl ()))))))))=>∃ (o0:Nat),v = .func (.func 156) #[] #[.pointer (some ⟨o0,0,none⟩)] ∧ Φr = [] ∧ Hr = [.blk o0 [.func (.func 147) #[] #[]] 220] | .inr (.inr (.inr (.inr (.inr (.inr (.inr (.inr (.inr ()))))))))=>v = .nilFunc ∧ Φr = [] ∧ Hr = []):=by
 unfold Q3h at hm
 refine QC Tryz.func118 Z Tryz.ntmps118 Z (S:=[_]) Z (fun C=>(Q5 (Q1 (wP Z (Q4 (Q3 (Q2 [0] (S':=[_]) Z (Q5 (Q1 (QK Z Z Z Zq Z tZ_220 Z (fun s=>(wS 0 0 Z tS_220 (all':=[_]) Z (H':=[_]) Z (Q4 (Q3 (Q5 ?_)))))))))))))))
 refine Q1 (wl_makeMapE (Q8n (Q4W tI_62)) false Q88 Z Z Z Zq Z (fun g4=>(Q4T (i:=1) (u:=.func (.func 148) #[] #[]) (cs:=[.func (.func 148) #[] #[]]) 0 Z Z (.inr Z) Z Z Z Z Q70 trivial Z (fun F w hφ=>⟨Z,Z⟩) (H':=[mapE (Q8n (Q4W tI_62)) false Q88 g4 ([(1,.func (.func 148) #[] #[])]),.blk s [.func (.func 147) #[] #[]] 220]) Z (Q4T (i:=2) (u:=.func (.func 149) #[] #[]) (cs:=[.func (.func 149) #[] #[]]) 0 Z Z (.inr Z) Z Z Z Z Q70 trivial Z (fun F w hφ=>⟨Z,Z⟩) (H':=[mapE (Q8n (Q4W tI_62)) false Q88 g4 ([(1,.func (.func 148) #[] #[]),(2,.func (.func 149) #[] #[])]),.blk s [.func (.func 147) #[] #[]] 220]) Z (Q4T (i:=3) (u:=.func (.func 150) #[] #[]) (cs:=[.func (.func 150) #[] #[]]) 0 Z Z (.inr Z) Z Z Z Z Q70 trivial Z (fun F w hφ=>⟨Z,Z⟩) (H':=[mapE (Q8n (Q4W tI_62)) false Q88 g4 ([(1,.func (.func 148) #[] #[]),(2,.func (.func 149) #[] #[]),(3,.func (.func 150) #[] #[])]),.blk s [.func (.func 147) #[] #[]] 220]) Z (Q4T (i:=4) (u:=.func (.func 151) #[] #[]) (cs:=[.func (.func 151) #[] #[]]) 0 Z Z (.inr Z) Z Z Z Z Q70 trivial Z (fun F w hφ=>⟨Z,Z⟩) (H':=[mapE (Q8n (Q4W tI_62)) false Q88 g4 ([(1,.func (.func 148) #[] #[]),(2,.func (.func 149) #[] #[]),(3,.func (.func 150) #[] #[]),(4,.func (.func 151) #[] #[])]),.blk s [.func (.func 147) #[] #[]] 220]) Z (Q2o Z Z Z Zq Z Z (Q4T (i:=7) (u:=.func (.func 152) #[] #[.pointer (some ⟨s,0,none⟩)]) (cs:=[.func (.func 152) #[] #[.pointer (some ⟨s,0,none⟩)]]) 0 Z Z (.inr Z) Z Z Z Z Q70 trivial Z (fun F w hφ=>⟨Z,Z⟩) (H':=[mapE (Q8n (Q4W tI_62)) false Q88 g4 ([(1,.func (.func 148) #[] #[]),(2,.func (.func 149) #[] #[]),(3,.func (.func 150) #[] #[]),(4,.func (.func 151) #[] #[]),(7,.func (.func 152) #[] #[.pointer (some ⟨s,0,none⟩)])]),.blk s [.func (.func 147) #[] #[]] 220]) Z (Q2o Z Z Z Zq Z Z (Q4T (i:=8) (u:=.func (.func 153) #[] #[.pointer (some ⟨s,0,none⟩)]) (cs:=[.func (.func 153) #[] #[.pointer (some ⟨s,0,none⟩)]]) 0 Z Z (.inr Z) Z Z Z Z Q70 trivial Z (fun F w hφ=>⟨Z,Z⟩) (H':=[mapE (Q8n (Q4W tI_62)) false Q88 g4 ([(1,.func (.func 148) #[] #[]),(2,.func (.func 149) #[] #[]),(3,.func (.func 150) #[] #[]),(4,.func (.func 151) #[] #[]),(7,.func (.func 152) #[] #[.pointer (some ⟨s,0,none⟩)]),(8,.func (.func 153) #[] #[.pointer (some ⟨s,0,none⟩)])]),.blk s [.func (.func 147) #[] #[]] 220]) Z (Q2o Z Z Z Zq Z Z (Q4T (i:=9) (u:=.func (.func 154) #[] #[.pointer (some ⟨s,0,none⟩)]) (cs:=[.func (.func 154) #[] #[.pointer (some ⟨s,0,none⟩)]]) 0 Z Z (.inr Z) Z Z Z Z Q70 trivial Z (fun F w hφ=>⟨Z,Z⟩) (H':=[mapE (Q8n (Q4W tI_62)) false Q88 g4 ([(1,.func (.func 148) #[] #[]),(2,.func (.func 149) #[] #[]),(3,.func (.func 150) #[] #[]),(4,.func (.func 151) #[] #[]),(7,.func (.func 152) #[] #[.pointer (some ⟨s,0,none⟩)]),(8,.func (.func 153) #[] #[.pointer (some ⟨s,0,none⟩)]),(9,.func (.func 154) #[] #[.pointer (some ⟨s,0,none⟩)])]),.blk s [.func (.func 147) #[] #[]] 220]) Z (Q2o Z Z Z Zq Z Z (Q4T (i:=10) (u:=.func (.func 155) #[] #[.pointer (some ⟨s,0,none⟩)]) (cs:=[.func (.func 155) #[] #[.pointer (some ⟨s,0,none⟩)]]) 0 Z Z (.inr Z) Z Z Z Z Q70 trivial Z (fun F w hφ=>⟨Z,Z⟩) (H':=[mapE (Q8n (Q4W tI_62)) false Q88 g4 ([(1,.func (.func 148) #[] #[]),(2,.func (.func 149) #[] #[]),(3,.func (.func 150) #[] #[]),(4,.func (.func 151) #[] #[]),(7,.func (.func 152) #[] #[.pointer (some ⟨s,0,none⟩)]),(8,.func (.func 153) #[] #[.pointer (some ⟨s,0,none⟩)]),(9,.func (.func 154) #[] #[.pointer (some ⟨s,0,none⟩)]),(10,.func (.func 155) #[] #[.pointer (some ⟨s,0,none⟩)])]),.blk s [.func (.func 147) #[] #[]] 220]) Z ?_))))))))))))))
 refine Q2o Z Z Z Zq Z Z (Q4T (i:=11) (u:=.func (.func 156) #[] #[.pointer (some ⟨s,0,none⟩)]) (cs:=[.func (.func 156) #[] #[.pointer (some ⟨s,0,none⟩)]]) 0 Z Z (.inr Z) Z Z Z Z Q70 trivial Z (fun F w hφ=>⟨Z,Z⟩) (H':=[mapE (Q8n (Q4W tI_62)) false Q88 g4 ([(1,.func (.func 148) #[] #[]),(2,.func (.func 149) #[] #[]),(3,.func (.func 150) #[] #[]),(4,.func (.func 151) #[] #[]),(7,.func (.func 152) #[] #[.pointer (some ⟨s,0,none⟩)]),(8,.func (.func 153) #[] #[.pointer (some ⟨s,0,none⟩)]),(9,.func (.func 154) #[] #[.pointer (some ⟨s,0,none⟩)]),(10,.func (.func 155) #[] #[.pointer (some ⟨s,0,none⟩)]),(11,.func (.func 156) #[] #[.pointer (some ⟨s,0,none⟩)])]),.blk s [.func (.func 147) #[] #[]] 220]) Z (wP Z (wP Z ?_)))
 rcases Q1E hm with ⟨z,hm⟩ | ⟨z,hm⟩
 refine Q3V (i:=a0) (a:=(.func (.func 148) #[] #[])) Q3i 0 Z Z Z Zq Z Z Z Z Q70 trivial (by rw [eq_of_beq z]; rfl) (u:=fun _=>.func (.func 148) #[] #[]) (fun _=>Z) (v:=fun _=>.func (.func 148) #[] #[]) (fun _=>Z) (fun _ _=>(wP Z (Q4 (Q3 (Q2 [2] (S':=[_]) Z (Qo ?_))))))
 have hE:=(Zi hm).symm
 subst hE
 dsimp only
 refine Qp (Hr:=[]) [] Tryz.results118 (Qg Z) ⟨Z,Z,Z⟩ (asK [] Z) Z Z (.inl Z)
 rcases Q1E hm with ⟨a1,hm⟩ | ⟨a1,hm⟩
 refine Q3V (i:=a0) (a:=(.func (.func 149) #[] #[])) Q3i 0 Z Z Z Zq Z Z Z Z Q70 trivial (by rw [eq_of_beq a1]; rfl) (u:=fun _=>.func (.func 149) #[] #[]) (fun _=>Z) (v:=fun _=>.func (.func 149) #[] #[]) (fun _=>Z) (fun _ _=>(wP Z (Q4 (Q3 (Q2 [2] (S':=[_]) Z (Qo ?_))))))
 have hE:=(Zi hm).symm
 subst hE
 dsimp only
 refine Qp (Hr:=[]) [] Tryz.results118 (Qg Z) ⟨Z,Z,Z⟩ (asK [] Z) Z Z (.inl Z)
 rcases Q1E hm with ⟨a5,hm⟩ | ⟨a5,hm⟩
 refine Q3V (i:=a0) (a:=(.func (.func 150) #[] #[])) Q3i 0 Z Z Z Zq Z Z Z Z Q70 trivial (by rw [eq_of_beq a5]; rfl) (u:=fun _=>.func (.func 150) #[] #[]) (fun _=>Z) (v:=fun _=>.func (.func 150) #[] #[]) (fun _=>Z) (fun _ _=>(wP Z (Q4 (Q3 (Q2 [2] (S':=[_]) Z (Qo ?_))))))
 have hE:=(Zi hm).symm
 subst hE
 dsimp only
 refine Qp (Hr:=[]) [] Tryz.results118 (Qg Z) ⟨Z,Z,Z⟩ (asK [] Z) Z Z (.inl Z)
 rcases Q1E hm with ⟨a6,hm⟩ | ⟨a6,hm⟩
 refine Q3V (i:=a0) (a:=(.func (.func 151) #[] #[])) Q3i 0 Z Z Z Zq Z Z Z Z Q70 trivial (by rw [eq_of_beq a6]; rfl) (u:=fun _=>.func (.func 151) #[] #[]) (fun _=>Z) (v:=fun _=>.func (.func 151) #[] #[]) (fun _=>Z) (fun _ _=>(wP Z (Q4 (Q3 (Q2 [2] (S':=[_]) Z (Qo ?_))))))
 have hE:=(Zi hm).symm
 subst hE
 dsimp only
 refine Qp (Hr:=[]) [] Tryz.results118 (Qg Z) ⟨Z,Z,Z⟩ (asK [] Z) Z Z (.inl Z)
 rcases Q1E hm with ⟨a7,hm⟩ | ⟨a7,hm⟩
 refine Q3V (i:=a0) (a:=(.func (.func 152) #[] #[.pointer (some ⟨s,0,none⟩)])) Q3i 0 Z Z Z Zq Z Z Z Z Q70 trivial (by rw [eq_of_beq a7]; rfl) (u:=fun _=>.func (.func 152) #[] #[.pointer (some ⟨s,0,none⟩)]) (fun _=>Z) (v:=fun _=>.func (.func 152) #[] #[.pointer (some ⟨s,0,none⟩)]) (fun _=>Z) (fun _ _=>(wP Z (Q4 (Q3 (Q2 [2] (S':=[_]) Z (Qo ?_))))))
 have hE:=(Zi hm).symm
 subst hE
 dsimp only
 refine Qp (Hr:=[_]) [1] Tryz.results118 (Qg Z) ⟨s,Z,Z,Z⟩ (asK [] Z) Z Z (.inl Z)
 rcases Q1E hm with ⟨a8,hm⟩ | ⟨a8,hm⟩
 refine Q3V (i:=a0) (a:=(.func (.func 153) #[] #[.pointer (some ⟨s,0,none⟩)])) Q3i 0 Z Z Z Zq Z Z Z Z Q70 trivial (by rw [eq_of_beq a8]; rfl) (u:=fun _=>.func (.func 153) #[] #[.pointer (some ⟨s,0,none⟩)]) (fun _=>Z) (v:=fun _=>.func (.func 153) #[] #[.pointer (some ⟨s,0,none⟩)]) (fun _=>Z) (fun _ _=>(wP Z (Q4 (Q3 (Q2 [2] (S':=[_]) Z (Qo ?_))))))
 have hE:=(Zi hm).symm
 subst hE
 dsimp only
 refine Qp (Hr:=[_]) [1] Tryz.results118 (Qg Z) ⟨s,Z,Z,Z⟩ (asK [] Z) Z Z (.inl Z)
 rcases Q1E hm with ⟨a9,hm⟩ | ⟨a9,hm⟩
 refine Q3V (i:=a0) (a:=(.func (.func 154) #[] #[.pointer (some ⟨s,0,none⟩)])) Q3i 0 Z Z Z Zq Z Z Z Z Q70 trivial (by rw [eq_of_beq a9]; rfl) (u:=fun _=>.func (.func 154) #[] #[.pointer (some ⟨s,0,none⟩)]) (fun _=>Z) (v:=fun _=>.func (.func 154) #[] #[.pointer (some ⟨s,0,none⟩)]) (fun _=>Z) (fun _ _=>(wP Z (Q4 (Q3 (Q2 [2] (S':=[_]) Z (Qo ?_))))))
 have hE:=(Zi hm).symm
 subst hE
 dsimp only
 refine Qp (Hr:=[_]) [1] Tryz.results118 (Qg Z) ⟨s,Z,Z,Z⟩ (asK [] Z) Z Z (.inl Z)
 rcases Q1E hm with ⟨aA,hm⟩ | ⟨aA,hm⟩
 refine Q3V (i:=a0) (a:=(.func (.func 155) #[] #[.pointer (some ⟨s,0,none⟩)])) Q3i 0 Z Z Z Zq Z Z Z Z Q70 trivial (by rw [eq_of_beq aA]; rfl) (u:=fun _=>.func (.func 155) #[] #[.pointer (some ⟨s,0,none⟩)]) (fun _=>Z) (v:=fun _=>.func (.func 155) #[] #[.pointer (some ⟨s,0,none⟩)]) (fun _=>Z) (fun _ _=>(wP Z (Q4 (Q3 (Q2 [2] (S':=[_]) Z (Qo ?_))))))
 have hE:=(Zi hm).symm
 subst hE
 dsimp only
 refine Qp (Hr:=[_]) [1] Tryz.results118 (Qg Z) ⟨s,Z,Z,Z⟩ (asK [] Z) Z Z (.inl Z)
 rcases Q1E hm with ⟨aB,hm⟩ | ⟨aB,hm⟩
 refine Q3V (i:=a0) (a:=(.func (.func 156) #[] #[.pointer (some ⟨s,0,none⟩)])) Q3i 0 Z Z Z Zq Z Z Z Z Q70 trivial (by rw [eq_of_beq aB]; rfl) (u:=fun _=>.func (.func 156) #[] #[.pointer (some ⟨s,0,none⟩)]) (fun _=>Z) (v:=fun _=>.func (.func 156) #[] #[.pointer (some ⟨s,0,none⟩)]) (fun _=>Z) (fun _ _=>(wP Z (Q4 (Q3 (Q2 [2] (S':=[_]) Z (Qo ?_))))))
 have hE:=(Zi hm).symm
 subst hE
 dsimp only
 refine Qp (Hr:=[_]) [1] Tryz.results118 (Qg Z) ⟨s,Z,Z,Z⟩ (asK [] Z) Z Z (.inl Z)
 refine wl_lookNoE (i:=a0) 0 Z Z Z Zq Z Z Z Z tZ_183 Q70 trivial (by simp [QaA,(ne_of_beq_false z).symm,(ne_of_beq_false a1).symm,(ne_of_beq_false a5).symm,(ne_of_beq_false a6).symm,(ne_of_beq_false a7).symm,(ne_of_beq_false a8).symm,(ne_of_beq_false a9).symm,(ne_of_beq_false aA).symm,(ne_of_beq_false aB).symm]) (v:=.nilFunc) Z (wP Z (Q4 (Q3 (Q2 [2] (S':=[_]) Z (Qo ?_)))))
 have hE:=(Zi hm).symm
 subst hE
 dsimp only
 refine Qp (Hr:=[]) [] Tryz.results118 (Qg Z) ⟨Z,Z,Z⟩ (asK [] Z) Z Z (.inl Z)
theorem w_value_does_s0 (N:Nat) (a0:Int)  (hm:Q3h N a0 = some (.inl ())):Q17 Tryz.prog 118 [.int .u8 a0] [] [] (fun v Φr Hr=>v = .func (.func 148) #[] #[] ∧ Φr = [] ∧ Hr = []):=Q3j N a0 _ hm
theorem w_value_does_s1 (N:Nat) (a0:Int)  (hm:Q3h N a0 = some (.inr (.inl ()))):Q17 Tryz.prog 118 [.int .u8 a0] [] [] (fun v Φr Hr=>v = .func (.func 149) #[] #[] ∧ Φr = [] ∧ Hr = []):=Q3j N a0 _ hm
theorem w_value_does_s2 (N:Nat) (a0:Int)  (hm:Q3h N a0 = some (.inr (.inr (.inl ())))):Q17 Tryz.prog 118 [.int .u8 a0] [] [] (fun v Φr Hr=>v = .func (.func 150) #[] #[] ∧ Φr = [] ∧ Hr = []):=Q3j N a0 _ hm
theorem w_value_does_s3 (N:Nat) (a0:Int)  (hm:Q3h N a0 = some (.inr (.inr (.inr (.inl ()))))):Q17 Tryz.prog 118 [.int .u8 a0] [] [] (fun v Φr Hr=>v = .func (.func 151) #[] #[] ∧ Φr = [] ∧ Hr = []):=Q3j N a0 _ hm
theorem w_value_does_s4 (N:Nat) (a0:Int)  (hm:Q3h N a0 = some (.inr (.inr (.inr (.inr (.inl ())))))):Q17 Tryz.prog 118 [.int .u8 a0] [] [] (fun v Φr Hr=>∃ (o0:Nat),v = .func (.func 152) #[] #[.pointer (some ⟨o0,0,none⟩)] ∧ Φr = [] ∧ Hr = [.blk o0 [.func (.func 147) #[] #[]] 220]):=Q3j N a0 _ hm
theorem w_value_does_s5 (N:Nat) (a0:Int)  (hm:Q3h N a0 = some (.inr (.inr (.inr (.inr (.inr (.inl ()))))))):Q17 Tryz.prog 118 [.int .u8 a0] [] [] (fun v Φr Hr=>∃ (o0:Nat),v = .func (.func 153) #[] #[.pointer (some ⟨o0,0,none⟩)] ∧ Φr = [] ∧ Hr = [.blk o0 [.func (.func 147) #[] #[]] 220]):=Q3j N a0 _ hm
theorem w_value_does_s6 (N:Nat) (a0:Int)  (hm:Q3h N a0 = some (.inr (.inr (.inr (.inr (.inr (.inr (.inl ())))))))):Q17 Tryz.prog 118 [.int .u8 a0] [] [] (fun v Φr Hr=>∃ (o0:Nat),v = .func (.func 154) #[] #[.pointer (some ⟨o0,0,none⟩)] ∧ Φr = [] ∧ Hr = [.blk o0 [.func (.func 147) #[] #[]] 220]):=Q3j N a0 _ hm
theorem w_value_does_s7 (N:Nat) (a0:Int)  (hm:Q3h N a0 = some (.inr (.inr (.inr (.inr (.inr (.inr (.inr (.inl ()))))))))):Q17 Tryz.prog 118 [.int .u8 a0] [] [] (fun v Φr Hr=>∃ (o0:Nat),v = .func (.func 155) #[] #[.pointer (some ⟨o0,0,none⟩)] ∧ Φr = [] ∧ Hr = [.blk o0 [.func (.func 147) #[] #[]] 220]):=Q3j N a0 _ hm
theorem w_value_does_s8 (N:Nat) (a0:Int)  (hm:Q3h N a0 = some (.inr (.inr (.inr (.inr (.inr (.inr (.inr (.inr (.inl ())))))))))):Q17 Tryz.prog 118 [.int .u8 a0] [] [] (fun v Φr Hr=>∃ (o0:Nat),v = .func (.func 156) #[] #[.pointer (some ⟨o0,0,none⟩)] ∧ Φr = [] ∧ Hr = [.blk o0 [.func (.func 147) #[] #[]] 220]):=Q3j N a0 _ hm
theorem w_value_does_2_s (N:Nat) (a0:Int) (a1:Int)  (hm:Qa3 N a0 a1 = some ()):Q17 Tryz.prog 148 [.int .i64 a0,.int .i64 a1] [] [] (fun v Φr Hr=>v = .tuple #[.int .i64 (IntKind.wrap .i64 (a0 + a1)),.bool ((decide ((IntKind.wrap .i64 (a0 + a1)) < a0)) == (decide (a1 < 0)))] ∧ Φr = [] ∧ Hr = []):=by
 unfold Qa3 at hm
 refine QC Tryz.func148 Z Tryz.ntmps148 Z (S:=[_,_]) Z (fun C=>(Q5 (Q1 (wP Z (wP Z (Q4 (Q3 (Q2 [0,1] (S':=[_,_]) Z (Q5 (Q1 (wP Z (wP Z (wP Z (wP Z ?_))))))))))))))
 refine wP Z (wP Z (wP Z (wP Z (wP Z (wP Z (Q8E Z Z Z Zq Z Z Z (eqlB _ _ (decide ((IntKind.wrap .i64 (a0 + a1)) < a0)) (decide (a1 < 0))) (wP Z (wP Z (Q4 (Q3 (Q2 [5,4] (S':=[_,_]) Z (Qo ?_))))))))))))
 have hE:=(Zi hm).symm
 refine Q1D (Hr:=[]) [] Tryz.results148 (Qg Z) (Qg Z) ⟨Z,Z,Z⟩ (asK [] Z) Z Z (.inl Z)
theorem w_value_does_3_s (N:Nat) (a0:Int) (a1:Int)  (hm:Qa4 N a0 a1 = some ()):Q17 Tryz.prog 149 [.int .i64 a0,.int .i64 a1] [] [] (fun v Φr Hr=>v = .tuple #[.int .i64 (IntKind.wrap .i64 (a0 - a1)),.bool ((decide ((IntKind.wrap .i64 (a0 - a1)) > a0)) == (decide (a1 < 0)))] ∧ Φr = [] ∧ Hr = []):=by
 unfold Qa4 at hm
 refine QC Tryz.func149 Z Tryz.ntmps149 Z (S:=[_,_]) Z (fun C=>(Q5 (Q1 (wP Z (wP Z (Q4 (Q3 (Q2 [0,1] (S':=[_,_]) Z (Q5 (Q1 (wP Z (wP Z (wP Z (wP Z ?_))))))))))))))
 refine wP Z (wP Z (wP Z (wP Z (wP Z (wP Z (Q8E Z Z Z Zq Z Z Z (eqlB _ _ (decide ((IntKind.wrap .i64 (a0 - a1)) > a0)) (decide (a1 < 0))) (wP Z (wP Z (Q4 (Q3 (Q2 [5,4] (S':=[_,_]) Z (Qo ?_))))))))))))
 have hE:=(Zi hm).symm
 refine Q1D (Hr:=[]) [] Tryz.results149 (Qg Z) (Qg Z) ⟨Z,Z,Z⟩ (asK [] Z) Z Z (.inl Z)
theorem w_value_product_s (N:Nat) (a0:Int) (a1:Int) (o0:Int) (o1:Bool) (hm:Q4R N a0 a1 = some (o0,o1)):Q17 Tryz.prog 150 [.int .i64 a0,.int .i64 a1] [] [] (fun v Φr Hr=>v = .tuple #[.int .i64 o0,.bool o1] ∧ Φr = [] ∧ Hr = []):=by
 unfold Q4R at hm
 refine QC Tryz.func150 Z Tryz.ntmps150 Z (S:=[_,_]) Z (fun C=>(Q5 (Q1 (wP Z (wP Z (Q4 (Q3 (Q2 [0,1] (S':=[_,_]) Z (Q5 (Q1 (wP Z (Q1w Z Z Z Zq (Qbz Z Z tI_2 tI_246) (wP Z (Q1w Z Z Z Zq (Qbz Z Z tI_2 tI_246) ?_))))))))))))))
 refine wP Z (wP Z (Q4 (Q3 (Q2 [7,6,0,1] (S':=V4 ..) Z (Q5 ?_)))))
 obtain ⟨aE,hm,hLj_1⟩:=Q6 hm
 refine QM (σ:=Int) (fun s=>aE = s) (fun s=>[(7,.int .u64 (IntKind.wrap .u64 a1)),(6,.int .u64 s),(0,.int .i64 a0),(1,.int .i64 a1)]) (fun s=>[]) (fun s=>[]) ?_ ?_
 refine Q5 (Q1 (wP Z (wP Z (Q4 (Q3 (Q2 [15,7,6,0,1] (S':=V5 ..) Z ?_))))))
 refine Qt Z (fun a5=>?_) (fun a5=>?_)
 replace hm:=QI hm a5
 refine Q2 [7,6,0,1] (S':=V4 ..) Z (Q1 (wP Z (Q1w Z Z Z Zq (rk_neg Z Z) (QT (S':=V5 ..) Z Z Z Z Z (Q4 ?_)))))
 have hE:=(Zi hm).symm
 refine Qh (IntKind.wrap .u64 (0 - (IntKind.wrap .u64 a0))) hE [7,6,0,1] Z (asK [] Z) Z
 replace hm:=QH hm a5
 refine Q2 [7,6,0,1] (S':=V4 ..) Z (Qr ?_)
 have hE:=(Zi hm).symm
 refine Qh (IntKind.wrap .u64 a0) hE [7,6,0,1] Z (asK [] Z) Z
 rintro s hE
 try dsimp only
 have hm:=hLj_1
 try rw [hE] at hm
 refine Q5 ?_
 obtain ⟨aF,hm,hLj_2⟩:=Q6 hm
 refine QM (σ:=Int) (fun z=>aF = z) (fun z=>[(7,.int .u64 z),(6,.int .u64 s),(0,.int .i64 a0),(1,.int .i64 a1)]) (fun z=>[]) (fun z=>[]) ?_ ?_
 refine Q5 (Q1 (wP Z (wP Z (Q4 (Q3 (Q2 [19,7,6,0,1] (S':=V5 ..) Z ?_))))))
 refine Qt Z (fun a6=>?_) (fun a6=>?_)
 replace hm:=QI hm a6
 refine Q2 [7,6,0,1] (S':=V4 ..) Z (Q1 (wP Z (Q1w Z Z Z Zq (rk_neg Z Z) (QT (S':=V5 ..) Z Z Z Z Z (Q4 ?_)))))
 have hE:=(Zi hm).symm
 refine Qh (IntKind.wrap .u64 (0 - (IntKind.wrap .u64 a1))) hE [7,6,0,1] Z (asK [] Z) Z
 replace hm:=QH hm a6
 refine Q2 [7,6,0,1] (S':=V4 ..) Z (Qr ?_)
 have hE:=(Zi hm).symm
 refine Qh (IntKind.wrap .u64 a1) hE [7,6,0,1] Z (asK [] Z) Z
 rintro z hE
 try dsimp only
 have hm:=hLj_2
 try rw [hE] at hm
 refine Q5 (Q1 (wP Z (wP Z ?_)))
 obtain ⟨aA,hm⟩:=Qd hm
 obtain ⟨aB,hm⟩:=Qd hm
 refine wC [] [] Z fn_195 Z (sh_Mul64 s z aA aB) (asK [] Z) Z (H':=[]) Z ?_
 rintro _ _ _ ⟨rfl,rfl,rfl⟩
 refine wP Z (wP Z (wP Z (wP Z (wP Z (Q4 (Q3 (Q2 [9,8,0,1] (S':=V4 ..) Z (Q5 (Q5 (Q1 (wP Z (wP Z (wP Z ?_)))))))))))))
 refine wP Z (Q8E Z Z Z Zq Z Z Z (neqB _ _ (decide (a0 < 0)) (decide (a1 < 0))) (Q4 (Q3 (Q2 [32,9,8] (S':=V3 ..) Z ?_))))
 refine Qt Z (fun a7=>?_) (fun a7=>?_)
 replace hm:=QI hm a7
 refine Q2 [9,8] (S':=[_,_]) Z (Q5 (Q1 (wP Z (Q1w Z Z Z Zq (rk_neg Z Z) (Q1w Z Z Z Zq (Qbz Z Z tI_246 tI_2) (wP Z (wP Z (wP Z ?_))))))))
 refine QG (d:=38) (S':=V7 ..) Z Z (fun a8=>?_) (fun a8=>?_)
 replace hm:=QI hm a8
 refine wP Z (wP Z (wP Z (wP Z (wP Z (Q4 (Q3 (Q2 [5,4] (S':=[_,_]) Z (Qo (Q9 ?_)))))))))
 have hE:=(Zi hm).symm
 obtain ⟨hE0,hE1⟩:=Prod.mk.inj hE
 clear hE
 replace hE0:=hE0.symm
 subst hE0
 replace hE1:=hE1.symm
 subst hE1
 refine Q1D (Hr:=[]) [] Tryz.results150 (Qg Z) (Qg Z) ⟨Z,Z,Z⟩ (asK [] Z) Z Z (.inl Z)
 replace hm:=QH hm a8
 refine wO Z (wO Z (wP Z (wP Z (wP Z (Q4 (Q3 (Q2 [5,4] (S':=[_,_]) Z (Qo (Q9 ?_)))))))))
 have hE:=(Zi hm).symm
 obtain ⟨hE0,hE1⟩:=Prod.mk.inj hE
 clear hE
 replace hE0:=hE0.symm
 subst hE0
 replace hE1:=hE1.symm
 subst hE1
 refine Q1D (Hr:=[]) [] Tryz.results150 (Qg Z) (Qg Z) ⟨Z,Z,Z⟩ (asK [] Z) Z Z (.inl Z)
 replace hm:=QH hm a7
 refine Q2 [9,8] (S':=[_,_]) Z (Qr (Q3 (Q5 (Q1 (wP Z (Q1w Z Z Z Zq (Qbz Z Z tI_246 tI_2) (wP Z (wP Z (wP Z ?_)))))))))
 refine QG (d:=46) (S':=V6 ..) Z Z (fun a9=>?_) (fun a9=>?_)
 replace hm:=QI hm a9
 refine wP Z (wP Z (wP Z (wP Z (wP Z (Q4 (Q3 (Q2 [5,4] (S':=[_,_]) Z (Qo ?_))))))))
 have hE:=(Zi hm).symm
 obtain ⟨hE0,hE1⟩:=Prod.mk.inj hE
 clear hE
 replace hE0:=hE0.symm
 subst hE0
 replace hE1:=hE1.symm
 subst hE1
 refine Q1D (Hr:=[]) [] Tryz.results150 (Qg Z) (Qg Z) ⟨Z,Z,Z⟩ (asK [] Z) Z Z (.inl Z)
 replace hm:=QH hm a9
 refine wO Z (wO Z (wP Z (wP Z (wP Z (Q4 (Q3 (Q2 [5,4] (S':=[_,_]) Z (Qo ?_))))))))
 have hE:=(Zi hm).symm
 obtain ⟨hE0,hE1⟩:=Prod.mk.inj hE
 clear hE
 replace hE0:=hE0.symm
 subst hE0
 replace hE1:=hE1.symm
 subst hE1
 refine Q1D (Hr:=[]) [] Tryz.results150 (Qg Z) (Qg Z) ⟨Z,Z,Z⟩ (asK [] Z) Z Z (.inl Z)
theorem w_value_does_4_s (N:Nat) (a0:Int) (a1:Int)  (hm:Qa5 N a0 a1 = some ()):Q17 Tryz.prog 151 [.int .i64 a0,.int .i64 a1] [] [] (fun v Φr Hr=>v = .tuple #[.int .i64 (IntKind.wrap .i64 (0 - a0)),.bool (a0 != -9223372036854775808)] ∧ Φr = [] ∧ Hr = []):=by
 unfold Qa5 at hm
 refine QC Tryz.func151 Z Tryz.ntmps151 Z (S:=[_,_]) Z (fun C=>(Q5 (Q1 (wP Z (wP Z (Q4 (Q3 (Q2 [0] (S':=[_]) Z (Q5 (Q1 (wP Z (Q1w Z Z Z Zq (rk_neg Z Z) (wP Z (wP Z ?_))))))))))))))
 refine wP Z (wP Z (Q4 (Q3 (Q2 [5,4] (S':=[_,_]) Z (Qo ?_)))))
 have hE:=(Zi hm).symm
 refine Q1D (Hr:=[]) [] Tryz.results151 (Qg Z) (Qg Z) ⟨Z,Z,Z⟩ (asK [] Z) Z Z (.inl Z)
theorem Q4h (N:Nat) (a0:Bool) (o0:Int) (hm:Q1Y N a0 = some o0):Q17 Tryz.prog 147 [.bool a0] [] [] (fun v Φr Hr=>v = .tuple #[.int .i64 o0,.bool true] ∧ Φr = [] ∧ Hr = []):=by
 unfold Q1Y at hm
 refine QC Tryz.func147 Z Tryz.ntmps147 Z (S:=[_]) Z (fun C=>(Q5 (Q1 (wP Z (wP Z (Q4 (Q3 (Q2 [0] (S':=[_]) Z (Q5 (Q1 (wP Z ?_)))))))))))
 obtain ⟨v5,hc5,hm⟩:=Q6 hm
 refine wC [] [] Z fn_117 Z (Q9J N a0 _ hc5) (asK [] Z) Z (H':=[]) Z ?_
 rintro _ _ _ ⟨rfl,rfl,rfl⟩
 refine Q1w Z Z Z Zq (Q6w Z Z tFT_57_1 tA_2 tS_2 (v:=.int .i64 v5) Z) (wP Z (wP Z (Q4 (Q3 (Q2 [3,2] (S':=[_,_]) Z (Qo ?_))))))
 have hE:=(Zi hm).symm
 replace hE:=hE.symm
 subst hE
 refine Q1D (Hr:=[]) [] Tryz.results147 (Qg Z) (Qg Z) ⟨Z,Z,Z⟩ (asK [] Z) Z Z (.inl Z)
theorem w_value_does_5_s (N:Nat) (a0:Int) (a1:Int) (qg0:Nat) (o0:Int) (hm:Q8r N a0 a1 = some o0):Q17 Tryz.prog 152 [.int .i64 a0,.int .i64 a1,.pointer (some ⟨qg0,0,none⟩)] [] [.blk qg0 [.func (.func 147) #[] #[]] 220] (fun v Φr Hr=>v = .tuple #[.int .i64 o0,.bool true] ∧ Φr = [] ∧ Hr = [.blk qg0 [.func (.func 147) #[] #[]] 220]):=by
 unfold Q8r at hm
 refine QC Tryz.func152 Z Tryz.ntmps152 Z (S:=V3 ..) Z (fun C=>(Q5 (Q1 (wP Z (wP Z (Q4 (Q3 (Q2 [0,1,2] (S':=V3 ..) Z (Q5 (Q1 (wD 0 0 Z tS_220 tA_220 Z (wP Z (wP Z (wP Z ?_))))))))))))))
 obtain ⟨v11,hc11,hm⟩:=Q6 hm
 refine Q1K [] [0] Z Z Z Zq Z Z Z fn_147 Z Z (Q4h N (decide (a0 < a1)) _ hc11) (asK [] Z) Z (H':=[_]) Z ?_
 rintro _ _ _ ⟨rfl,rfl,rfl⟩
 refine wP Z (wP Z (wP Z (wP Z (Q4 (Q3 (Q2 [6,5] (S':=[_,_]) Z (Qo ?_)))))))
 have hE:=(Zi hm).symm
 replace hE:=hE.symm
 subst hE
 refine Q1D (Hr:=[_]) [0] Tryz.results152 (Qg Z) (Qg Z) ⟨Z,Z,Z⟩ (asK [] Z) Z Z (.inl Z)
theorem w_value_does_6_s (N:Nat) (a0:Int) (a1:Int) (qg0:Nat) (o0:Int) (hm:Q8s N a0 a1 = some o0):Q17 Tryz.prog 153 [.int .i64 a0,.int .i64 a1,.pointer (some ⟨qg0,0,none⟩)] [] [.blk qg0 [.func (.func 147) #[] #[]] 220] (fun v Φr Hr=>v = .tuple #[.int .i64 o0,.bool true] ∧ Φr = [] ∧ Hr = [.blk qg0 [.func (.func 147) #[] #[]] 220]):=by
 unfold Q8s at hm
 refine QC Tryz.func153 Z Tryz.ntmps153 Z (S:=V3 ..) Z (fun C=>(Q5 (Q1 (wP Z (wP Z (Q4 (Q3 (Q2 [0,1,2] (S':=V3 ..) Z (Q5 (Q1 (wD 0 0 Z tS_220 tA_220 Z (wP Z (wP Z (wP Z ?_))))))))))))))
 obtain ⟨v11,hc11,hm⟩:=Q6 hm
 refine Q1K [] [0] Z Z Z Zq Z Z Z fn_147 Z Z (Q4h N (decide (a0 ≤ a1)) _ hc11) (asK [] Z) Z (H':=[_]) Z ?_
 rintro _ _ _ ⟨rfl,rfl,rfl⟩
 refine wP Z (wP Z (wP Z (wP Z (Q4 (Q3 (Q2 [6,5] (S':=[_,_]) Z (Qo ?_)))))))
 have hE:=(Zi hm).symm
 replace hE:=hE.symm
 subst hE
 refine Q1D (Hr:=[_]) [0] Tryz.results153 (Qg Z) (Qg Z) ⟨Z,Z,Z⟩ (asK [] Z) Z Z (.inl Z)
theorem w_value_does_7_s (N:Nat) (a0:Int) (a1:Int) (qg0:Nat) (o0:Int) (hm:Q8t N a0 a1 = some o0):Q17 Tryz.prog 154 [.int .i64 a0,.int .i64 a1,.pointer (some ⟨qg0,0,none⟩)] [] [.blk qg0 [.func (.func 147) #[] #[]] 220] (fun v Φr Hr=>v = .tuple #[.int .i64 o0,.bool true] ∧ Φr = [] ∧ Hr = [.blk qg0 [.func (.func 147) #[] #[]] 220]):=by
 unfold Q8t at hm
 refine QC Tryz.func154 Z Tryz.ntmps154 Z (S:=V3 ..) Z (fun C=>(Q5 (Q1 (wP Z (wP Z (Q4 (Q3 (Q2 [0,1,2] (S':=V3 ..) Z (Q5 (Q1 (wD 0 0 Z tS_220 tA_220 Z (wP Z (wP Z (wP Z ?_))))))))))))))
 refine QG (d:=10) (S':=V6 ..) Z Z (fun hs10=>?_) (fun hs10=>?_)
 replace hm:=QI hm hs10
 refine wP Z (wP Z (wP Z ?_))
 obtain ⟨v14,hc14,hm⟩:=Q6 hm
 refine Q1K [] [0] Z Z Z Zq Z Z Z fn_147 Z Z (Q4h N (a1 != 0) _ hc14) (asK [] Z) Z (H':=[_]) Z ?_
 rintro _ _ _ ⟨rfl,rfl,rfl⟩
 refine wP Z (wP Z (wP Z (wP Z (Q4 (Q3 (Q2 [6,5] (S':=[_,_]) Z (Qo ?_)))))))
 have hE:=(Zi hm).symm
 replace hE:=hE.symm
 subst hE
 refine Q1D (Hr:=[_]) [0] Tryz.results154 (Qg Z) (Qg Z) ⟨Z,Z,Z⟩ (asK [] Z) Z Z (.inl Z)
 replace hm:=QH hm hs10
 refine wO Z (wO Z (wP Z ?_))
 obtain ⟨v14,hc14,hm⟩:=Q6 hm
 refine Q1K [] [0] Z Z Z Zq Z Z Z fn_147 Z Z (Q4h N false _ hc14) (asK [] Z) Z (H':=[_]) Z ?_
 rintro _ _ _ ⟨rfl,rfl,rfl⟩
 refine wP Z (wP Z (wP Z (wP Z (Q4 (Q3 (Q2 [6,5] (S':=[_,_]) Z (Qo ?_)))))))
 have hE:=(Zi hm).symm
 replace hE:=hE.symm
 subst hE
 refine Q1D (Hr:=[_]) [0] Tryz.results154 (Qg Z) (Qg Z) ⟨Z,Z,Z⟩ (asK [] Z) Z Z (.inl Z)
theorem w_value_does_8_s (N:Nat) (a0:Int) (a1:Int) (qg0:Nat) (o0:Int) (hm:Q8u N a0 a1 = some o0):Q17 Tryz.prog 155 [.int .i64 a0,.int .i64 a1,.pointer (some ⟨qg0,0,none⟩)] [] [.blk qg0 [.func (.func 147) #[] #[]] 220] (fun v Φr Hr=>v = .tuple #[.int .i64 o0,.bool true] ∧ Φr = [] ∧ Hr = [.blk qg0 [.func (.func 147) #[] #[]] 220]):=by
 unfold Q8u at hm
 refine QC Tryz.func155 Z Tryz.ntmps155 Z (S:=V3 ..) Z (fun C=>(Q5 (Q1 (wP Z (wP Z (Q4 (Q3 (Q2 [0,1,2] (S':=V3 ..) Z (Q5 (Q1 (wD 0 0 Z tS_220 tA_220 Z (wP Z (wP Z (wP Z ?_))))))))))))))
 refine QG (d:=10) (S':=V6 ..) Z Z (fun hs10=>?_) (fun hs10=>?_)
 replace hm:=QI hm hs10
 refine wO Z (wO Z (wP Z ?_))
 obtain ⟨v14,hc14,hm⟩:=Q6 hm
 refine Q1K [] [0] Z Z Z Zq Z Z Z fn_147 Z Z (Q4h N true _ hc14) (asK [] Z) Z (H':=[_]) Z ?_
 rintro _ _ _ ⟨rfl,rfl,rfl⟩
 refine wP Z (wP Z (wP Z (wP Z (Q4 (Q3 (Q2 [6,5] (S':=[_,_]) Z (Qo ?_)))))))
 have hE:=(Zi hm).symm
 replace hE:=hE.symm
 subst hE
 refine Q1D (Hr:=[_]) [0] Tryz.results155 (Qg Z) (Qg Z) ⟨Z,Z,Z⟩ (asK [] Z) Z Z (.inl Z)
 replace hm:=QH hm hs10
 refine wP Z (wP Z (wP Z ?_))
 obtain ⟨v14,hc14,hm⟩:=Q6 hm
 refine Q1K [] [0] Z Z Z Zq Z Z Z fn_147 Z Z (Q4h N (a1 != 0) _ hc14) (asK [] Z) Z (H':=[_]) Z ?_
 rintro _ _ _ ⟨rfl,rfl,rfl⟩
 refine wP Z (wP Z (wP Z (wP Z (Q4 (Q3 (Q2 [6,5] (S':=[_,_]) Z (Qo ?_)))))))
 have hE:=(Zi hm).symm
 replace hE:=hE.symm
 subst hE
 refine Q1D (Hr:=[_]) [0] Tryz.results155 (Qg Z) (Qg Z) ⟨Z,Z,Z⟩ (asK [] Z) Z Z (.inl Z)
theorem w_value_does_9_s (N:Nat) (a0:Int) (a1:Int) (qg0:Nat) (o0:Int) (hm:Q8v N a0 a1 = some o0):Q17 Tryz.prog 156 [.int .i64 a0,.int .i64 a1,.pointer (some ⟨qg0,0,none⟩)] [] [.blk qg0 [.func (.func 147) #[] #[]] 220] (fun v Φr Hr=>v = .tuple #[.int .i64 o0,.bool true] ∧ Φr = [] ∧ Hr = [.blk qg0 [.func (.func 147) #[] #[]] 220]):=by
 unfold Q8v at hm
 refine QC Tryz.func156 Z Tryz.ntmps156 Z (S:=V3 ..) Z (fun C=>(Q5 (Q1 (wP Z (wP Z (Q4 (Q3 (Q2 [0,2] (S':=[_,_]) Z (Q5 (Q1 (wD 0 0 Z tS_220 tA_220 Z (wP Z (wP Z ?_)))))))))))))
 obtain ⟨v10,hc10,hm⟩:=Q6 hm
 refine Q1K [] [0] Z Z Z Zq Z Z Z fn_147 Z Z (Q4h N (a0 == 0) _ hc10) (asK [] Z) Z (H':=[_]) Z ?_
 rintro _ _ _ ⟨rfl,rfl,rfl⟩
 refine wP Z (wP Z (wP Z (wP Z (Q4 (Q3 (Q2 [6,5] (S':=[_,_]) Z (Qo ?_)))))))
 have hE:=(Zi hm).symm
 replace hE:=hE.symm
 subst hE
 refine Q1D (Hr:=[_]) [0] Tryz.results156 (Qg Z) (Qg Z) ⟨Z,Z,Z⟩ (asK [] Z) Z Z (.inl Z)
theorem w_value_Do_s (N:Nat) (a0:Int) (aF:OA) (aG:Nat) (l1:List V) (o0:Nat) (o1:Int) (o2:Nat) (hm:Q35 N a0 l1 = some (o0,o1,o2)):Q17 Tryz.prog 84 [.int .u8 a0,.slice aF l1.length aG] [.sli 3 R_V aF aG l1] [] (fun v Φr Hr=>v = .tuple #[.agg #[.int .u8 ((o0:Nat):Int),.int .i64 o1,.string ((⟨#[]⟩ : ByteArray))],.int .i64 ((o2:Nat):Int)] ∧ Φr = [] ∧ Hr = []):=by
 unfold Q35 at hm
 refine QC Tryz.func84 Z Tryz.ntmps84 Z (S:=[_,_]) Z (fun C=>(Q5 (Q1 (QK Z Z Z Zq Z Q3A Z (fun g4=>(wP Z (Q4 (Q3 (Q2 [4,0,1] (S':=V3 ..) Z (Q5 (Q1 (wP Z (Q4 (Q3 (Q5 ?_)))))))))))))))
 obtain ⟨b8,hm,hLj_1⟩:=Q6 hm
 unfold Q78 at hm
 refine QM (σ:=Nat) (fun z=>b8 = z) (fun z=>[(4,.pointer (some ⟨g4,0,none⟩)),(0,.int .u8 a0),(1,.slice aF l1.length aG),(6,.int .i64 ((z:Nat):Int))]) (fun z=>[.sli 3 R_V aF aG l1]) (fun z=>[.blk g4 [.int .u8 0,.int .i64 0,.string ((⟨#[]⟩ : ByteArray))] 57]) ?_ ?_
 refine Q5 ?_
 obtain ⟨b9,hm,hLj_2⟩:=Q6 hm
 refine QM (σ:=Bool) (fun aC=>b9 = aC) (fun aC=>[(4,.pointer (some ⟨g4,0,none⟩)),(0,.int .u8 a0),(1,.slice aF l1.length aG),(6,.int .i64 2),(19,.bool aC)]) (fun aC=>[.sli 3 R_V aF aG l1]) (fun aC=>[.blk g4 [.int .u8 0,.int .i64 0,.string ((⟨#[]⟩ : ByteArray))] 57]) ?_ ?_
 refine Q1 (wP Z (wP Z (wP Z ?_)))
 refine QG (d:=16) (S':=V6 ..) Z Z (fun aQ=>?_) (fun aQ=>?_)
 replace hm:=QI hm aQ
 refine wO Z (wO Z (wP Z (Q4 ?_)))
 have hE:=(Zi hm).symm
 refine Qh true hE [4,0,1,6,19] Z (asK [0] Z) Z
 replace hm:=QH hm aQ
 refine wP Z (wP Z (wP Z (Q4 ?_)))
 have hE:=(Zi hm).symm
 refine Qh (a0 == 11) hE [4,0,1,6,19] Z (asK [0] Z) Z
 rintro aC hE
 try dsimp only
 have hm:=hLj_2
 try rw [hE] at hm
 refine Qt Z (fun aR=>?_) (fun aR=>?_)
 replace hm:=QI hm aR
 refine Q2 [4,0,1] (S':=V3 ..) Z (Q1 (wP Z (Q4 ?_)))
 have hE:=(Zi hm).symm
 refine Qh 1 hE [4,0,1,6] Z (asK [0] Z) Z
 replace hm:=QH hm aR
 refine Q2 [4,0,1,6] (S':=V4 ..) Z (Qr ?_)
 have hE:=(Zi hm).symm
 refine Qh 2 hE [4,0,1,6] Z (asK [0] Z) Z
 rintro z hE
 try dsimp only
 have hm:=hLj_1
 try rw [hE] at hm
 refine Q5 (Q5 ?_)
 obtain ⟨bA,hm,hLj_3⟩:=Q6 hm
 refine QM (σ:=Bool) (fun aD=>bA = aD) (fun aD=>[(4,.pointer (some ⟨g4,0,none⟩)),(0,.int .u8 a0),(1,.slice aF l1.length aG),(6,.int .i64 ((z:Nat):Int)),(31,.bool aD)]) (fun aD=>[.sli 3 R_V aF aG l1]) (fun aD=>[.blk g4 [.int .u8 0,.int .i64 0,.string ((⟨#[]⟩ : ByteArray))] 57]) ?_ ?_
 refine Q1 (wP Z (wP Z (wP Z ?_)))
 refine QG (d:=22) (S':=V6 ..) Z Z (fun aS=>?_) (fun aS=>?_)
 replace hm:=QI hm aS
 refine wO Z (wO Z (wP Z (wP Z (wO Z (wO Z (wO Z (wO Z (wP Z (Q4 ?_)))))))))
 have hE:=(Zi hm).symm
 refine Qh true hE [4,0,1,6,31] Z (asK [0] Z) Z
 replace hm:=QH hm aS
 refine wP Z (wP Z (wP Z (wP Z ?_)))
 refine QG (d:=26) (S':=V10 ..) Z Z (fun aT=>?_) (fun aT=>?_)
 replace hm:=QI hm aT
 refine wO Z (wO Z (wO Z (wO Z (wP Z (Q4 ?_)))))
 have hE:=(Zi hm).symm
 refine Qh true hE [4,0,1,6,31] Z (asK [0] Z) Z
 replace hm:=QH hm aT
 refine wP Z (wN Z Q5r (wP Z (wP Z (Qs (d:=30) (v':=.bool (l1.length != z)) (S':=V14 ..) Z Z (natne (a:=l1.length) (b:=z)) (wP Z (Q4 ?_))))))
 have hE:=(Zi hm).symm
 refine Qh (l1.length != z) hE [4,0,1,6,31] Z (asK [0] Z) Z
 rintro aD hE
 try dsimp only
 have hm:=hLj_3
 try rw [hE] at hm
 refine Qt Z (fun aU=>?_) (fun aU=>?_)
 replace hm:=QI hm aU
 refine Q2 [4] (S':=[_]) Z (Q5 (Q1 (Q1v Z Z Z Zq Z Q3A Q9M Z (out:=V3 ..) Z (wS 0 0 Z Q1C (all':=V3 ..) Z (H':=[_]) Z (wP Z (Q4 (Q3 (Q2 [5,4] (S':=[_,_]) Z (Qo (Q9 ?_))))))))))
 have hE:=(Zi hm).symm
 obtain ⟨hE0,hF1⟩:=Prod.mk.inj hE
 obtain ⟨hE1,hE2⟩:=Prod.mk.inj hF1
 clear hE hF1
 replace hE0:=hE0.symm
 subst hE0
 replace hE1:=hE1.symm
 subst hE1
 replace hE2:=hE2.symm
 subst hE2
 refine Q1D (Hr:=[]) [] Tryz.results84 (Q1e 0 Z Z Q1C Q2M Z Z) (Qg Z) ⟨Z,Z,Z⟩ (asK [] Z) Z Z (.inl Z)
 replace hm:=QH hm aU
 refine Q2 [4,0,1,6] (S':=V4 ..) Z (Qr (Q3 (Q5 (Q1 (wP Z (Q4 (Q3 (Q5 ?_))))))))
 obtain ⟨b3,hm,hLj_4⟩:=Q1o hm
 refine QM (σ:=Bool) (fun aH=>b3 = .inl aH) (fun aH=>[(4,.pointer (some ⟨g4,0,none⟩)),(0,.int .u8 a0),(1,.slice aF l1.length aG),(6,.int .i64 ((z:Nat):Int)),(7,.bool aH)]) (fun aH=>[.sli 3 R_V aF aG l1]) (fun aH=>[.blk g4 [.int .u8 0,.int .i64 0,.string ((⟨#[]⟩ : ByteArray))] 57]) ?_ ?_
 refine Q5 (Q1 (wP Z (wN Z Q5r (wP Z (Q4 (Q3 (Qw (Q1j (σ:=Nat × Nat × Bool) (fun (aP,a1,aK)=>Q1h (Q2c N l1) aP (a1,aK) = some b3) (fun (aP,a1,aK)=>aP) (fun (aP,a1,aK)=>[(35,.int .i64 ((a1:Nat):Int)),(34,.int .i64 ((l1.length:Nat):Int)),(33,.slice aF l1.length aG),(7,.bool aK),(4,.pointer (some ⟨g4,0,none⟩)),(0,.int .u8 a0),(1,.slice aF l1.length aG),(6,.int .i64 ((z:Nat):Int))]) (fun (aP,a1,aK)=>[.sli 3 R_V aF aG l1]) (fun (aP,a1,aK)=>[.blk g4 [.int .u8 0,.int .i64 0,.string ((⟨#[]⟩ : ByteArray))] 57]) (N,0,false) hm [35,34,33,7,4,0,1,6] Z (asK [0] Z) Z (fun s_ hm=>?_)))))))))
 obtain ⟨aP,a1,aK⟩:=s_
 try dsimp only at hm ⊢
 obtain ⟨c0,c1,bB,hq,hLu1⟩:=QV hm
 clear hm
 subst bB
 replace hm:=hq
 clear hq
 unfold Q2c at hm
 try dsimp only at hm
 refine Q5 (Q1 (wP Z (Qs (d:=36) (v':=.bool (decide (a1 < l1.length))) (S':=V8 ..) Z Z (Q2l (a:=a1) (b:=l1.length)) (Q4 (Q3 (Q5 ?_))))))
 refine Qt Z (fun aV=>?_) (fun aV=>?_)
 replace hm:=QI hm aV
 refine Q2 [35,34,33,7,4,0,1,6] (S':=V8 ..) Z (Qr (Q3 (Q5 ?_)))
 obtain ⟨bC,hm,hLj_5⟩:=Q1o hm
 unfold Q56 at hm
 refine QM (σ:=Bool) (fun aI=>bC = .inl aI) (fun aI=>[(35,.int .i64 ((a1:Nat):Int)),(34,.int .i64 ((l1.length:Nat):Int)),(33,.slice aF l1.length aG),(7,.bool aI),(4,.pointer (some ⟨g4,0,none⟩)),(0,.int .u8 a0),(1,.slice aF l1.length aG),(6,.int .i64 ((z:Nat):Int))]) (fun aI=>[.sli 3 R_V aF aG l1]) (fun aI=>[.blk g4 [.int .u8 0,.int .i64 0,.string ((⟨#[]⟩ : ByteArray))] 57]) ?_ ?_
 refine Qw (Q5 (Q1 ?_))
 obtain ⟨b2,bD,hm⟩:=Q6 hm
 refine Q1a 0 a1 Z Z Z Zq Z Z Z Z Z bD Q5r Q1C (fun c2 c3 bX bR=>(Q1G Q6f 1 Z (fun c4 bE _=>?_)))
 subst bE
 refine Q1F 0 0 Z Z Z Zq Z Z Z (cs:=V3 ..) Z Q1C Q2M Z Z (QK Z Z Z Zq Z Q3A Z (fun g9=>(wS 0 0 Z Q1C (all':=V3 ..) Z (H':=[_,_]) Z (Q4 (Q3 (Q2 [9,35,34,33,7,4,0,1,6] (S':=V9 ..) Z (Q5 (Q5 (Q1 (QO 0 0 Z Z Z Zq Z Z Z (cs:=V3 ..) Z Q1C Q2M Z Z ?_))))))))))
 obtain ⟨c5,bF,hm⟩:=Q6 hm
 refine wC [] [0,1] Z fn_64 Z (Q5E N b2.k b2.n b2.s _ bF) (asK [] Z) Z (H':=[_,_]) Z ?_
 rintro _ _ _ ⟨rfl,rfl,rfl⟩
 refine wP Z (Q4 (Q3 (Q2 [41,9,35,34,33,7,4,0,1,6] (S':=V10 ..) Z ?_)))
 refine Qt Z (fun aW=>?_) (fun aW=>?_)
 replace hm:=QI hm aW
 refine Q2 [4] (S':=[_]) Z (Q5 (Q1 (Q1v Z Z Z Zq Z Q3A Q9M Z (out:=V3 ..) Z (wS 1 0 Z Q1C (all':=V3 ..) Z (H':=[_,_]) Z (wP Z (Q4 (Q3 (Q2 [5,4] (S':=[_,_]) Z (Qo (Q9 (Qk (Q9 (Q9 ?_)))))))))))))
 refine Qk (Q9 ?_)
 have hE:=(Zi hm).symm
 replace hE:=Qx hLj_5 hE
 replace hE:=Qx hLu1 hE
 replace hE:=Qx hLj_4 hE
 obtain ⟨hE0,hF1⟩:=Prod.mk.inj hE
 obtain ⟨hE1,hE2⟩:=Prod.mk.inj hF1
 clear hE hF1
 replace hE0:=hE0.symm
 subst hE0
 replace hE1:=hE1.symm
 subst hE1
 replace hE2:=hE2.symm
 subst hE2
 refine Q1D (Hr:=[]) [] Tryz.results84 (Q1e 1 Z Z Q1C Q2M Z Z) (Qg Z) ⟨Z,Z,Z⟩ (asK [] Z) Z Z (.inl Z)
 replace hm:=QH hm aW
 refine Q2 [9,35,34,33,7,4,0,1,6] (S':=V9 ..) Z (Qr (Q3 (Q1 (wP Z (wP Z ?_)))))
 refine QG (d:=44) (S':=V10 ..) Z Z (fun aX=>?_) (fun aX=>?_)
 replace hm:=QI hm aX
 refine wO Z (wO Z (wO Z (wP Z (QT (S':=V14 ..) Z Z Z Z Z (Q4 (Qf ?_))))))
 have hE:=(Zi hm).symm
 refine QE [1] Z (H':=[_]) Z ?_
 refine Qh true hE [35,34,33,7,4,0,1,6] Z (asK [2] Z) Z
 replace hm:=QH hm aX
 refine wF Z tF_57_0 (wD 0 0 Z tS_55 tA_55 Z (wP Z (wP Z (QT (S':=V14 ..) Z Z Z Z Z (Q4 (Qf ?_))))))
 have hE:=(Zi hm).symm
 refine QE [1] Z (H':=[_]) Z ?_
 refine Qh (b2.k == 2) hE [35,34,33,7,4,0,1,6] Z (asK [2] Z) Z
 rintro aI hE
 try dsimp only
 have hm:=QF hLj_5 hE
 refine Q1 (wP Z ?_)
 obtain ⟨bG,hm⟩:=Qd hm
 refine Qs (d:=49) (v':=.int .i64 ((a1 + 1:Nat):Int)) (S':=V8 ..) Z Z (Q1r (a:=a1) (b:=1) bG) (QT (S':=V8 ..) Z Z Z Z Z (Q4 ?_))
 have hE:=(Zi hm).symm
 replace hE:=QF hLu1 hE
 refine QU (_,a1 + 1,aI) (Nat.lt_succ_self _) hE [35,34,33,7,4,0,1,6] Z (asK [0] Z) Z
 replace hm:=QH hm aV
 refine Q2 [7,4,0,1,6] (S':=V5 ..) Z (Q1g (Qj (Qj (QD ?_))))
 have hE:=(Zi hm).symm
 replace hE:=Qx hLu1 hE
 refine Qh aK hE [4,0,1,6,7] Z (asK [0] Z) Z
 rintro aH hE
 try dsimp only
 have hm:=QF hLj_4 hE
 refine Q5 ?_
 obtain ⟨a6,bH,hm⟩:=Q6 hm
 obtain ⟨bI,hm⟩:=Qd hm
 obtain ⟨bJ,hm⟩:=Qd hm
 obtain ⟨a7,bK,hm⟩:=Q6 hm
 refine QM (σ:=Nat × Nat) (fun _=>True) (fun (a8,a9)=>[(11,.pointer (some ⟨a8,0,none⟩)),(10,.pointer (some ⟨a9,0,none⟩)),(4,.pointer (some ⟨g4,0,none⟩)),(0,.int .u8 a0),(7,.bool aH)]) (fun (a8,a9)=>[]) (fun (a8,a9)=>[.blk a8 [.int .u8 (a7.k),.int .i64 (a7.n),.string a7.s] 57,.blk a9 [.int .u8 (a6.k),.int .i64 (a6.n),.string a6.s] 57,.blk g4 [.int .u8 0,.int .i64 0,.string ((⟨#[]⟩ : ByteArray))] 57]) ?_ ?_
 refine QW [0,1,2,3,4,5,6,7] Z Z (fun hok=>(xP hok 0 Z (Q2P hok 1 0 0 Z Z Z Zq Z Z Z Z Z Z bH Q5r Q1C (fun c6 c7 bY bS=>(Q3s Q6f 1 Z (fun c8 bL _=>?_))))))
 subst bL
 refine Q4N hok 2 0 0 Z Z Z Zq Z Z Z Z (cs:=V3 ..) Z Q1C Q2M Z Z (xP hok 3 Z (xP hok 4 Z (xP hok 5 Z (Q1z (d:=55) (v':=.int .i64 (((z:Nat):Int) - 1)) (S':=V10 ..) Z Z (i64_in bI) (Q2P hok 6 2 ((((z:Nat):Int) - 1).toNat) Z Z Z Zq Z Z Z Z Z (Q1d bJ) bK Q5r Q1C (fun c9 cA bZ bT=>(Q3s Q6f 1 Z (fun cB bM _=>?_))))))))
 subst bM
 refine Q4N hok 7 0 0 Z Z Z Zq Z Z Z Z (cs:=V3 ..) Z Q1C Q2M Z Z ?_
 refine Q34 hok 8 9 Z Z Z Z Z Z ?_ ?_
 refine QK Z Z Z Zq Z Q3A Z (fun b4=>(Q4 (QJ [0,1,2,3,4] [] Z Z (xS hok 9 Z (QK Z Z Z Zq Z Q3A Z (fun b5=>(Q4 (QJ [0,1,2,3,4] [] Z Z (xS hok 10 Z (wS 1 0 Z Q1C (all':=V3 ..) Z (H':=V3 ..) Z (Q4 (QJ [0,1,2,3,4] [] Z Z (xS hok 11 Z (wS 0 0 Z Q1C (all':=V3 ..) Z (H':=V3 ..) Z (Q4 ?_)))))))))))))))
 refine QJ [0,1,2,3,4] [] Z Z (QS hok Z ?_)
 refine Qh (b5,b4) trivial [11,10,4,0,7] Z (asK [] Z) Z
 refine QK Z Z Z Zq Z Q3A Z (fun b5=>(Q4 (QJ [0,1,2,3,4] [] Z Z (xS hok 8 Z (QK Z Z Z Zq Z Q3A Z (fun b4=>(Q4 (QJ [0,1,2,3,4] [] Z Z (xS hok 10 Z (wS 0 0 Z Q1C (all':=V3 ..) Z (H':=V3 ..) Z (Q4 (QJ [0,1,2,3,4] [] Z Z (xS hok 11 Z (wS 1 0 Z Q1C (all':=V3 ..) Z (H':=V3 ..) Z (Q4 ?_)))))))))))))))
 refine QJ [0,1,2,3,4] [] Z Z (QS hok Z (QE [1,0,2] Z (H':=V3 ..) Z ?_))
 refine Qh (b5,b4) trivial [11,10,4,0,7] Z (asK [] Z) Z
 rintro ⟨a8,a9⟩ _
 try dsimp only
 refine Q5 (Qw (Q5 (Q1 (wP Z (wP Z (wP Z (Q4 (Q3 (Q2 [58,11,10,4,0,7] (S':=V6 ..) Z ?_)))))))))
 refine Qt Z (fun aY=>?_) (fun aY=>?_)
 replace hm:=QI hm aY
 refine Q2 [11,10,4] (S':=V3 ..) Z (Q5 (Q1 (QO 1 0 Z Z Z Zq Z Z Z (cs:=V3 ..) Z Q1C Q2M Z Z (QO 0 0 Z Z Z Zq Z Z Z (cs:=V3 ..) Z Q1C Q2M Z Z (Q8E Z Z Z Zq Z Z Z (eqlV _ _ a6 a7) ?_)))))
 obtain ⟨cC,bN,hm⟩:=Q6 hm
 refine wC [] [0,1,2] Z fn_117 Z (Q9J N (decide (a6 = a7)) _ bN) (asK [] Z) Z (H':=V3 ..) Z ?_
 rintro _ _ _ ⟨rfl,rfl,rfl⟩
 refine wS 2 0 Z Q1C (all':=V3 ..) Z (H':=V3 ..) Z (wP Z (Q4 (Q3 (Q2 [5,4] (S':=[_,_]) Z (Qo (Qk (Q9 ?_)))))))
 have hE:=(Zi hm).symm
 obtain ⟨hE0,hF1⟩:=Prod.mk.inj hE
 obtain ⟨hE1,hE2⟩:=Prod.mk.inj hF1
 clear hE hF1
 replace hE0:=hE0.symm
 subst hE0
 replace hE1:=hE1.symm
 subst hE1
 replace hE2:=hE2.symm
 subst hE2
 refine Q1D (Hr:=[]) [] Tryz.results84 (Q1e 2 Z Z Q1C Q2M Z Z) (Qg Z) ⟨Z,Z,Z⟩ (asK [] Z) Z Z (.inl Z)
 replace hm:=QH hm aY
 refine Q2 [11,10,4,0,7] (S':=V5 ..) Z (Q5 (Q1 (wP Z (wP Z (wP Z (Q4 (Q3 (Q2 [65,11,10,4,0,7] (S':=V6 ..) Z ?_))))))))
 refine Qt Z (fun aZ=>?_) (fun aZ=>?_)
 replace hm:=QI hm aZ
 refine Q2 [11,10,4] (S':=V3 ..) Z (Q5 (Q1 (QO 1 0 Z Z Z Zq Z Z Z (cs:=V3 ..) Z Q1C Q2M Z Z (QO 0 0 Z Z Z Zq Z Z Z (cs:=V3 ..) Z Q1C Q2M Z Z (Q8E Z Z Z Zq Z Z Z (neqV _ _ a6 a7) ?_)))))
 obtain ⟨cD,bO,hm⟩:=Q6 hm
 refine wC [] [0,1,2] Z fn_117 Z (Q9J N (!decide (a6 = a7)) _ bO) (asK [] Z) Z (H':=V3 ..) Z ?_
 rintro _ _ _ ⟨rfl,rfl,rfl⟩
 refine wS 2 0 Z Q1C (all':=V3 ..) Z (H':=V3 ..) Z (wP Z (Q4 (Q3 (Q2 [5,4] (S':=[_,_]) Z (Qo (Qk (Q9 ?_)))))))
 have hE:=(Zi hm).symm
 obtain ⟨hE0,hF1⟩:=Prod.mk.inj hE
 obtain ⟨hE1,hE2⟩:=Prod.mk.inj hF1
 clear hE hF1
 replace hE0:=hE0.symm
 subst hE0
 replace hE1:=hE1.symm
 subst hE1
 replace hE2:=hE2.symm
 subst hE2
 refine Q1D (Hr:=[]) [] Tryz.results84 (Q1e 2 Z Z Q1C Q2M Z Z) (Qg Z) ⟨Z,Z,Z⟩ (asK [] Z) Z Z (.inl Z)
 replace hm:=QH hm aZ
 refine Q2 [11,10,4,0,7] (S':=V5 ..) Z (Q5 (Q1 (wP Z (wP Z (Q4 (Q3 (Q2 [72,11,10,4,0] (S':=V5 ..) Z ?_)))))))
 refine Qt Z (fun b0=>?_) (fun b0=>?_)
 replace hm:=QI hm b0
 refine Q2 [4] (S':=[_]) Z (Q5 (Q1 (Q1v Z Z Z Zq Z Q3A Q9M Z (out:=V3 ..) Z (wS 2 0 Z Q1C (all':=V3 ..) Z (H':=V3 ..) Z (wP Z (Q4 (Q3 (Q2 [5,4] (S':=[_,_]) Z (Qo (Qk (Q9 ?_)))))))))))
 have hE:=(Zi hm).symm
 obtain ⟨hE0,hF1⟩:=Prod.mk.inj hE
 obtain ⟨hE1,hE2⟩:=Prod.mk.inj hF1
 clear hE hF1
 replace hE0:=hE0.symm
 subst hE0
 replace hE1:=hE1.symm
 subst hE1
 replace hE2:=hE2.symm
 subst hE2
 refine Q1D (Hr:=[]) [] Tryz.results84 (Q1e 2 Z Z Q1C Q2M Z Z) (Qg Z) ⟨Z,Z,Z⟩ (asK [] Z) Z Z (.inl Z)
 replace hm:=QH hm b0
 refine Q2 [11,10,4,0] (S':=V4 ..) Z (Qr (Qf (Q3 (Q5 ?_))))
 obtain ⟨bP,hm,hLj_7⟩:=Q6 hm
 unfold Q1i at hm
 refine QM (σ:=Int × Bool) (fun (aA,aE)=>bP = (aA,aE)) (fun (aA,aE)=>[(4,.pointer (some ⟨g4,0,none⟩)),(12,.int .i64 aA),(13,.bool aE)]) (fun (aA,aE)=>[]) (fun (aA,aE)=>[.blk g4 [.int .u8 0,.int .i64 0,.string ((⟨#[]⟩ : ByteArray))] 57]) ?_ ?_
 obtain ⟨_ | _ | _ | _ | _ | _ | _ | _ | _ | _,aJ,hm⟩:=Q6 hm
 try dsimp only at hm
 obtain ⟨_,a5,hm⟩:=Q6 hm
 try dsimp only at hm
 refine QW [0,2,3,4,5,7,8,9] Z Z (fun hok=>(xP hok 0 Z (Q8 hok 2 Z Z Z Zq Z Z Z Q3y (Qn hok 3 1 1 Z Z Z Zq Z Z Z Z (cs:=[_]) Z tS_2 tA_2 Z Z (Q8 hok 4 Z Z Z Zq Z Z Z Q3y (Qn hok 5 0 1 Z Z Z Zq Z Z Z Z (cs:=[_]) Z tS_2 tA_2 Z Z (xS hok 1 Z (wC [] [0,1,2] Z Qbr Z (w_value_does_s0 N a0 aJ) (asK [] Z) Z (H':=V3 ..) Z ?_))))))))
 rintro _ _ _ ⟨rfl,rfl,rfl⟩
 refine Q4 (QJ [] [0,1] Z Z (xS hok 6 Z (Q1K [] [0,1,2] Z Z Z Zq Z Z Z fn_148 Z Z (w_value_does_2_s N a6.n a7.n a5) (asK [] Z) Z (H':=V3 ..) Z ?_)))
 rintro _ _ _ ⟨rfl,rfl,rfl⟩
 refine Q4 (QJ [] [] Z Z (xP hok 7 Z (xP hok 8 Z (xP hok 9 Z (xS hok 10 Z (wP Z (Q4 (QJ [] [] Z Z (xS hok 11 Z (wP Z (Q4 (QJ [] [] Z Z (QS hok Z ?_)))))))))))))
 have hE:=(Zi hm).symm
 refine QE [2] Z (H':=[_]) Z ?_
 refine Qh (IntKind.wrap .i64 (a6.n + a7.n),(decide ((IntKind.wrap .i64 (a6.n + a7.n)) < a6.n)) == (decide (a7.n < 0))) hE [4,12,13] Z (asK [] Z) Z
 try dsimp only at hm
 obtain ⟨_,a5,hm⟩:=Q6 hm
 try dsimp only at hm
 refine QW [0,2,3,4,5,7,8,9] Z Z (fun hok=>(xP hok 0 Z (Q8 hok 2 Z Z Z Zq Z Z Z Q3y (Qn hok 3 1 1 Z Z Z Zq Z Z Z Z (cs:=[_]) Z tS_2 tA_2 Z Z (Q8 hok 4 Z Z Z Zq Z Z Z Q3y (Qn hok 5 0 1 Z Z Z Zq Z Z Z Z (cs:=[_]) Z tS_2 tA_2 Z Z (xS hok 1 Z (wC [] [0,1,2] Z Qbr Z (w_value_does_s1 N a0 aJ) (asK [] Z) Z (H':=V3 ..) Z ?_))))))))
 rintro _ _ _ ⟨rfl,rfl,rfl⟩
 refine Q4 (QJ [] [0,1] Z Z (xS hok 6 Z (Q1K [] [0,1,2] Z Z Z Zq Z Z Z fn_149 Z Z (w_value_does_3_s N a6.n a7.n a5) (asK [] Z) Z (H':=V3 ..) Z ?_)))
 rintro _ _ _ ⟨rfl,rfl,rfl⟩
 refine Q4 (QJ [] [] Z Z (xP hok 7 Z (xP hok 8 Z (xP hok 9 Z (xS hok 10 Z (wP Z (Q4 (QJ [] [] Z Z (xS hok 11 Z (wP Z (Q4 (QJ [] [] Z Z (QS hok Z ?_)))))))))))))
 have hE:=(Zi hm).symm
 refine QE [2] Z (H':=[_]) Z ?_
 refine Qh (IntKind.wrap .i64 (a6.n - a7.n),(decide ((IntKind.wrap .i64 (a6.n - a7.n)) > a6.n)) == (decide (a7.n < 0))) hE [4,12,13] Z (asK [] Z) Z
 try dsimp only at hm
 obtain ⟨⟨b6,b7⟩,a5,hm⟩:=Q6 hm
 try dsimp only at hm
 refine QW [0,2,3,4,5,7,8,9] Z Z (fun hok=>(xP hok 0 Z (Q8 hok 2 Z Z Z Zq Z Z Z Q3y (Qn hok 3 1 1 Z Z Z Zq Z Z Z Z (cs:=[_]) Z tS_2 tA_2 Z Z (Q8 hok 4 Z Z Z Zq Z Z Z Q3y (Qn hok 5 0 1 Z Z Z Zq Z Z Z Z (cs:=[_]) Z tS_2 tA_2 Z Z (xS hok 1 Z (wC [] [0,1,2] Z Qbr Z (w_value_does_s2 N a0 aJ) (asK [] Z) Z (H':=V3 ..) Z ?_))))))))
 rintro _ _ _ ⟨rfl,rfl,rfl⟩
 refine Q4 (QJ [] [0,1] Z Z (xS hok 6 Z (Q1K [] [0,1,2] Z Z Z Zq Z Z Z fn_150 Z Z (w_value_product_s N a6.n a7.n _ _ a5) (asK [] Z) Z (H':=V3 ..) Z ?_)))
 rintro _ _ _ ⟨rfl,rfl,rfl⟩
 refine Q4 (QJ [] [] Z Z (xP hok 7 Z (xP hok 8 Z (xP hok 9 Z (xS hok 10 Z (wP Z (Q4 (QJ [] [] Z Z (xS hok 11 Z (wP Z (Q4 (QJ [] [] Z Z (QS hok Z ?_)))))))))))))
 have hE:=(Zi hm).symm
 refine QE [2] Z (H':=[_]) Z ?_
 refine Qh (b6,b7) hE [4,12,13] Z (asK [] Z) Z
 try dsimp only at hm
 obtain ⟨_,a5,hm⟩:=Q6 hm
 try dsimp only at hm
 refine QW [0,2,3,4,5,7,8,9] Z Z (fun hok=>(xP hok 0 Z (Q8 hok 2 Z Z Z Zq Z Z Z Q3y (Qn hok 3 1 1 Z Z Z Zq Z Z Z Z (cs:=[_]) Z tS_2 tA_2 Z Z (Q8 hok 4 Z Z Z Zq Z Z Z Q3y (Qn hok 5 0 1 Z Z Z Zq Z Z Z Z (cs:=[_]) Z tS_2 tA_2 Z Z (xS hok 1 Z (wC [] [0,1,2] Z Qbr Z (w_value_does_s3 N a0 aJ) (asK [] Z) Z (H':=V3 ..) Z ?_))))))))
 rintro _ _ _ ⟨rfl,rfl,rfl⟩
 refine Q4 (QJ [] [0,1] Z Z (xS hok 6 Z (Q1K [] [0,1,2] Z Z Z Zq Z Z Z fn_151 Z Z (w_value_does_4_s N a6.n a7.n a5) (asK [] Z) Z (H':=V3 ..) Z ?_)))
 rintro _ _ _ ⟨rfl,rfl,rfl⟩
 refine Q4 (QJ [] [] Z Z (xP hok 7 Z (xP hok 8 Z (xP hok 9 Z (xS hok 10 Z (wP Z (Q4 (QJ [] [] Z Z (xS hok 11 Z (wP Z (Q4 (QJ [] [] Z Z (QS hok Z ?_)))))))))))))
 have hE:=(Zi hm).symm
 refine QE [2] Z (H':=[_]) Z ?_
 refine Qh (IntKind.wrap .i64 (0 - a6.n),a6.n != -9223372036854775808) hE [4,12,13] Z (asK [] Z) Z
 try dsimp only at hm
 obtain ⟨aN,a5,hm⟩:=Q6 hm
 refine QW [0,2,3,4,5,7,8,9] Z Z (fun hok=>(xP hok 0 Z (Q8 hok 2 Z Z Z Zq Z Z Z Q3y (Qn hok 3 1 1 Z Z Z Zq Z Z Z Z (cs:=[_]) Z tS_2 tA_2 Z Z (Q8 hok 4 Z Z Z Zq Z Z Z Q3y (Qn hok 5 0 1 Z Z Z Zq Z Z Z Z (cs:=[_]) Z tS_2 tA_2 Z Z (xS hok 1 Z (wC [] [0,1,2] Z Qbr Z (w_value_does_s4 N a0 aJ) (asK [] Z) Z (H':=V3 ..) Z ?_))))))))
 rintro _ _ _ ⟨aB,rfl,rfl,rfl⟩
 refine Q4 (QJ [] [1,2] Z Z (xS hok 6 Z (Q1K [0] [1,2,3] Z Z Z Zq Z Z Z fn_152 Z Z (w_value_does_5_s N a6.n a7.n aB _ a5) (asK [] Z) Z (H':=V3 ..) Z ?_)))
 rintro _ _ _ ⟨rfl,rfl,rfl⟩
 refine Q4 (QJ [] [] Z Z (xP hok 7 Z (xP hok 8 Z (xP hok 9 Z (xS hok 10 Z (wP Z (Q4 (QJ [] [] Z Z (xS hok 11 Z (wP Z (Q4 (QJ [] [] Z Z (QS hok Z ?_)))))))))))))
 have hE:=(Zi hm).symm
 refine QE [3] Z (H':=[_]) Z ?_
 refine Qh (aN,true) hE [4,12,13] Z (asK [] Z) Z
 try dsimp only at hm
 obtain ⟨aN,a5,hm⟩:=Q6 hm
 refine QW [0,2,3,4,5,7,8,9] Z Z (fun hok=>(xP hok 0 Z (Q8 hok 2 Z Z Z Zq Z Z Z Q3y (Qn hok 3 1 1 Z Z Z Zq Z Z Z Z (cs:=[_]) Z tS_2 tA_2 Z Z (Q8 hok 4 Z Z Z Zq Z Z Z Q3y (Qn hok 5 0 1 Z Z Z Zq Z Z Z Z (cs:=[_]) Z tS_2 tA_2 Z Z (xS hok 1 Z (wC [] [0,1,2] Z Qbr Z (w_value_does_s5 N a0 aJ) (asK [] Z) Z (H':=V3 ..) Z ?_))))))))
 rintro _ _ _ ⟨aB,rfl,rfl,rfl⟩
 refine Q4 (QJ [] [1,2] Z Z (xS hok 6 Z (Q1K [0] [1,2,3] Z Z Z Zq Z Z Z fn_153 Z Z (w_value_does_6_s N a6.n a7.n aB _ a5) (asK [] Z) Z (H':=V3 ..) Z ?_)))
 rintro _ _ _ ⟨rfl,rfl,rfl⟩
 refine Q4 (QJ [] [] Z Z (xP hok 7 Z (xP hok 8 Z (xP hok 9 Z (xS hok 10 Z (wP Z (Q4 (QJ [] [] Z Z (xS hok 11 Z (wP Z (Q4 (QJ [] [] Z Z (QS hok Z ?_)))))))))))))
 have hE:=(Zi hm).symm
 refine QE [3] Z (H':=[_]) Z ?_
 refine Qh (aN,true) hE [4,12,13] Z (asK [] Z) Z
 try dsimp only at hm
 obtain ⟨aN,a5,hm⟩:=Q6 hm
 refine QW [0,2,3,4,5,7,8,9] Z Z (fun hok=>(xP hok 0 Z (Q8 hok 2 Z Z Z Zq Z Z Z Q3y (Qn hok 3 1 1 Z Z Z Zq Z Z Z Z (cs:=[_]) Z tS_2 tA_2 Z Z (Q8 hok 4 Z Z Z Zq Z Z Z Q3y (Qn hok 5 0 1 Z Z Z Zq Z Z Z Z (cs:=[_]) Z tS_2 tA_2 Z Z (xS hok 1 Z (wC [] [0,1,2] Z Qbr Z (w_value_does_s6 N a0 aJ) (asK [] Z) Z (H':=V3 ..) Z ?_))))))))
 rintro _ _ _ ⟨aB,rfl,rfl,rfl⟩
 refine Q4 (QJ [] [1,2] Z Z (xS hok 6 Z (Q1K [0] [1,2,3] Z Z Z Zq Z Z Z fn_154 Z Z (w_value_does_7_s N a6.n a7.n aB _ a5) (asK [] Z) Z (H':=V3 ..) Z ?_)))
 rintro _ _ _ ⟨rfl,rfl,rfl⟩
 refine Q4 (QJ [] [] Z Z (xP hok 7 Z (xP hok 8 Z (xP hok 9 Z (xS hok 10 Z (wP Z (Q4 (QJ [] [] Z Z (xS hok 11 Z (wP Z (Q4 (QJ [] [] Z Z (QS hok Z ?_)))))))))))))
 have hE:=(Zi hm).symm
 refine QE [3] Z (H':=[_]) Z ?_
 refine Qh (aN,true) hE [4,12,13] Z (asK [] Z) Z
 try dsimp only at hm
 obtain ⟨aN,a5,hm⟩:=Q6 hm
 refine QW [0,2,3,4,5,7,8,9] Z Z (fun hok=>(xP hok 0 Z (Q8 hok 2 Z Z Z Zq Z Z Z Q3y (Qn hok 3 1 1 Z Z Z Zq Z Z Z Z (cs:=[_]) Z tS_2 tA_2 Z Z (Q8 hok 4 Z Z Z Zq Z Z Z Q3y (Qn hok 5 0 1 Z Z Z Zq Z Z Z Z (cs:=[_]) Z tS_2 tA_2 Z Z (xS hok 1 Z (wC [] [0,1,2] Z Qbr Z (w_value_does_s7 N a0 aJ) (asK [] Z) Z (H':=V3 ..) Z ?_))))))))
 rintro _ _ _ ⟨aB,rfl,rfl,rfl⟩
 refine Q4 (QJ [] [1,2] Z Z (xS hok 6 Z (Q1K [0] [1,2,3] Z Z Z Zq Z Z Z fn_155 Z Z (w_value_does_8_s N a6.n a7.n aB _ a5) (asK [] Z) Z (H':=V3 ..) Z ?_)))
 rintro _ _ _ ⟨rfl,rfl,rfl⟩
 refine Q4 (QJ [] [] Z Z (xP hok 7 Z (xP hok 8 Z (xP hok 9 Z (xS hok 10 Z (wP Z (Q4 (QJ [] [] Z Z (xS hok 11 Z (wP Z (Q4 (QJ [] [] Z Z (QS hok Z ?_)))))))))))))
 have hE:=(Zi hm).symm
 refine QE [3] Z (H':=[_]) Z ?_
 refine Qh (aN,true) hE [4,12,13] Z (asK [] Z) Z
 try dsimp only at hm
 obtain ⟨aN,a5,hm⟩:=Q6 hm
 refine QW [0,2,3,4,5,7,8,9] Z Z (fun hok=>(xP hok 0 Z (Q8 hok 2 Z Z Z Zq Z Z Z Q3y (Qn hok 3 1 1 Z Z Z Zq Z Z Z Z (cs:=[_]) Z tS_2 tA_2 Z Z (Q8 hok 4 Z Z Z Zq Z Z Z Q3y (Qn hok 5 0 1 Z Z Z Zq Z Z Z Z (cs:=[_]) Z tS_2 tA_2 Z Z (xS hok 1 Z (wC [] [0,1,2] Z Qbr Z (w_value_does_s8 N a0 aJ) (asK [] Z) Z (H':=V3 ..) Z ?_))))))))
 rintro _ _ _ ⟨aB,rfl,rfl,rfl⟩
 refine Q4 (QJ [] [1,2] Z Z (xS hok 6 Z (Q1K [0] [1,2,3] Z Z Z Zq Z Z Z fn_156 Z Z (w_value_does_9_s N a6.n a7.n aB _ a5) (asK [] Z) Z (H':=V3 ..) Z ?_)))
 rintro _ _ _ ⟨rfl,rfl,rfl⟩
 refine Q4 (QJ [] [] Z Z (xP hok 7 Z (xP hok 8 Z (xP hok 9 Z (xS hok 10 Z (wP Z (Q4 (QJ [] [] Z Z (xS hok 11 Z (wP Z (Q4 (QJ [] [] Z Z (QS hok Z ?_)))))))))))))
 have hE:=(Zi hm).symm
 refine QE [3] Z (H':=[_]) Z ?_
 refine Qh (aN,true) hE [4,12,13] Z (asK [] Z) Z
 ·
  try dsimp only at hm
  cases hm
 rintro ⟨aA,aE⟩ hE
 try dsimp only
 have hm:=hLj_7
 try rw [hE] at hm
 try dsimp only at hm
 refine Q5 (Q5 (Q1 (wP Z (wP Z (Q4 (Q3 (Q2 [86,4,12] (S':=V3 ..) Z ?_)))))))
 refine Qt Z (fun b1=>?_) (fun b1=>?_)
 replace hm:=QI hm b1
 refine Q2 [4] (S':=[_]) Z (Q5 (Q1 (Q1v Z Z Z Zq Z Q3A Q9M Z (out:=V3 ..) Z (wS 0 0 Z Q1C (all':=V3 ..) Z (H':=[_]) Z (wP Z (Q4 (Q3 (Q2 [5,4] (S':=[_,_]) Z (Qo (Q9 ?_))))))))))
 have hE:=(Zi hm).symm
 obtain ⟨hE0,hF1⟩:=Prod.mk.inj hE
 obtain ⟨hE1,hE2⟩:=Prod.mk.inj hF1
 clear hE hF1
 replace hE0:=hE0.symm
 subst hE0
 replace hE1:=hE1.symm
 subst hE1
 replace hE2:=hE2.symm
 subst hE2
 refine Q1D (Hr:=[]) [] Tryz.results84 (Q1e 0 Z Z Q1C Q2M Z Z) (Qg Z) ⟨Z,Z,Z⟩ (asK [] Z) Z Z (.inl Z)
 replace hm:=QH hm b1
 refine Q2 [4,12] (S':=[_,_]) Z (Qr (Q3 (Q5 (Q1 (wP Z ?_)))))
 obtain ⟨_,bQ,hm⟩:=Q6 hm
 try dsimp only at hm
 refine wC [] [0] Z fn_119 Z (Q93 N aA bQ) (asK [] Z) Z (H':=[_]) Z ?_
 rintro _ _ _ ⟨rfl,rfl,rfl⟩
 refine wS 0 0 Z Q1C (all':=V3 ..) Z (H':=[_]) Z (wP Z (Q4 (Q3 (Q2 [5,4] (S':=[_,_]) Z (Qo ?_)))))
 have hE:=(Zi hm).symm
 obtain ⟨hE0,hF1⟩:=Prod.mk.inj hE
 obtain ⟨hE1,hE2⟩:=Prod.mk.inj hF1
 clear hE hF1
 replace hE0:=hE0.symm
 subst hE0
 replace hE1:=hE1.symm
 subst hE1
 replace hE2:=hE2.symm
 subst hE2
 refine Q1D (Hr:=[]) [] Tryz.results84 (Q1e 0 Z Z Q1C Q2M Z Z) (Qg Z) ⟨Z,Z,Z⟩ (asK [] Z) Z Z (.inl Z)
theorem w_expr_All_v2_s (N:Nat) (rc:Int → Int → Int → ByteArray → Int → Int → (List Qm) → (List V) → Option (Int × Int × ByteArray × Nat)) (ih : ∀ (a0:Int) (a1:Int) (a2:Int) (a3:ByteArray) (a4:Int) (a5:Int) (aH:OA) (aI:Nat) (l6:List Qm) (aJ:OA) (aK:Nat) (l7:List V) (o0:Int) (o1:Int) (o2:ByteArray) (o3:Nat),rc a0 a1 a2 a3 a4 a5 l6 l7 = some (o0,o1,o2,o3) → Q17 Tryz.prog 44 [.agg #[.int .u8 a0,.int .u8 a1,.int .i64 a2,.string a3,.int .i64 a4,.int .u8 a5,.slice aH l6.length aI],.slice aJ l7.length aK] [.sli 7 QA aH aI l6,.sli 3 R_V aJ aK l7] [] (fun v Φr Hr=>v = .tuple #[.agg #[.int .u8 o0,.int .i64 o1,.string o2],.int .i64 ((o3:Nat):Int)] ∧ Φr = [] ∧ Hr = [])) (aH:OA) (aI:Nat) (l0:List V) (aJ:OA) (aK:Nat) (l1:List Qm) (o2:List V) (o4:Nat) (hm:Q7W N rc l0 l1 = some (o2,o4)):Q17 Tryz.prog 83 [.slice aH l0.length aI,.slice aJ l1.length aK] [.sli 3 R_V aH aI l0,.sli 7 QA aJ aK l1] [] (fun v Φr Hr=>∃ (o0:OA) (o1:Nat) (o3:Nat),v = .tuple #[.slice o0 o3 o1,.int .i64 ((o4:Nat):Int)] ∧ Φr = [] ∧ Hr = [.own 57 3 R_V (.slice o0 o3 o1) o2]):=by
 unfold Q7W at hm
 refine QC Tryz.func83 Z Tryz.ntmps83 Z (S:=[_,_]) Z (fun C=>(Q5 (Q1 (wP Z (wP Z (Q4 (Q3 (Q2 [0,1] (S':=[_,_]) Z (Q5 (Q1 (wP Z (Q4 (Q3 (Q5 ?_))))))))))))))
 obtain ⟨aR,hm,hLj_1⟩:=Q1o hm
 refine QM (σ:=(List V) × OA × Nat × Nat) (fun (aD,a7,a8,a9)=>aR = .inl aD) (fun (aD,a7,a8,a9)=>[(6,.slice a7 a9 a8)]) (fun (aD,a7,a8,a9)=>[]) (fun (aD,a7,a8,a9)=>[.own 57 3 R_V (.slice a7 a9 a8) aD]) ?_ ?_
 refine Q5 (Q1 (wP Z (wN Z Q7O (wP Z (Q4 (Q3 (Q2 [13,12,11,6,0] (S':=V5 ..) Z (Qw (Q5b 57 3 R_V (Q1j (σ:=Nat × Nat × (List V) × OA × Nat × Nat) (fun (aL,a6,z,aA,aB,aC)=>Q1h (Q5a N l1 rc l0) aL (a6,z) = some aR) (fun (aL,a6,z,aA,aB,aC)=>aL) (fun (aL,a6,z,aA,aB,aC)=>[(13,.int .i64 ((a6:Nat):Int)),(12,.int .i64 ((l1.length:Nat):Int)),(11,.slice aJ l1.length aK),(6,.slice aA aC aB),(0,.slice aH l0.length aI)]) (fun (aL,a6,z,aA,aB,aC)=>[.sli 7 QA aJ aK l1,.sli 3 R_V aH aI l0]) (fun (aL,a6,z,aA,aB,aC)=>[.own 57 3 R_V (.slice aA aC aB) z]) (N,0,[],none,0,0) hm [13,12,11,6,0] Z (asK [1,0] Z) Z (fun s_ hm=>?_)))))))))))
 obtain ⟨aL,a6,z,aA,aB,aC⟩:=s_
 try dsimp only at hm ⊢
 obtain ⟨bE,bF,b0,hq,hLu1⟩:=QV hm
 clear hm
 subst b0
 replace hm:=hq
 clear hq
 unfold Q5a at hm
 try dsimp only at hm
 refine Q5 (Q1 (wP Z (Qs (d:=14) (v':=.bool (decide (a6 < l1.length))) (S':=V5 ..) Z Z (Q2l (a:=a6) (b:=l1.length)) (Q4 (Q3 (Q5 ?_))))))
 refine Qt Z (fun aN=>?_) (fun aN=>?_)
 replace hm:=QI hm aN
 refine Q2 [13,12,11,6,0] (S':=V5 ..) Z (Qr (Q3 (Q5 (Qw (Q5 (Q1 ?_))))))
 obtain ⟨aM,b1,hm⟩:=Q6 hm
 refine Q1a 0 a6 Z Z Z Zq Z Z Z Z Z b1 Q7O Q57 (fun bG bH bD b8=>(Q1G Q5F 1 Z (fun b2 b3 _=>?_)))
 subst b3
 refine Q1F 1 0 Z Z Z Zq Z Z Z (cs:=V7 ..) Z Q57 Q7Z Z Z (QK Z Z Z Zq Z tZ_65 Z (fun g8=>(wS 0 0 Z Q57 (all':=V7 ..) Z (H':=[_,_]) Z (Q4 (Q3 (Q2 [8,13,12,11,6,0] (S':=V6 ..) Z (Q5 (Q1 (QO 0 0 Z Z Z Zq Z Z Z (cs:=V7 ..) Z Q57 Q7Z Z Z (wP Z ?_))))))))))
 obtain ⟨⟨aE,aF,aG,aO⟩,b4,hm⟩:=Q6 hm
 try dsimp only at hm
 refine wC [] [0,1] Z fn_44 Z (ih aM.kind aM.value.k aM.value.n aM.value.s aM.var aM.op b2.1 b2.2 aM.kids aH aI l0 _ _ _ _ b4) (asK [0,4] Z) Z (H':=[_,_]) Z ?_
 rintro _ _ _ ⟨rfl,rfl,rfl⟩
 refine wP Z (wP Z (wP Z (QK Z Z Z Zq Z Q3A Z (fun g9=>(wS 0 0 Z Q1C (all':=V3 ..) Z (H':=V3 ..) Z (wP Z (Q4 (Q3 (Q2 [10,9,13,12,11,6,0] (S':=V7 ..) Z (Q5 (Q5 (Q1 (wP Z (wP Z ?_))))))))))))))
 refine Qs (d:=24) (v':=.bool (aO != 0)) (S':=V8 ..) Z Z (natne (a:=aO) (b:=0)) (Q4 (Q3 (Q2 [24,10,9,13,12,11,6,0] (S':=V8 ..) Z ?_)))
 refine Qt Z (fun aP=>?_) (fun aP=>?_)
 replace hm:=QI hm aP
 refine Q2 [10] (S':=[_]) Z (Q5 (Q1 (wP Z (wP Z (wP Z (Q4 (Q3 (Q2 [5,4] (S':=[_,_]) Z (Qo (Q9 (Qk (Q9 (Q9 ?_)))))))))))))
 refine Qk (Q9 ?_)
 have hE:=(Zi hm).symm
 replace hE:=Qx hLu1 hE
 replace hE:=Qx hLj_1 hE
 obtain ⟨hE0,hE1⟩:=Prod.mk.inj hE
 clear hE
 replace hE0:=hE0.symm
 subst hE0
 replace hE1:=hE1.symm
 subst hE1
 refine Q3r 57 3 R_V ?_
 refine Q1D (Hr:=[_]) [0] Tryz.results83 (Qg Z) (Qg Z) ⟨none,0,0,Z,Z,Z⟩ (asK [] Z) Z Z (.inl Z)
 replace hm:=QH hm aP
 refine Q2 [9,13,12,11,6,0] (S':=V6 ..) Z (Qr (Q3 (Q1 (wP Z (QO 0 0 Z Z Z Zq Z Z Z (cs:=V3 ..) Z Q1C Q2M Z Z (QB Z Z Z Zq Z Q5r Q1C Q3A Z (zs:=[.int .u8 0,.int .i64 0,.string ((⟨#[]⟩ : ByteArray))]) (by kernel_rfl) Z (out:=V3 ..) Z (fun bI=>?_)))))))
 obtain ⟨aS,hm⟩:=Qd hm
 refine Q2p ([(⟨aE,aF,aG⟩ : V)]) 3 0 Z Z Z Zq Z Z Z Z Z (fun F w hφ=>⟨[.int .u8 aE,.int .i64 aF,.string aG],[],Z,Z,⟨(),Z,Qu⟩,Z⟩) Q5r tR_57 Z Z (Nat.le_trans aS (by decide)) (Nat.le_trans (Nat.mul_le_mul_right _ aS) (by decide)) (H2:=fun aU aV=>[_,_,_,.own 57 3 R_V (.slice aU ((z ++ ([(⟨aE,aF,aG⟩ : V)])).length) aV) (z ++ ([(⟨aE,aF,aG⟩ : V)]))]) (fun _ _=>Z) (fun aU aV=>(Q3R 0 Z (H':=V3 ..) Z (QT (S':=V9 ..) Z Z Z Z Z (Q4 (Qf (Q3 (Q2 [6,13,12,11,0] (S':=V5 ..) Z (Q1 (wP Z ?_)))))))))
 obtain ⟨b5,hm⟩:=Qd hm
 refine Qs (d:=30) (v':=.int .i64 ((a6 + 1:Nat):Int)) (S':=V5 ..) Z Z (Q1r (a:=a6) (b:=1) b5) (QT (S':=V5 ..) Z Z Z Z Z (Q4 ?_))
 have hE:=(Zi hm).symm
 replace hE:=QF hLu1 hE
 refine QE [2] Z (H':=[_]) Z ?_
 refine QU (_,a6 + 1,(z ++ ([(⟨aE,aF,aG⟩ : V)])),aU,aV,((z ++ ([(⟨aE,aF,aG⟩ : V)])).length)) (Nat.lt_succ_self _) hE [13,12,11,6,0] Z (asK [3,4] Z) Z
 replace hm:=QH hm aN
 refine Q2 [6] (S':=[_]) Z (Q1g (Qj (Qj (QD ?_))))
 have hE:=(Zi hm).symm
 replace hE:=Qx hLu1 hE
 refine Qh (z,aA,aB,aC) hE [6] Z (asK [] Z) Z
 rintro ⟨aD,a7,a8,a9⟩ hE
 try dsimp only
 have hm:=QF hLj_1 hE
 refine Q5 (Q1 (wP Z (wP Z (wP Z (Q4 (Q3 (Q2 [5,4] (S':=[_,_]) Z (Qo ?_))))))))
 have hE:=(Zi hm).symm
 obtain ⟨hE0,hE1⟩:=Prod.mk.inj hE
 clear hE
 replace hE0:=hE0.symm
 subst hE0
 replace hE1:=hE1.symm
 subst hE1
 refine Q1D (Hr:=[_]) [0] Tryz.results83 (Qg Z) (Qg Z) ⟨a7,a8,a9,Z,Z,Z⟩ (asK [] Z) Z Z (.inl Z)
theorem Qcx (N:Nat) (rc:Int → Int → Int → ByteArray → Int → Int → (List Qm) → (List V) → Option (Int × Int × ByteArray × Nat)) (ih : ∀ (a0:Int) (a1:Int) (a2:Int) (a3:ByteArray) (a4:Int) (a5:Int) (aL:OA) (aM:Nat) (l6:List Qm) (aN:OA) (aO:Nat) (l7:List V) (o0:Int) (o1:Int) (o2:ByteArray) (o3:Nat),rc a0 a1 a2 a3 a4 a5 l6 l7 = some (o0,o1,o2,o3) → Q17 Tryz.prog 44 [.agg #[.int .u8 a0,.int .u8 a1,.int .i64 a2,.string a3,.int .i64 a4,.int .u8 a5,.slice aL l6.length aM],.slice aN l7.length aO] [.sli 7 QA aL aM l6,.sli 3 R_V aN aO l7] [] (fun v Φr Hr=>v = .tuple #[.agg #[.int .u8 o0,.int .i64 o1,.string o2],.int .i64 ((o3:Nat):Int)] ∧ Φr = [] ∧ Hr = [])) (aD:Nat) (s:OA) (z:Nat) (l0:List V) (aE:Nat) (a1:Int) (a2:Int) (a3:Int) (a4:ByteArray) (a5:Int) (a6:Int) (a7:OA) (a8:Nat) (l7:List Qm) (o0:Nat) (o1:Int) (o2:Nat) (hm:Q6j N rc l0 a1 a2 a3 a4 a5 a6 l7 = some (o0,o1,o2)):Q17 Tryz.prog 82 [.pointer (some ⟨aD,0,none⟩),.pointer (some ⟨aE,0,none⟩)] [.sli 3 R_V s z l0,.sli 7 QA a7 a8 l7] [.blk aD [.slice s l0.length z] 43,.blk aE [.int .u8 a1,.int .u8 a2,.int .i64 a3,.string a4,.int .i64 a5,.int .u8 a6,.slice a7 l7.length a8] 65] (fun v Φr Hr=>v = .tuple #[.agg #[.int .u8 ((o0:Nat):Int),.int .i64 o1,.string ((⟨#[]⟩ : ByteArray))],.int .i64 ((o2:Nat):Int)] ∧ Φr = [.sli 3 R_V s z l0,.sli 7 QA a7 a8 l7] ∧ Hr = [.blk aD [.slice s l0.length z] 43,.blk aE [.int .u8 a1,.int .u8 a2,.int .i64 a3,.string a4,.int .i64 a5,.int .u8 a6,.slice a7 l7.length a8] 65]):=by
 unfold Q6j at hm
 refine QC Tryz.func82 Z Tryz.ntmps82 Z (S:=[_,_]) Z (fun C=>(Q5 (Q1 (QK Z Z Z Zq Z Q3A Z (fun g2=>(wP Z (Q4 (Q3 (Q2 [2,0,1] (S':=V3 ..) Z (Q5 (Q1 (wD 1 0 Z Q7p Q7n Z (wF Z QaG (wD 2 6 Z Q8N Q9h Z ?_))))))))))))))
 obtain ⟨⟨aF,a9⟩,aS,hm⟩:=Q6 hm
 try dsimp only at hm
 refine wC [] [0,1,2] Z fn_83 Z (w_expr_All_v2_s N rc ih s z l0 a7 a8 l7 _ _ aS) (asK [0,1] Z) Z (H':=V3 ..) Z ?_
 rintro _ _ _ ⟨aG,aH,aW,rfl,rfl,rfl⟩
 refine wP Z (wP Z (wP Z (wP Z (wP Z (Q4 (Q3 (Q2 [5,4,2,1] (S':=V4 ..) Z (Q5 (Q5 (Q1 (wP Z (wP Z (Qs (d:=14) (v':=.bool (a9 != 0)) (S':=V5 ..) Z Z (natne (a:=a9) (b:=0)) ?_)))))))))))))
 refine Q4 (Q3 (Q2 [14,5,4,2,1] (S':=V5 ..) Z ?_))
 refine Qt Z (fun aA=>?_) (fun aA=>?_)
 replace hm:=QI hm aA
 refine Q2 [5,2] (S':=[_,_]) Z (Q5 (Q1 (Q1v Z Z Z Zq Z Q3A Q9M Z (out:=V3 ..) Z (wP Z (wS 1 0 Z Q1C (all':=V3 ..) Z (H':=V4 ..) Z (wP Z (Q4 (Q3 (Q2 [3,2] (S':=[_,_]) Z (Qo (Q9 ?_)))))))))))
 have hE:=(Zi hm).symm
 obtain ⟨hE0,hF1⟩:=Prod.mk.inj hE
 obtain ⟨hE1,hE2⟩:=Prod.mk.inj hF1
 clear hE hF1
 replace hE0:=hE0.symm
 subst hE0
 replace hE1:=hE1.symm
 subst hE1
 replace hE2:=hE2.symm
 subst hE2
 refine Q1D (Hr:=[_,_]) [2,3] Tryz.results82 (Q1e 1 Z Z Q1C Q2M Z Z) (Qg Z) ⟨Z,Z,Z⟩ (asK [0,1] Z) Z Z (.inl Z)
 replace hm:=QH hm aA
 refine Q2 [4,2,1] (S':=V3 ..) Z (Qr (Q3 (Q5 (Q1 (wF Z Q9S (wD 3 5 Z tS_62 tA_62 Z (wP Z (QQ 0 Z (fun aB _=>?_)))))))))
 subst aB
 obtain ⟨⟨aX,aY,aZ⟩,aT,hm⟩:=Q6 hm
 try dsimp only at hm
 refine Q53 [] [0,1,2,3] [0] Z Z Z Zq Z Z fn_84 Z (w_value_Do_s N a6 aG aH aF _ _ _ aT) (fun F w hφ hh=>(Q14 (Q1A (hh _ (Q12 (k:=0) Z))) Qu)) (fun _ _ _ hR=>by obtain ⟨rfl,rfl,rfl⟩:=hR; exact ⟨Z,(fun _ h=>Q3G h)⟩) Z Z (H':=V4 ..) Z ?_
 rintro _ _ _ ⟨rfl,rfl,rfl⟩
 refine wP Z (wP Z (wS 1 0 Z Q1C (all':=V3 ..) Z (H':=V4 ..) Z (wP Z (Q4 (Q3 (Q2 [3,2] (S':=[_,_]) Z (Qo ?_)))))))
 have hE:=(Zi hm).symm
 obtain ⟨hE0,hF1⟩:=Prod.mk.inj hE
 obtain ⟨hE1,hE2⟩:=Prod.mk.inj hF1
 clear hE hF1
 replace hE0:=hE0.symm
 subst hE0
 replace hE1:=hE1.symm
 subst hE1
 replace hE2:=hE2.symm
 subst hE2
 refine Q1D (Hr:=[_,_]) [2,3] Tryz.results82 (Q1e 1 Z Z Q1C Q2M Z Z) (Qg Z) ⟨Z,Z,Z⟩ (asK [0,1] Z) Z Z (.inl Z)
theorem w_expr_Eval_s_b (N:Nat) (rc:Int → Int → Int → ByteArray → Int → Int → (List Qm) → (List V) → Option (Int × Int × ByteArray × Nat)) (ih : ∀ (a0:Int) (a1:Int) (a2:Int) (a3:ByteArray) (a4:Int) (a5:Int) (z:OA) (a6:Nat) (l6:List Qm) (a7:OA) (a8:Nat) (l7:List V) (o0:Int) (o1:Int) (o2:ByteArray) (o3:Nat),rc a0 a1 a2 a3 a4 a5 l6 l7 = some (o0,o1,o2,o3) → Q17 Tryz.prog 44 [.agg #[.int .u8 a0,.int .u8 a1,.int .i64 a2,.string a3,.int .i64 a4,.int .u8 a5,.slice z l6.length a6],.slice a7 l7.length a8] [.sli 7 QA z a6 l6,.sli 3 R_V a7 a8 l7] [] (fun v Φr Hr=>v = .tuple #[.agg #[.int .u8 o0,.int .i64 o1,.string o2],.int .i64 ((o3:Nat):Int)] ∧ Φr = [] ∧ Hr = [])) (a0:Int) (a1:Int) (a2:Int) (a3:ByteArray) (a4:Int) (a5:Int) (z:OA) (a6:Nat) (l6:List Qm) (a7:OA) (a8:Nat) (l7:List V) (o0:Int) (o1:Int) (o2:ByteArray) (o3:Nat) (hm:Q55 N rc a0 a1 a2 a3 a4 a5 l6 l7 = some (o0,o1,o2,o3)):Q17 Tryz.prog 44 [.agg #[.int .u8 a0,.int .u8 a1,.int .i64 a2,.string a3,.int .i64 a4,.int .u8 a5,.slice z l6.length a6],.slice a7 l7.length a8] [.sli 7 QA z a6 l6,.sli 3 R_V a7 a8 l7] [] (fun v Φr Hr=>v = .tuple #[.agg #[.int .u8 o0,.int .i64 o1,.string o2],.int .i64 ((o3:Nat):Int)] ∧ Φr = [] ∧ Hr = []):=by
 unfold Q55 at hm
 refine QC Tryz.func44 Z Tryz.ntmps44 Z (S:=[_,_]) Z (fun C=>(Q5 (Q1 (wB Z (fun s=>(wB Z (fun g3=>(QK Z Z Z Zq Z Q3A Z (fun g4=>(wP Z (Q4 (Q3 (Q2 [4,3,2] (S':=V3 ..) Z (Q5 (Q1 (wl_makeMapE (Q8n (Q4W tI_61)) false Q88 Z Z Z Zq Z (fun g9=>(Q2o Z Z Z Zq Z Z ?_))))))))))))))))))
 refine Q4T (i:=1) (u:=.func (.func 79) #[] #[.pointer (some ⟨s,0,none⟩)]) (cs:=[.func (.func 79) #[] #[.pointer (some ⟨s,0,none⟩)]]) 0 Z Z (.inr Z) Z Z Z Z tM_146 trivial Z (fun F w hφ=>⟨Z,Z⟩) (H':=[mapE (Q8n (Q4W tI_61)) false Q88 g9 ([(1,.func (.func 79) #[] #[.pointer (some ⟨s,0,none⟩)])]),.blk g4 [.int .u8 0,.int .i64 0,.string ((⟨#[]⟩ : ByteArray))] 57,.blk g3 [.slice a7 l7.length a8] 43,.blk s [.int .u8 a0,.int .u8 a1,.int .i64 a2,.string a3,.int .i64 a4,.int .u8 a5,.slice z l6.length a6] 65]) Z (Q2o Z Z Z Zq Z Z (Q4T (i:=2) (u:=.func (.func 81) #[] #[.pointer (some ⟨s,0,none⟩),.pointer (some ⟨g3,0,none⟩)]) (cs:=[.func (.func 81) #[] #[.pointer (some ⟨s,0,none⟩),.pointer (some ⟨g3,0,none⟩)]]) 0 Z Z (.inr Z) Z Z Z Z tM_146 trivial Z (fun F w hφ=>⟨Z,Z⟩) (H':=[mapE (Q8n (Q4W tI_61)) false Q88 g9 ([(1,.func (.func 79) #[] #[.pointer (some ⟨s,0,none⟩)]),(2,.func (.func 81) #[] #[.pointer (some ⟨s,0,none⟩),.pointer (some ⟨g3,0,none⟩)])]),.blk g4 [.int .u8 0,.int .i64 0,.string ((⟨#[]⟩ : ByteArray))] 57,.blk g3 [.slice a7 l7.length a8] 43,.blk s [.int .u8 a0,.int .u8 a1,.int .i64 a2,.string a3,.int .i64 a4,.int .u8 a5,.slice z l6.length a6] 65]) Z (Q2o Z Z Z Zq Z Z (Q4T (i:=3) (u:=.func (.func 82) #[] #[.pointer (some ⟨g3,0,none⟩),.pointer (some ⟨s,0,none⟩)]) (cs:=[.func (.func 82) #[] #[.pointer (some ⟨g3,0,none⟩),.pointer (some ⟨s,0,none⟩)]]) 0 Z Z (.inr Z) Z Z Z Z tM_146 trivial Z (fun F w hφ=>⟨Z,Z⟩) (H':=[mapE (Q8n (Q4W tI_61)) false Q88 g9 ([(1,.func (.func 79) #[] #[.pointer (some ⟨s,0,none⟩)]),(2,.func (.func 81) #[] #[.pointer (some ⟨s,0,none⟩),.pointer (some ⟨g3,0,none⟩)]),(3,.func (.func 82) #[] #[.pointer (some ⟨g3,0,none⟩),.pointer (some ⟨s,0,none⟩)])]),.blk g4 [.int .u8 0,.int .i64 0,.string ((⟨#[]⟩ : ByteArray))] 57,.blk g3 [.slice a7 l7.length a8] 43,.blk s [.int .u8 a0,.int .u8 a1,.int .i64 a2,.string a3,.int .i64 a4,.int .u8 a5,.slice z l6.length a6] 65]) Z (wP Z (wF Z tF_65_0 (wD 3 0 Z tS_61 tA_61 Z ?_)))))))
 rcases Q1E hm with ⟨a9,hm⟩ | ⟨a9,hm⟩
 refine Q3V (i:=a0) (a:=(.func (.func 79) #[] #[.pointer (some ⟨s,0,none⟩)])) Q3i 0 Z Z Z Zq Z Z Z Z tM_146 trivial (by rw [eq_of_beq a9]; rfl) (u:=fun _=>.func (.func 79) #[] #[.pointer (some ⟨s,0,none⟩)]) (fun _=>Z) (v:=fun _=>.tuple #[.func (.func 79) #[] #[.pointer (some ⟨s,0,none⟩)],.bool true]) (fun _=>Z) (fun _ _=>(wP Z (wP Z (wP Z (wP Z (wP Z (Q4 (Q3 (Q2 [7,6,4] (S':=V3 ..) Z (Q5 (Q5 (Q1 (wP Z (wP Z ?_))))))))))))))
 refine Q4 (Q3 (Q2 [20,6,4] (S':=V3 ..) Z (Q1l Z (Q2 [6,4] (S':=[_,_]) Z (Qr (Q3 (Q5 (Q1 (wP Z ?_)))))))))
 obtain ⟨⟨aJ,aK,aL,aN⟩,aD,hm⟩:=Q6 hm
 try dsimp only at hm
 refine Q1K [3] [0,1,2] Z Z Z Zq Z Z Z fn_79 Z Z (w_expr_Eval_1_s N s a0 a1 a2 a3 a4 a5 z a6 l6 _ _ _ _ aD) (asK [0] Z) Z (H':=V3 ..) Z ?_
 rintro _ _ _ ⟨rfl,rfl,rfl⟩
 refine wP Z (wP Z (wS 2 0 Z Q1C (all':=V3 ..) Z (H':=V4 ..) Z (wP Z (Q4 (Q3 (Q2 [5,4] (S':=[_,_]) Z (Qo ?_)))))))
 have hE:=(Zi hm).symm
 obtain ⟨hE0,hF1⟩:=Prod.mk.inj hE
 obtain ⟨hE1,hF2⟩:=Prod.mk.inj hF1
 obtain ⟨hE2,hE3⟩:=Prod.mk.inj hF2
 clear hE hF1 hF2
 replace hE0:=hE0.symm
 subst hE0
 replace hE1:=hE1.symm
 subst hE1
 replace hE2:=hE2.symm
 subst hE2
 replace hE3:=hE3.symm
 subst hE3
 refine Q1D (Hr:=[]) [] Tryz.results44 (Q1e 2 Z Z Q1C Q2M Z Z) (Qg Z) ⟨Z,Z,Z⟩ (asK [] Z) Z Z (.inl Z)
 rcases Q1E hm with ⟨aA,hm⟩ | ⟨aA,hm⟩
 refine Q3V (i:=a0) (a:=(.func (.func 81) #[] #[.pointer (some ⟨s,0,none⟩),.pointer (some ⟨g3,0,none⟩)])) Q3i 0 Z Z Z Zq Z Z Z Z tM_146 trivial (by rw [eq_of_beq aA]; rfl) (u:=fun _=>.func (.func 81) #[] #[.pointer (some ⟨s,0,none⟩),.pointer (some ⟨g3,0,none⟩)]) (fun _=>Z) (v:=fun _=>.tuple #[.func (.func 81) #[] #[.pointer (some ⟨s,0,none⟩),.pointer (some ⟨g3,0,none⟩)],.bool true]) (fun _=>Z) (fun _ _=>(wP Z (wP Z (wP Z (wP Z (wP Z (Q4 (Q3 (Q2 [7,6,4] (S':=V3 ..) Z (Q5 (Q5 (Q1 (wP Z (wP Z ?_))))))))))))))
 refine Q4 (Q3 (Q2 [20,6,4] (S':=V3 ..) Z (Q1l Z (Q2 [6,4] (S':=[_,_]) Z (Qr (Q3 (Q5 (Q1 (wP Z ?_)))))))))
 obtain ⟨⟨aJ,aK,aL,aN⟩,aD,hm⟩:=Q6 hm
 try dsimp only at hm
 refine Q1K [3,2] [0,1] Z Z Z Zq Z Z Z fn_81 Z Z (w_expr_Eval_2_s N s a0 a1 a2 a3 a4 a5 z a6 l6 g3 a7 a8 l7 _ _ _ _ aD) (asK [0,1] Z) Z (H':=[_,_]) Z ?_
 rintro _ _ _ ⟨rfl,rfl,rfl⟩
 refine wP Z (wP Z (wS 3 0 Z Q1C (all':=V3 ..) Z (H':=V4 ..) Z (wP Z (Q4 (Q3 (Q2 [5,4] (S':=[_,_]) Z (Qo ?_)))))))
 have hE:=(Zi hm).symm
 obtain ⟨hE0,hF1⟩:=Prod.mk.inj hE
 obtain ⟨hE1,hF2⟩:=Prod.mk.inj hF1
 obtain ⟨hE2,hE3⟩:=Prod.mk.inj hF2
 clear hE hF1 hF2
 replace hE0:=hE0.symm
 subst hE0
 replace hE1:=hE1.symm
 subst hE1
 replace hE2:=hE2.symm
 subst hE2
 replace hE3:=hE3.symm
 subst hE3
 refine Q1D (Hr:=[]) [] Tryz.results44 (Q1e 3 Z Z Q1C Q2M Z Z) (Qg Z) ⟨Z,Z,Z⟩ (asK [] Z) Z Z (.inl Z)
 rcases Q1E hm with ⟨aB,hm⟩ | ⟨aB,hm⟩
 refine Q3V (i:=a0) (a:=(.func (.func 82) #[] #[.pointer (some ⟨g3,0,none⟩),.pointer (some ⟨s,0,none⟩)])) Q3i 0 Z Z Z Zq Z Z Z Z tM_146 trivial (by rw [eq_of_beq aB]; rfl) (u:=fun _=>.func (.func 82) #[] #[.pointer (some ⟨g3,0,none⟩),.pointer (some ⟨s,0,none⟩)]) (fun _=>Z) (v:=fun _=>.tuple #[.func (.func 82) #[] #[.pointer (some ⟨g3,0,none⟩),.pointer (some ⟨s,0,none⟩)],.bool true]) (fun _=>Z) (fun _ _=>(wP Z (wP Z (wP Z (wP Z (wP Z (Q4 (Q3 (Q2 [7,6,4] (S':=V3 ..) Z (Q5 (Q5 (Q1 (wP Z (wP Z ?_))))))))))))))
 refine Q4 (Q3 (Q2 [20,6,4] (S':=V3 ..) Z (Q1l Z (Q2 [6,4] (S':=[_,_]) Z (Qr (Q3 (Q5 (Q1 (wP Z ?_)))))))))
 obtain ⟨⟨aJ,aK,aL⟩,aD,hm⟩:=Q6 hm
 try dsimp only at hm
 refine Q1K [2,3] [0,1] Z Z Z Zq Z Z Z fn_82 Z Z (Qcx N rc ih g3 a7 a8 l7 s a0 a1 a2 a3 a4 a5 z a6 l6 _ _ _ aD) (asK [1,0] Z) Z (H':=[_,_]) Z ?_
 rintro _ _ _ ⟨rfl,rfl,rfl⟩
 refine wP Z (wP Z (wS 3 0 Z Q1C (all':=V3 ..) Z (H':=V4 ..) Z (wP Z (Q4 (Q3 (Q2 [5,4] (S':=[_,_]) Z (Qo ?_)))))))
 have hE:=(Zi hm).symm
 obtain ⟨hE0,hF1⟩:=Prod.mk.inj hE
 obtain ⟨hE1,hF2⟩:=Prod.mk.inj hF1
 obtain ⟨hE2,hE3⟩:=Prod.mk.inj hF2
 clear hE hF1 hF2
 replace hE0:=hE0.symm
 subst hE0
 replace hE1:=hE1.symm
 subst hE1
 replace hE2:=hE2.symm
 subst hE2
 replace hE3:=hE3.symm
 subst hE3
 refine Q1D (Hr:=[]) [] Tryz.results44 (Q1e 3 Z Z Q1C Q2M Z Z) (Qg Z) ⟨Z,Z,Z⟩ (asK [] Z) Z Z (.inl Z)
 refine wl_lookNoE (i:=a0) 0 Z Z Z Zq Z Z Z Z tZ_140 tM_146 trivial (by simp [QaA,(ne_of_beq_false a9).symm,(ne_of_beq_false aA).symm,(ne_of_beq_false aB).symm]) (v:=.tuple #[.nilFunc,.bool false]) Z (wP Z (wP Z (wP Z (wP Z (wP Z (Q4 (Q3 (Q2 [7,6,4] (S':=V3 ..) Z (Q5 (Q5 (Q1 (wP Z (wP Z ?_)))))))))))))
 refine Q4 (Q3 (Q2 [20,6,4] (S':=V3 ..) Z ?_))
 refine Qt Z (fun aM=>?_) (fun aM=>?_)
 replace hm:=QI hm aM
 refine Q2 [4] (S':=[_]) Z (Q5 (Q1 (Q1v Z Z Z Zq Z Q3A Q9M Z (out:=V3 ..) Z (wS 1 0 Z Q1C (all':=V3 ..) Z (H':=V4 ..) Z (wP Z (Q4 (Q3 (Q2 [5,4] (S':=[_,_]) Z (Qo (Q9 ?_))))))))))
 have hE:=(Zi hm).symm
 obtain ⟨hE0,hF1⟩:=Prod.mk.inj hE
 obtain ⟨hE1,hF2⟩:=Prod.mk.inj hF1
 obtain ⟨hE2,hE3⟩:=Prod.mk.inj hF2
 clear hE hF1 hF2
 replace hE0:=hE0.symm
 subst hE0
 replace hE1:=hE1.symm
 subst hE1
 replace hE2:=hE2.symm
 subst hE2
 replace hE3:=hE3.symm
 subst hE3
 refine Q1D (Hr:=[]) [] Tryz.results44 (Q1e 1 Z Z Q1C Q2M Z Z) (Qg Z) ⟨Z,Z,Z⟩ (asK [] Z) Z Z (.inl Z)
 ·
  replace hm:=QH hm aM
  refine Q2 [6,4] (S':=[_,_]) Z (Qr (Q3 (Q5 (Q1 (wP Z ?_)))))
  cases hm
theorem Q81 : ∀ (N:Nat),∀ (a0:Int) (a1:Int) (a2:Int) (a3:ByteArray) (a4:Int) (a5:Int) (qp0:OA) (qc1:Nat) (l6:List Qm) (qp2:OA) (qc3:Nat) (l7:List V) (o0:Int) (o1:Int) (o2:ByteArray) (o3:Nat),Q2j N a0 a1 a2 a3 a4 a5 l6 l7 = some (o0,o1,o2,o3) → Q17 Tryz.prog 44 [.agg #[.int .u8 a0,.int .u8 a1,.int .i64 a2,.string a3,.int .i64 a4,.int .u8 a5,.slice qp0 l6.length qc1],.slice qp2 l7.length qc3] [.sli 7 QA qp0 qc1 l6,.sli 3 R_V qp2 qc3 l7] [] (fun v Φr Hr=>v = .tuple #[.agg #[.int .u8 o0,.int .i64 o1,.string o2],.int .i64 ((o3:Nat):Int)] ∧ Φr = [] ∧ Hr = []):=by
 intro N
 induction N with
 | zero=>intro a0 a1 a2 a3 a4 a5 qp0 qc1 l6 qp2 qc3 l7 o0 o1 o2 o3 hm; cases hm
 | succ N ih=>intro a0 a1 a2 a3 a4 a5 qp0 qc1 l6 qp2 qc3 l7 o0 o1 o2 o3 hm; exact w_expr_Eval_s_b N (Q2j N) ih a0 a1 a2 a3 a4 a5 qp0 qc1 l6 qp2 qc3 l7 o0 o1 o2 o3 hm
theorem Qch (N:Nat) (a0:OA) (a1:Nat) (l0:List Bool) (a7:OA) (a8:Nat) (l1:List V) (o0:Bool) (hm:Q5h N l0 l1 = some o0):Q17 Tryz.prog 88 [.agg #[.slice a0 l0.length a1,.slice a7 l1.length a8]] [.sli 1 Q1n a0 a1 l0,.sli 3 R_V a7 a8 l1] [] (fun v Φr Hr=>v = .bool o0 ∧ Φr = [] ∧ Hr = []):=by
 unfold Q5h at hm
 refine QC Tryz.func88 Z Tryz.ntmps88 Z (S:=[_]) Z (fun C=>(Q5 (Q1 (wB Z (fun g1=>(wP Z (Q4 (Q3 (Q2 [1] (S':=[_]) Z (Q5 (Q5 (Q1 (wF Z Qad (wD 0 0 Z tS_98 tA_98 Z (wN Z tE_98 ?_)))))))))))))))
 refine wF Z Q7D (wD 0 1 Z Q7p Q7n Z (wN Z Q5r (wP Z (Qs (d:=11) (v':=.bool (l0.length != l1.length)) (S':=V7 ..) Z Z (natne (a:=l0.length) (b:=l1.length)) (Q4 (Q3 (Q2 [11,1] (S':=[_,_]) Z ?_)))))))
 refine Qt Z (fun a9=>?_) (fun a9=>?_)
 replace hm:=QI hm a9
 refine Q2 [] (S':=[]) Z (Q5 (Q1 (wP Z (Q4 (Q3 (Qo (Q9 ?_)))))))
 have hE:=(Zi hm).symm
 replace hE:=hE.symm
 subst hE
 refine Qp (Hr:=[]) [] Tryz.results88 (Qg Z) ⟨Z,Z,Z⟩ (asK [] Z) Z Z (.inl Z)
 replace hm:=QH hm a9
 refine Q2 [1] (S':=[_]) Z (Qr (Q3 (Q5 ?_)))
 obtain ⟨aE,hm,hLj_1⟩:=Q1o hm
 refine QM (σ:=Unit) (fun _=>aE = .inl ()) (fun _=>[]) (fun _=>[]) (fun _=>[]) ?_ ?_
 refine Q5 (Q1 (wF Z Qad (wD 0 0 Z tS_98 tA_98 Z (wN Z tE_98 (wP Z (Q4 (Q3 (Q2 [15,14,13,1] (S':=V4 ..) Z (Qw (Q1j (σ:=Nat × Nat) (fun (a6,s)=>Q1h (Q2K N l0 l1) a6 s = some aE) (fun (a6,s)=>a6) (fun (a6,s)=>[(15,.int .i64 ((s:Nat):Int)),(14,.int .i64 ((l0.length:Nat):Int)),(13,.slice a0 l0.length a1),(1,.pointer (some ⟨g1,0,none⟩))]) (fun (a6,s)=>[.sli 1 Q1n a0 a1 l0,.sli 3 R_V a7 a8 l1]) (fun (a6,s)=>[.blk g1 [.slice a0 l0.length a1,.slice a7 l1.length a8] 100]) (N,0) hm [15,14,13,1] Z (asK [0,1] Z) Z (fun s_ hm=>?_)))))))))))
 obtain ⟨a6,s⟩:=s_
 try dsimp only at hm ⊢
 obtain ⟨aT,aU,aF,hq,hLu1⟩:=QV hm
 clear hm
 subst aF
 replace hm:=hq
 clear hq
 unfold Q2K at hm
 try dsimp only at hm
 refine Q5 (Q1 (wP Z (Qs (d:=16) (v':=.bool (decide (s < l0.length))) (S':=V4 ..) Z Z (Q2l (a:=s) (b:=l0.length)) (Q4 (Q3 (Q5 ?_))))))
 refine Qt Z (fun aA=>?_) (fun aA=>?_)
 replace hm:=QI hm aA
 refine Q2 [15,14,13,1] (S':=V4 ..) Z (Qr (Q3 (Q5 (Qw (Q5 (Q1 (wP Z ?_)))))))
 obtain ⟨aV,aG,hm⟩:=Q6 hm
 refine Q1a 0 s Z Z Z Zq Z Z Z Z Z aG tE_98 tS_4 (fun aW aX aR aO=>(Q1G Qbo 1 Z (fun aY aH _=>?_)))
 subst aH
 refine Q1F 0 0 Z Z Z Zq Z Z Z (cs:=[_]) Z tS_4 tA_4 Z Z (wP Z (wP Z (Q4 (Q3 (Q2 [4,3,15,14,13,1] (S':=V6 ..) Z (Q5 ?_))))))
 obtain ⟨aI,hm,hLj_2⟩:=Q6 hm
 refine QM (σ:=Bool) (fun z=>aI = z) (fun z=>[(15,.int .i64 ((s:Nat):Int)),(14,.int .i64 ((l0.length:Nat):Int)),(13,.slice a0 l0.length a1),(1,.pointer (some ⟨g1,0,none⟩)),(30,.bool z)]) (fun z=>[.sli 1 Q1n a0 a1 l0,.sli 3 R_V a7 a8 l1]) (fun z=>[.blk g1 [.slice a0 l0.length a1,.slice a7 l1.length a8] 100]) ?_ ?_
 refine Q1 (wP Z (wP Z (wP Z ?_)))
 refine QG (d:=22) (S':=V8 ..) Z Z (fun aB=>?_) (fun aB=>?_)
 replace hm:=QI hm aB
 refine wF Z Q7D (wD 0 1 Z Q7p Q7n Z (wP Z ?_))
 obtain ⟨aJ,aK,hm⟩:=Q6 hm
 refine Q1a 3 s Z Z Z Zq Z Z Z Z Z aK Q5r Q1C (fun aZ b0 aS aP=>(Q1G Q6f 1 Z (fun b1 aL _=>?_)))
 subst aL
 refine Q1F 0 0 Z Z Z Zq Z Z Z (cs:=V3 ..) Z Q1C Q2M Z Z (Q1v Z Z Z Zq Z Q3A Q9M Z (out:=V3 ..) Z (Q8E Z Z Z Zq Z Z Z (neqV _ _ aJ (⟨0,0,(⟨#[]⟩ : ByteArray)⟩ : V)) (wP Z (Q4 ?_))))
 have hE:=(Zi hm).symm
 refine Qh (!decide (aJ = (⟨0,0,(⟨#[]⟩ : ByteArray)⟩ : V))) hE [15,14,13,1,30] Z (asK [4,5] Z) Z
 replace hm:=QH hm aB
 refine wO Z (wO Z (wO Z (wO Z (wO Z (wO Z (wO Z (wP Z (Q4 ?_))))))))
 have hE:=(Zi hm).symm
 refine Qh false hE [15,14,13,1,30] Z (asK [2,3] Z) Z
 rintro z hE
 try dsimp only
 have hm:=hLj_2
 try rw [hE] at hm
 refine Qt Z (fun aC=>?_) (fun aC=>?_)
 replace hm:=QI hm aC
 refine Q2 [] (S':=[]) Z (Q5 (Q1 (wP Z (Q4 (Q3 (Qo (Qk (Q9 (Q9 (Qk (Q9 ?_)))))))))))
 have hE:=(Zi hm).symm
 replace hE:=Qx hLu1 hE
 replace hE:=Qx hLj_1 hE
 replace hE:=hE.symm
 subst hE
 refine Qp (Hr:=[]) [] Tryz.results88 (Qg Z) ⟨Z,Z,Z⟩ (asK [] Z) Z Z (.inl Z)
 replace hm:=QH hm aC
 refine Q2 [15,14,13,1] (S':=V4 ..) Z (Qr (Qf (Q3 (Q1 (wP Z ?_)))))
 obtain ⟨aM,hm⟩:=Qd hm
 refine Qs (d:=31) (v':=.int .i64 ((s + 1:Nat):Int)) (S':=V4 ..) Z Z (Q1r (a:=s) (b:=1) aM) (QT (S':=V4 ..) Z Z Z Z Z (Q4 ?_))
 have hE:=(Zi hm).symm
 replace hE:=QF hLu1 hE
 refine QU (_,s + 1) (Nat.lt_succ_self _) hE [15,14,13,1] Z (asK [0,1] Z) Z
 replace hm:=QH hm aA
 refine Q2 [] (S':=[]) Z (Q1g (Qj (Qj (QD ?_))))
 have hE:=(Zi hm).symm
 replace hE:=Qx hLu1 hE
 refine QE [] Z (H':=[]) Z ?_
 refine Qh () hE [] Z (asK [] Z) Z
 rintro _ hE
 try dsimp only
 have hm:=QF hLj_1 hE
 try dsimp only at hm
 refine Q5 (Q1 (wP Z (Q4 (Q3 (Qo ?_)))))
 have hE:=(Zi hm).symm
 replace hE:=hE.symm
 subst hE
 refine Qp (Hr:=[]) [] Tryz.results88 (Qg Z) ⟨Z,Z,Z⟩ (asK [] Z) Z Z (.inl Z)
theorem Clone121f_s (p:OA) (c:Nat) (l:List Bool) (hb:l.length ≤ 140737488355328):Q17 Tryz.prog 121 [.slice p l.length c] [.sli 1 Q1n p c l] [] (fun v Φr Hr=>∃ p' c',v = .slice p' l.length c' ∧ Φr = [] ∧ Hr = [.own 4 1 Q1n v l]):=by
 refine QC Tryz.func121 Z Tryz.ntmps121 Z (S:=[_]) Z (fun C=>(wc_know (fun F w h=>sli_nil (h _ (Q12 (k:=0) Z))) (fun isnil=>(Q5 (Q1 (wP Z (Q4 (Q3 (Q5 (Q5 (Q1 (wP Z (wl_eqlNil Z Z Z Zq Z Z Z tE_98 (Q4 (Q3 ?_)))))))))))))))
 refine Q2 [4,2,0] (S':=V3 ..) Z ?_
 refine Qt Z (fun h4=>?_) (fun h4=>?_)
 replace h4:=Qca h4
 obtain rfl:=isnil h4
 subst h4
 refine Q5b 4 1 Q1n (Q5 (Q1 (QT (S':=[_,_]) Z Z Z Z Z (Q4 (Q3 (Qo (Q9 (Qp (Hr:=[.own 4 1 Q1n (V1) []]) [0] Tryz.results121 (Qg Z) ?_ (asK [] Z) Z Z (.inl Z)))))))))
 exact ⟨none,0,Z,Z,Z⟩
 replace h4:=Qbt h4
 refine Qr (Q3 (Q5 (Q1 (QB Z Z Z Zq Z tE_98 tS_4 tZ_4 Z (zs:=[]) (by kernel_rfl) Z (out:=[]) Z (fun g5=>(wP Z (Q1Z (sz:=1) (m:=0) Q1n [] 0 Z (fun F w hφ=>Z) Z (by decide) (H':=[_]) Z (Q4M 0 0 Z Z Z Zq Z Z Z Z Z tE_98 tR_4 Z Z (by simp; omega) (by simp; omega) (H2:=fun p7 c7=>[.own 4 1 Q1n (.slice p7 (l).length c7) l]) (fun _ _=>Z) (fun p7 c7=>(QT (S':=V5 ..) Z Z Z Z Z (Q4 (Q3 (Q2 [2,4,0] (S':=V3 ..) Z (Qo (Qp (Hr:=[.own 4 1 Q1n (.slice p7 (l).length c7) l]) [0] Tryz.results121 (Qg Z) ?_ (asK [] Z) Z Z (.inl Z))))))))))))))))
 exact ⟨_,_,Z,Z,Z⟩
theorem w_pattern_of_s (N:Nat) (qp0:OA) (qc1:Nat) (l0:List Bool) (qp2:OA) (qc3:Nat) (l1:List V)  (hm:Q9P N l0 l1 = some ()):Q17 Tryz.prog 89 [.agg #[.slice qp0 l0.length qc1,.slice qp2 l1.length qc3]] [.sli 1 Q1n qp0 qc1 l0,.sli 3 R_V qp2 qc3 l1] [] (fun v Φr Hr=>∃ (o0:OA) (o1:Nat) (o2:OA) (o3:Nat),v = .agg #[.slice o0 l0.length o1,.slice o2 l1.length o3] ∧ Φr = [] ∧ Hr = [.own 4 1 Q1n (.slice o0 l0.length o1) l0,.own 57 3 R_V (.slice o2 l1.length o3) l1]):=by
 unfold Q9P at hm
 refine QC Tryz.func89 Z Tryz.ntmps89 Z (S:=[_]) Z (fun C=>(Q5 (Q1 (wB Z (fun g1=>(QK Z Z Z Zq Z tZ_152 Z (fun g2=>(Q4 (Q3 (Q2 [2,1] (S':=[_,_]) Z (Q5 ?_)))))))))))
 obtain ⟨hg5,hm⟩:=Qd hm
 obtain ⟨hg8,hm⟩:=Qd hm
 refine QW [0,1,3,4,6,7] Z Z (fun hok=>(Q8 hok 0 Z Z Z Zq Z Z Z Qad (Qn hok 1 1 0 Z Z Z Zq Z Z Z Z (cs:=[_]) Z tS_98 tA_98 Z Z (Q8 hok 3 Z Z Z Zq Z Z Z Q7D (Qn hok 4 1 1 Z Z Z Zq Z Z Z Z (cs:=[_]) Z Q7p Q7n Z Z (xS hok 2 Z (wC [] [0,1] Z fn_121 Z (Clone121f_s qp0 qc1 l0 hg5) (asK [0] Z) Z (H':=[_,_]) Z ?_)))))))
 rintro _ _ _ ⟨p5,c5,rfl,rfl,rfl⟩
 refine Q4 (QJ [0,1] [2] Z Z (xS hok 5 Z (wC [] [0,1,2] Z fn_68 Z (Clone68f_s qp2 qc3 l1 hg8) (asK [1] Z) Z (H':=V3 ..) Z ?_)))
 rintro _ _ _ ⟨p8,c8,rfl,rfl,rfl⟩
 refine Q4 (QJ [0,1] [3] Z Z (Q9y hok 6 Z Z Z Zq Z Z Q8z tP_100 Z (out:=[_,_]) Z (Q9y hok 7 Z Z Z Zq Z Z tZ_152 tP_152 Z (out:=[_,_]) Z (xS hok 8 Z (wS 2 0 Z tS_152 (all':=[_,_]) Z (H':=V4 ..) Z (Q4 (QJ [0,1] [] Z Z (QS hok Z (Q3 (Q2 [2] (S':=[_]) Z (Qo ?_)))))))))))
 have hE:=(Zi hm).symm
 refine Qp (Hr:=[_,_]) [1,0] Tryz.results89 (Q1e 2 Z Z tS_152 tA_152 Z Z) ⟨p5,c5,p8,c8,Z,Z,Z⟩ (asK [] Z) Z Z (.inl Z)
theorem Qbc (N:Nat) (aD:OA) (aE:Nat) (aF:Nat) (l0:List Bool) (aG:OA) (aH:Nat) (aI:Nat) (l1:List V) (a2:Int) (a3:Int) (a4:Int) (a5:Int) (a6:ByteArray) (a7:Int) (a8:Int) (a9:ByteArray) (o0:Bool) (o1:List Bool) (o2:List V) (hm:Q41 N l0 l1 a2 a3 a4 a5 a6 a7 a8 a9 = some (o0,o1,o2)):Q17 Tryz.prog 90 [.agg #[.slice aD aE aF,.slice aG aH aI],.agg #[.int .u8 a2,.int .i64 a3,.int .u8 a4,.int .i64 a5,.string a6],.agg #[.int .u8 a7,.int .i64 a8,.string a9]] [] [.own 4 1 Q1n (.slice aD aE aF) l0,.own 57 3 R_V (.slice aG aH aI) l1] (fun v Φr Hr=>v = .bool o0 ∧ Φr = [] ∧ Hr = [.own 4 1 Q1n (.slice aD aE aF) o1,.own 57 3 R_V (.slice aG aH aI) o2]):=by
 unfold Q41 at hm
 refine QC Tryz.func90 Z Tryz.ntmps90 Z (S:=V3 ..) Z (fun C=>(Q5 (Q1 (wB Z (fun g3=>(wB Z (fun g4=>(wB Z (fun g5=>(wP Z (Q4 (Q3 (Q2 [5,4,3] (S':=V3 ..) Z (Q5 ?_))))))))))))))
 obtain ⟨b2,hm,hLj_1⟩:=Q6 hm
 refine QM (σ:=Bool) (fun a1=>b2 = a1) (fun a1=>[(5,.pointer (some ⟨g5,0,none⟩)),(4,.pointer (some ⟨g4,0,none⟩)),(3,.pointer (some ⟨g3,0,none⟩)),(7,.bool a1)]) (fun a1=>[]) (fun a1=>[.blk g5 [.int .u8 a7,.int .i64 a8,.string a9] 57,.blk g4 [.int .u8 a2,.int .i64 a3,.int .u8 a4,.int .i64 a5,.string a6] 59,.blk g3 [.slice aD aE aF,.slice aG aH aI] 152,.own 4 1 Q1n (.slice aD aE aF) l0,.own 57 3 R_V (.slice aG aH aI) l1]) ?_ ?_
 refine Q1 (wF Z Q6c (wD 1 1 Z Q1m Q1H Z (wP Z (wP Z ?_))))
 refine QG (d:=11) (S':=V6 ..) Z Z (fun aJ=>?_) (fun aJ=>?_)
 replace hm:=QI hm aJ
 refine wF Z Q6c (wD 1 1 Z Q1m Q1H Z (wF Z Qae (wF Z Qad (wD 2 0 Z tS_98 tA_98 Z (QQ 3 Z (fun b3 _=>(wN Z tE_98 (Qs (d:=17) (v':=.int .i64 ((l0.length:Nat):Int)) (S':=V12 ..) Z Z (Q7a b3) (wP Z (wP Z (wP Z (Q4 ?_))))))))))))
 have hE:=(Zi hm).symm
 refine Qh (decide (a3 < ((l0.length:Nat):Int))) hE [5,4,3,7] Z (asK [] Z) Z
 replace hm:=QH hm aJ
 refine wO Z (wO Z (wO Z (wO Z (wO Z (wO Z (wO Z (wP Z (wP Z (Q4 ?_)))))))))
 have hE:=(Zi hm).symm
 refine Qh false hE [5,4,3,7] Z (asK [] Z) Z
 rintro a1 hE
 try dsimp only
 have hm:=hLj_1
 try rw [hE] at hm
 refine Q5 (Q5 (Q1 (wF Z tF_59_0 (wD 1 0 Z tS_54 tA_54 Z (Q4 (Q3 (Q2 [21,5,4,3,7] (S':=V5 ..) Z (Qw (Q5 (Q1 (wP Z (wP Z (Q4 ?_)))))))))))))
 refine Q3 (Q2 [22,21,5,4,3,7] (S':=V6 ..) Z ?_)
 refine Qt Z (fun aK=>?_) (fun aK=>?_)
 replace hm:=QI hm aK
 refine Q2 [] (S':=[]) Z (Q5 (Q1 (wP Z (Q4 (Q3 (Qo (Qk (Q9 ?_))))))))
 have hE:=(Zi hm).symm
 obtain ⟨hE0,hF1⟩:=Prod.mk.inj hE
 obtain ⟨hE1,hE2⟩:=Prod.mk.inj hF1
 clear hE hF1
 replace hE0:=hE0.symm
 subst hE0
 replace hE1:=hE1.symm
 subst hE1
 replace hE2:=hE2.symm
 subst hE2
 refine Qp (Hr:=[_,_]) [3,4] Tryz.results90 (Qg Z) ⟨Z,Z,Z⟩ (asK [] Z) Z Z (.inl Z)
 replace hm:=QH hm aK
 refine Q2 [21,5,4,3,7] (S':=V5 ..) Z (Q5 (Q1 (wP Z (wP Z (Q4 (Q3 (Q2 [24,21,5,4,3,7] (S':=V6 ..) Z ?_)))))))
 refine Qt Z (fun aL=>?_) (fun aL=>?_)
 replace hm:=QI hm aL
 refine Q2 [5,4] (S':=[_,_]) Z (Q5 (Q1 (wF Z tF_59_2 (QO 1 2 Z Z Z Zq Z Z Z (cs:=V3 ..) Z Q1C Q2M Z Z (QO 0 0 Z Z Z Zq Z Z Z (cs:=V3 ..) Z Q1C Q2M Z Z (Q8E Z Z Z Zq Z Z Z (eqlV _ _ (⟨a4,a5,a6⟩ : V) (⟨a7,a8,a9⟩ : V)) (wP Z (Q4 (Q3 (Q2 [6] (S':=[_]) Z (Qo (Qk (Q9 ?_)))))))))))))
 have hE:=(Zi hm).symm
 obtain ⟨hE0,hF1⟩:=Prod.mk.inj hE
 obtain ⟨hE1,hE2⟩:=Prod.mk.inj hF1
 clear hE hF1
 replace hE0:=hE0.symm
 subst hE0
 replace hE1:=hE1.symm
 subst hE1
 replace hE2:=hE2.symm
 subst hE2
 refine Qp (Hr:=[_,_]) [3,4] Tryz.results90 (Qg Z) ⟨Z,Z,Z⟩ (asK [] Z) Z Z (.inl Z)
 replace hm:=QH hm aL
 refine Q2 [21,5,4,3,7] (S':=V5 ..) Z (Q5 (Q1 (wP Z (wP Z (Q4 (Q3 (Q2 [30,21,5,4,3,7] (S':=V6 ..) Z ?_)))))))
 refine Qt Z (fun aM=>?_) (fun aM=>?_)
 replace hm:=QI hm aM
 refine Q2 [5,4,3,7] (S':=V4 ..) Z (Q5 ?_)
 rcases Q1E hm with ⟨aB,hm⟩ | ⟨aB,hm⟩
 obtain ⟨aT,hm⟩:=Qd hm
 obtain ⟨b4,aC,hm⟩:=Q6 hm
 rcases Q1E hm with ⟨aN,hm⟩ | ⟨aN,hm⟩
 obtain ⟨b5,hm⟩:=Qd hm
 obtain ⟨aS,aU,hm⟩:=Q6 hm
 refine QW [0,1,2,3,4,5,6,7,8,9,10,11,12,13,14,15,16,17,18,19,20] Z Z (fun hok=>(xP hok 0 Z (xP hok 1 Z (Q1z (d:=33) (v':=.bool true) (S':=V5 ..) Z Z (Qy aB) (Q8 hok 2 Z Z Z Zq Z Z Z Qae (Q8 hok 3 Z Z Z Zq Z Z Z Qad (Qn hok 4 2 0 Z Z Z Zq Z Z Z Z (cs:=[_]) Z tS_98 tA_98 Z Z (Q8 hok 5 Z Z Z Zq Z Z Z Q6c (Qn hok 6 1 1 Z Z Z Zq Z Z Z Z (cs:=[_]) Z Q1m Q1H Z Z (Q79 hok 7 3 a3.toNat Z Z Z Zq Z Z Z Z Z (Q1d aT) (Q2Y aC) tE_98 tS_4 (fun bC aO=>?_)))))))))))
 subst aO
 refine Q94 hok 8 Qbo 3 a3.toNat 0 Z Z Z Zq Z Z Z Z aC tS_4 tA_4 (v:=.bool b4) Z Z (fun _=>(xP hok 9 Z (xP hok 10 Z (Q1z (d:=42) (v':=.bool true) (S':=V14 ..) Z Z (Qy aN) (Q8 hok 11 Z Z Z Zq Z Z Z Qae (Q8 hok 12 Z Z Z Zq Z Z Z Q7D (Qn hok 13 2 1 Z Z Z Zq Z Z Z Z (cs:=[_]) Z Q7p Q7n Z Z (Q8 hok 14 Z Z Z Zq Z Z Z Q6c (Qn hok 15 1 1 Z Z Z Zq Z Z Z Z (cs:=[_]) Z Q1m Q1H Z Z (Q79 hok 16 4 a3.toNat Z Z Z Zq Z Z Z Z Z (Q1d b5) (Q2Y aU) Q5r Q1C (fun bK b6=>?_)))))))))))
 subst b6
 refine Q94 hok 17 Q6f 4 a3.toNat 0 Z Z Z Zq Z Z Z Z aU Q1C Q2M (v:=.agg #[.int .u8 (aS.k),.int .i64 (aS.n),.string aS.s]) Z Z (fun _=>(Qn hok 18 0 0 Z Z Z Zq Z Z Z Z (cs:=V3 ..) Z Q1C Q2M Z Z (wx_bin hok 19 Z Z Z Zq Z Z Z Z (eqlV _ _ aS (⟨a7,a8,a9⟩ : V)) (xP hok 20 Z (xS hok 21 Z (wP Z (Q4 (QJ [] [] Z Z (QS hok Z (Q3 (Q2 [6] (S':=[_]) Z (Qo (Qk (Q9 ?_))))))))))))))
 have hE:=(Zi hm).symm
 obtain ⟨hE0,hF1⟩:=Prod.mk.inj hE
 obtain ⟨hE1,hE2⟩:=Prod.mk.inj hF1
 clear hE hF1
 replace hE0:=hE0.symm
 subst hE0
 replace hE1:=hE1.symm
 subst hE1
 replace hE2:=hE2.symm
 subst hE2
 refine Qp (Hr:=[_,_]) [3,4] Tryz.results90 (Qg Z) ⟨Z,Z,Z⟩ (asK [] Z) Z Z (.inl Z)
 refine QW [0,1,2,3,4,5,6,7,8,9,10,11,12,13,14,15,16,17,18,19,20] Z Z (fun hok=>(xP hok 0 Z (xP hok 1 Z (Q1z (d:=33) (v':=.bool true) (S':=V5 ..) Z Z (Qy aB) (Q8 hok 2 Z Z Z Zq Z Z Z Qae (Q8 hok 3 Z Z Z Zq Z Z Z Qad (Qn hok 4 2 0 Z Z Z Zq Z Z Z Z (cs:=[_]) Z tS_98 tA_98 Z Z (Q8 hok 5 Z Z Z Zq Z Z Z Q6c (Qn hok 6 1 1 Z Z Z Zq Z Z Z Z (cs:=[_]) Z Q1m Q1H Z Z (Q79 hok 7 3 a3.toNat Z Z Z Zq Z Z Z Z Z (Q1d aT) (Q2Y aC) tE_98 tS_4 (fun bC aO=>?_)))))))))))
 subst aO
 refine Q94 hok 8 Qbo 3 a3.toNat 0 Z Z Z Zq Z Z Z Z aC tS_4 tA_4 (v:=.bool b4) Z Z (fun _=>(xP hok 9 Z (xP hok 10 Z (Q1z (d:=42) (v':=.bool false) (S':=V14 ..) Z Z (Qy aN) (xO hok 11 Z (xO hok 12 Z (xO hok 13 Z (xO hok 14 Z (xO hok 15 Z (xO hok 16 Z (xO hok 17 Z (xO hok 18 Z (xO hok 19 Z (xP hok 20 Z ?_))))))))))))))
 refine xS hok 21 Z (wP Z (Q4 (QJ [] [] Z Z (QS hok Z (Q3 (Q2 [6] (S':=[_]) Z (Qo (Qk (Q9 ?_)))))))))
 have hE:=(Zi hm).symm
 obtain ⟨hE0,hF1⟩:=Prod.mk.inj hE
 obtain ⟨hE1,hE2⟩:=Prod.mk.inj hF1
 clear hE hF1
 replace hE0:=hE0.symm
 subst hE0
 replace hE1:=hE1.symm
 subst hE1
 replace hE2:=hE2.symm
 subst hE2
 refine Qp (Hr:=[_,_]) [3,4] Tryz.results90 (Qg Z) ⟨Z,Z,Z⟩ (asK [] Z) Z Z (.inl Z)
 refine QW [0,1,2,3,4,5,6,7,8,9,10,11,12,13,14,15,16,17,18,19,20] Z Z (fun hok=>(xP hok 0 Z (xP hok 1 Z (Q1z (d:=33) (v':=.bool false) (S':=V5 ..) Z Z (Qy aB) (xO hok 2 Z (xO hok 3 Z (xO hok 4 Z (xO hok 5 Z (xO hok 6 Z (xO hok 7 Z (xO hok 8 Z (xP hok 9 Z (xP hok 10 Z (xO hok 11 Z ?_))))))))))))))
 refine xO hok 12 Z (xO hok 13 Z (xO hok 14 Z (xO hok 15 Z (xO hok 16 Z (xO hok 17 Z (xO hok 18 Z (xO hok 19 Z (xP hok 20 Z (xS hok 21 Z (wP Z (Q4 (QJ [] [] Z Z (QS hok Z ?_)))))))))))))
 refine Q3 (Q2 [6] (S':=[_]) Z (Qo (Qk (Q9 ?_))))
 have hE:=(Zi hm).symm
 obtain ⟨hE0,hF1⟩:=Prod.mk.inj hE
 obtain ⟨hE1,hE2⟩:=Prod.mk.inj hF1
 clear hE hF1
 replace hE0:=hE0.symm
 subst hE0
 replace hE1:=hE1.symm
 subst hE1
 replace hE2:=hE2.symm
 subst hE2
 refine Qp (Hr:=[_,_]) [3,4] Tryz.results90 (Qg Z) ⟨Z,Z,Z⟩ (asK [] Z) Z Z (.inl Z)
 replace hm:=QH hm aM
 refine Q2 [21,5,4,3,7] (S':=V5 ..) Z (Q5 (Q1 (wP Z (wP Z (Q4 (Q3 (Q2 [53,5,4,3,7] (S':=V5 ..) Z ?_)))))))
 refine Qt Z (fun aP=>?_) (fun aP=>?_)
 replace hm:=QI hm aP
 refine Q2 [5,4,3,7] (S':=V4 ..) Z (Q5 ?_)
 obtain ⟨b7,hm,hLj_2⟩:=Q6 hm
 unfold Q4k at hm
 refine QM (σ:=(List Bool) × (List V)) (fun (z,a0)=>b7 = (z,a0)) (fun (z,a0)=>[(7,.bool a1)]) (fun (z,a0)=>[]) (fun (z,a0)=>[.own 4 1 Q1n (.slice aD aE aF) z,.own 57 3 R_V (.slice aG aH aI) a0]) ?_ ?_
 refine Q5 (Q1 (wP Z (Q4 (Q3 ?_))))
 refine Qt Z (fun aQ=>?_) (fun aQ=>?_)
 ·
  replace hm:=QI hm aQ
  refine Q2 [5,4,3,7] (S':=V4 ..) Z ?_
  obtain ⟨aV,hm⟩:=Qd hm
  obtain ⟨bL,aA,hm⟩:=Q6 hm
  obtain ⟨b8,hm⟩:=Qd hm
  obtain ⟨bM,aW,hm⟩:=Q6 hm
  refine QW [0,1,3,4,5,6,8,9,10,11,13] Z Z (fun hok=>(Q8 hok 0 Z Z Z Zq Z Z Z Qae (Q8 hok 1 Z Z Z Zq Z Z Z Qad (Q8 hok 3 Z Z Z Zq Z Z Z Q6c (Qn hok 4 1 1 Z Z Z Zq Z Z Z Z (cs:=[_]) Z Q1m Q1H Z Z (Q8 hok 5 Z Z Z Zq Z Z Z Qae (Q8 hok 6 Z Z Z Zq Z Z Z Q7D (Q8 hok 8 Z Z Z Zq Z Z Z Q6c (Qn hok 9 1 1 Z Z Z Zq Z Z Z Z (cs:=[_]) Z Q1m Q1H Z Z (Qn hok 10 0 0 Z Z Z Zq Z Z Z Z (cs:=V3 ..) Z Q1C Q2M Z Z ?_))))))))))
  refine Q34 hok 2 7 Z Z Z Z Z Z ?_ ?_
  rotate_left
  focus
   refine wD 2 1 Z Q7p Q7n Z (Q4 (QJ [] [0,1,1] Z Z (xS hok 2 Z (wD 2 0 Z tS_98 tA_98 Z (Q4 (QJ [] [0,1,1] Z Z (Q79 hok 11 3 a3.toNat Z Z Z Zq Z Z Z Z Z (Q1d aV) (Q2Y aA) tE_98 tS_4 (fun bD aR=>?_))))))))
   subst aR
   refine xS hok 12 Z (QaL (u:=true) 3 a3.toNat Z Z Z Z Z (Q2Y aA) Z Z tS_4 Z (fun F w hφ=>⟨(),Z,Qu⟩) (H':=V5 ..) Z (Q4 (QJ [] [0,1] Z Z ?_)))
  rotate_right
  focus
   refine wD 2 0 Z tS_98 tA_98 Z (Q4 (QJ [] [0,1,1] Z Z (Q79 hok 11 3 a3.toNat Z Z Z Zq Z Z Z Z Z (Q1d aV) (Q2Y aA) tE_98 tS_4 (fun bD aR=>?_))))
   subst aR
   refine Q34 hok 7 12 Z Z Z Z Z Z ?_ ?_
   rotate_left
   focus
    refine QaL (u:=true) 3 a3.toNat Z Z Z Z Z (Q2Y aA) Z Z tS_4 Z (fun F w hφ=>⟨(),Z,Qu⟩) (H':=V5 ..) Z (Q4 (QJ [] [0,1] Z Z (xS hok 7 Z (wD 2 1 Z Q7p Q7n Z (Q4 (QJ [] [0,1,1] Z Z ?_))))))
   rotate_right
   focus
    refine wD 2 1 Z Q7p Q7n Z (Q4 (QJ [] [0,1,1] Z Z (xS hok 12 Z (QaL (u:=true) 3 a3.toNat Z Z Z Z Z (Q2Y aA) Z Z tS_4 Z (fun F w hφ=>⟨(),Z,Qu⟩) (H':=V5 ..) Z (Q4 (QJ [] [0,1] Z Z ?_))))))
  all_goals
   refine Q79 hok 13 4 a3.toNat Z Z Z Zq Z Z Z Z Z (Q1d b8) (Q2Y aW) Q5r Q1C (fun bN b9=>?_)
   subst b9
   refine xS hok 14 Z (QaL (u:=(⟨a7,a8,a9⟩ : V)) 4 a3.toNat Z Z Z Z Z (Q2Y aW) Z Z Q1C Z (fun F w hφ=>⟨(),Z,Qu⟩) (H':=V5 ..) Z (Q4 (QJ [] [] Z Z (QS hok Z ?_))))
   have hE:=(Zi hm).symm
   refine QE [3,4] Z (H':=[_,_]) Z ?_
   refine Qh (l0.set a3.toNat true,(l1.set a3.toNat (⟨a7,a8,a9⟩ : V))) hE [7] Z (asK [] Z) Z
 replace hm:=QH hm aQ
 refine Q2 [7] (S':=[_]) Z (Qr ?_)
 have hE:=(Zi hm).symm
 refine QE [3,4] Z (H':=[_,_]) Z ?_
 refine Qh (l0,l1) hE [7] Z (asK [] Z) Z
 rintro ⟨z,a0⟩ hE
 try dsimp only
 have hm:=hLj_2
 try rw [hE] at hm
 try dsimp only at hm
 refine Q5 (Q1 (wP Z (wP Z (Q4 (Q3 (Q2 [6] (S':=[_]) Z (Qo (Qk (Q9 ?_)))))))))
 have hE:=(Zi hm).symm
 obtain ⟨hE0,hF1⟩:=Prod.mk.inj hE
 obtain ⟨hE1,hE2⟩:=Prod.mk.inj hF1
 clear hE hF1
 replace hE0:=hE0.symm
 subst hE0
 replace hE1:=hE1.symm
 subst hE1
 replace hE2:=hE2.symm
 subst hE2
 refine Qp (Hr:=[_,_]) [0,1] Tryz.results90 (Qg Z) ⟨Z,Z,Z⟩ (asK [] Z) Z Z (.inl Z)
 replace hm:=QH hm aP
 refine Q2 [] (S':=[]) Z (Qr (Qf (Q3 (Q5 (Q1 (wP Z (Q4 (Q3 (Qo ?_)))))))))
 have hE:=(Zi hm).symm
 obtain ⟨hE0,hF1⟩:=Prod.mk.inj hE
 obtain ⟨hE1,hE2⟩:=Prod.mk.inj hF1
 clear hE hF1
 replace hE0:=hE0.symm
 subst hE0
 replace hE1:=hE1.symm
 subst hE1
 replace hE2:=hE2.symm
 subst hE2
 refine Qp (Hr:=[_,_]) [3,4] Tryz.results90 (Qg Z) ⟨Z,Z,Z⟩ (asK [] Z) Z Z (.inl Z)
theorem Q7q (N:Nat) (a0:Int) (a1:Int) (aS:OA) (aT:Nat) (l2:List Q4O) (a3:Int) (a4:Int) (a5:Int) (a6:ByteArray) (a7:Int) (a8:Int) (b2:OA) (b3:Nat) (l9:List Qm) (b4:Int) (b5:Int) (aU:OA) (aV:Nat) (aN:List V) (aW:OA) (aX:Nat) (aO:List Bool) (aY:OA) (aZ:Nat) (aP:List V) (o2:List Bool) (o6:List V) (o8:Bool) (hm:Q3U N a0 a1 l2 a3 a4 a5 a6 a7 a8 l9 b4 b5 aN aO aP = some (o2,o6,o8)):Q17 Tryz.prog 49 [.agg #[.int .u8 a0,.int .i64 a1,.slice aS l2.length aT,.int .u8 a3,.int .u8 a4,.int .i64 a5,.string a6,.int .i64 a7,.int .u8 a8,.slice b2 l9.length b3],.agg #[.int .i64 b4,.int .i64 b5,.slice aU aN.length aV],.agg #[.slice aW aO.length aX,.slice aY aP.length aZ]] [.sli 5 Q2O aS aT l2,.sli 7 QA b2 b3 l9,.sli 3 R_V aU aV aN,.sli 1 Q1n aW aX aO,.sli 3 R_V aY aZ aP] [] (fun v Φr Hr=>∃ (o0:OA) (o1:Nat) (o3:Nat) (o4:OA) (o5:Nat) (o7:Nat),v = .tuple #[.agg #[.slice o0 o3 o1,.slice o4 o7 o5],.bool o8] ∧ Φr = [] ∧ Hr = [.own 4 1 Q1n (.slice o0 o3 o1) o2,.own 57 3 R_V (.slice o4 o7 o5) o6]):=by
 unfold Q3U at hm
 refine QC Tryz.func49 Z Tryz.ntmps49 Z (S:=V3 ..) Z (fun C=>(Q5 (Q1 (wB Z (fun g3=>(wB Z (fun g4=>(wB Z (fun g5=>(QK Z Z Z Zq Z Q8z Z (fun g6=>(wP Z (Q4 (Q3 (Q2 [6,5,4,3] (S':=V4 ..) Z (Q5 ?_))))))))))))))))
 obtain ⟨bM,hm,hLj_1⟩:=Q6 hm
 refine QM (σ:=Bool) (fun aI=>bM = aI) (fun aI=>[(6,.pointer (some ⟨g6,0,none⟩)),(5,.pointer (some ⟨g5,0,none⟩)),(4,.pointer (some ⟨g4,0,none⟩)),(3,.pointer (some ⟨g3,0,none⟩)),(8,.bool aI)]) (fun aI=>[.sli 1 Q1n aW aX aO,.sli 3 R_V aY aZ aP,.sli 3 R_V aU aV aN,.sli 5 Q2O aS aT l2,.sli 7 QA b2 b3 l9]) (fun aI=>[.blk g6 [V1,V1] 100,.blk g5 [.slice aW aO.length aX,.slice aY aP.length aZ] 100,.blk g4 [.int .i64 b4,.int .i64 b5,.slice aU aN.length aV] 71,.blk g3 [.int .u8 a0,.int .i64 a1,.slice aS l2.length aT,.int .u8 a3,.int .u8 a4,.int .i64 a5,.string a6,.int .i64 a7,.int .u8 a8,.slice b2 l9.length b3] 67]) ?_ ?_
 refine Q1 (wF Z Q9T (wD 3 0 Z tS_53 tA_53 Z (wP Z (wP Z ?_))))
 refine QG (d:=15) (S':=V7 ..) Z Z (fun b6=>?_) (fun b6=>?_)
 replace hm:=QI hm b6
 refine wO Z (wO Z (wO Z (wP Z (wP Z (Q4 ?_)))))
 have hE:=(Zi hm).symm
 refine Qh true hE [6,5,4,3,8] Z (asK [3,4,2,0,1] Z) Z
 replace hm:=QH hm b6
 refine wF Z Q9T (wD 3 0 Z tS_53 tA_53 Z (wP Z (wP Z (wP Z (Q4 ?_)))))
 have hE:=(Zi hm).symm
 refine Qh (a0 == 2) hE [6,5,4,3,8] Z (asK [3,4,2,0,1] Z) Z
 rintro aI hE
 try dsimp only
 have hm:=hLj_1
 try rw [hE] at hm
 refine Q5 (Q5 ?_)
 obtain ⟨bN,hm,hLj_2⟩:=Q6 hm
 unfold Q6J at hm
 refine QM (σ:=Bool) (fun aH=>bN = aH) (fun aH=>[(6,.pointer (some ⟨g6,0,none⟩)),(5,.pointer (some ⟨g5,0,none⟩)),(4,.pointer (some ⟨g4,0,none⟩)),(3,.pointer (some ⟨g3,0,none⟩)),(42,.bool aH)]) (fun aH=>[.sli 1 Q1n aW aX aO,.sli 3 R_V aY aZ aP,.sli 3 R_V aU aV aN,.sli 5 Q2O aS aT l2,.sli 7 QA b2 b3 l9]) (fun aH=>[.blk g6 [V1,V1] 100,.blk g5 [.slice aW aO.length aX,.slice aY aP.length aZ] 100,.blk g4 [.int .i64 b4,.int .i64 b5,.slice aU aN.length aV] 71,.blk g3 [.int .u8 a0,.int .i64 a1,.slice aS l2.length aT,.int .u8 a3,.int .u8 a4,.int .i64 a5,.string a6,.int .i64 a7,.int .u8 a8,.slice b2 l9.length b3] 67]) ?_ ?_
 refine Q1 (wP Z (wP Z (wP Z ?_)))
 refine QG (d:=22) (S':=V7 ..) Z Z (fun b7=>?_) (fun b7=>?_)
 replace hm:=QI hm b7
 refine wO Z (wO Z (wO Z (wO Z (wO Z (wP Z (wP Z (wO Z (wO Z (wO Z (wO Z (wO Z (wO Z (wO Z ?_)))))))))))))
 refine wP Z (wP Z (wO Z (wO Z (wO Z (wP Z (Q4 ?_))))))
 have hE:=(Zi hm).symm
 refine Qh true hE [6,5,4,3,42] Z (asK [0,1,2,3,4] Z) Z
 replace hm:=QH hm b7
 refine wF Z tF_67_1 (wD 3 1 Z Q1m Q1H Z (wF Z Q98 (wD 2 1 Z Q1m Q1H Z (wP Z (wP Z (wP Z ?_))))))
 refine QG (d:=29) (S':=V14 ..) Z Z (fun b8=>?_) (fun b8=>?_)
 replace hm:=QI hm b8
 refine wO Z (wO Z (wO Z (wO Z (wO Z (wO Z (wO Z (wP Z (wP Z (wO Z (wO Z (wO Z (wP Z (Q4 ?_)))))))))))))
 have hE:=(Zi hm).symm
 refine Qh true hE [6,5,4,3,42] Z (asK [0,1,2,3,4] Z) Z
 replace hm:=QH hm b8
 refine wF Z QbF (wD 3 2 Z tS_60 tA_60 Z (wN Z tE_60 (wF Z QaH (wD 2 2 Z Q7p Q7n Z (wN Z Q5r (wP Z (Qs (d:=36) (v':=.bool (l2.length != aN.length)) (S':=V21 ..) Z Z (natne (a:=l2.length) (b:=aN.length)) (wP Z (wP Z ?_)))))))))
 refine QG (d:=38) (S':=V23 ..) Z Z (fun b9=>?_) (fun b9=>?_)
 replace hm:=QI hm b9
 refine wO Z (wO Z (wO Z (wP Z (Q4 ?_))))
 have hE:=(Zi hm).symm
 refine Qh true hE [6,5,4,3,42] Z (asK [0,1,2,3,4] Z) Z
 replace hm:=QH hm b9
 refine QO 1 0 Z Z Z Zq Z Z Z (cs:=[_,_]) Z Q2B Q65 Z Z ?_
 obtain ⟨c5,bO,hm⟩:=Q6 hm
 refine wC [] [0,1,2,3] Z fn_88 Z (Qch N aW aX aO aY aZ aP _ bO) (asK [0,1] Z) Z (H':=V4 ..) Z ?_
 rintro _ _ _ ⟨rfl,rfl,rfl⟩
 refine wP Z (wP Z (Q4 ?_))
 have hE:=(Zi hm).symm
 refine Qh (!c5) hE [6,5,4,3,42] Z (asK [0,1,2,3,4] Z) Z
 rintro aH hE
 try dsimp only
 have hm:=hLj_2
 try rw [hE] at hm
 refine Qt Z (fun bA=>?_) (fun bA=>?_)
 replace hm:=QI hm bA
 refine Q2 [6] (S':=[_]) Z (Q5 (Q1 (Q1v Z Z Z Zq Z Q8z tP_100 Z (out:=[_,_]) Z (wS 0 0 Z Q2B (all':=[_,_]) Z (H':=V4 ..) Z (wP Z (Q4 (Q3 (Q2 [7,6] (S':=[_,_]) Z (Qo (Q9 ?_))))))))))
 have hE:=(Zi hm).symm
 obtain ⟨hE0,hF1⟩:=Prod.mk.inj hE
 obtain ⟨hE1,hE2⟩:=Prod.mk.inj hF1
 clear hE hF1
 replace hE0:=hE0.symm
 subst hE0
 replace hE1:=hE1.symm
 subst hE1
 replace hE2:=hE2.symm
 subst hE2
 refine Q3r 4 1 Q1n (Q3r 57 3 R_V ?_)
 refine Q1D (Hr:=[_,_]) [1,0] Tryz.results49 (Q1e 2 Z Z Q2B Q65 Z Z) (Qg Z) ⟨none,0,0,none,0,0,Z,Z,Z⟩ (asK [] Z) Z Z (.inl Z)
 replace hm:=QH hm bA
 refine Q2 [6,5,4,3] (S':=V4 ..) Z (Qr (Q3 (Q5 (Q1 (QO 1 0 Z Z Z Zq Z Z Z (cs:=[_,_]) Z Q2B Q65 Z Z ?_)))))
 obtain ⟨_,bP,hm⟩:=Q6 hm
 try dsimp only at hm
 refine wC [] [0,1,2,3] Z fn_89 Z (w_pattern_of_s N aW aX aO aY aZ aP bP) (asK [0,1] Z) Z (H':=V4 ..) Z ?_
 rintro _ _ _ ⟨aJ,aK,aL,aM,rfl,rfl,rfl⟩
 refine QK Z Z Z Zq Z tZ_152 Z (fun g9=>(wS 0 0 Z tS_152 (all':=[_,_]) Z (H':=V7 ..) Z (Q4 (Q3 (Q2 [9,6,4,3] (S':=V4 ..) Z (Q5 ?_))))))
 obtain ⟨bF,hm,hLj_3⟩:=Q1o hm
 refine QM (σ:=(List Bool) × (List V) × Nat × Nat) (fun (aE,aF,aA,aB)=>bF = .inl (aE,aF)) (fun (aE,aF,aA,aB)=>[(9,.pointer (some ⟨g9,0,none⟩)),(6,.pointer (some ⟨g6,0,none⟩))]) (fun (aE,aF,aA,aB)=>[]) (fun (aE,aF,aA,aB)=>[.blk g9 [.slice aJ aA aK,.slice aL aB aM] 152,.own 4 1 Q1n (.slice aJ aA aK) aE,.own 57 3 R_V (.slice aL aB aM) aF,.blk g6 [V1,V1] 100]) ?_ ?_
 refine Q5 (Q1 (wF Z QbF (wD 6 2 Z tS_60 tA_60 Z (wN Z tE_60 (wP Z (Q4 (Q3 (Q2 [49,48,47,9,6,4] (S':=V6 ..) Z (Qw (Q7M [0,1,2,3,5] Z (H':=V5 ..) Z (Q1j (σ:=Nat × Nat × (List Bool) × (List V) × Nat × Nat) (fun (b1,aG,z,a9,aC,aD)=>Q1h (Q3l N l2 aN) b1 (aG,z,a9) = some bF) (fun (b1,aG,z,a9,aC,aD)=>b1) (fun (b1,aG,z,a9,aC,aD)=>[(49,.int .i64 ((aG:Nat):Int)),(48,.int .i64 ((l2.length:Nat):Int)),(47,.slice aS l2.length aT),(9,.pointer (some ⟨g9,0,none⟩)),(6,.pointer (some ⟨g6,0,none⟩)),(4,.pointer (some ⟨g4,0,none⟩))]) (fun (b1,aG,z,a9,aC,aD)=>[.sli 5 Q2O aS aT l2,.sli 3 R_V aU aV aN]) (fun (b1,aG,z,a9,aC,aD)=>[.blk g9 [.slice aJ aC aK,.slice aL aD aM] 152,.own 4 1 Q1n (.slice aJ aC aK) z,.own 57 3 R_V (.slice aL aD aM) a9,.blk g6 [V1,V1] 100,.blk g4 [.int .i64 b4,.int .i64 b5,.slice aU aN.length aV] 71]) (N,0,aO,aP,aO.length,aP.length) hm [49,48,47,9,6,4] Z (asK [3,2] Z) Z (fun s_ hm=>?_))))))))))))
 obtain ⟨b1,aG,z,a9,aC,aD⟩:=s_
 try dsimp only at hm ⊢
 obtain ⟨cK,cL,bQ,hq,hLu1⟩:=QV hm
 clear hm
 subst bQ
 replace hm:=hq
 clear hq
 unfold Q3l at hm
 try dsimp only at hm
 refine Q5 (Q1 (wP Z (Qs (d:=50) (v':=.bool (decide (aG < l2.length))) (S':=V6 ..) Z Z (Q2l (a:=aG) (b:=l2.length)) (Q4 (Q3 (Q5 ?_))))))
 refine Qt Z (fun bB=>?_) (fun bB=>?_)
 replace hm:=QI hm bB
 refine Q2 [49,48,47,9,6,4] (S':=V6 ..) Z (Qr (Q3 (Q5 (Qw (Q5 (Q1 (wP Z ?_)))))))
 obtain ⟨bC,bR,hm⟩:=Q6 hm
 refine Q1a 0 aG Z Z Z Zq Z Z Z Z Z bR tE_60 QaJ (fun cM cN cI c6=>(Q1G R_ArgD_opens 1 Z (fun cO bS _=>?_)))
 subst bS
 refine Q1F 0 0 Z Z Z Zq Z Z Z (cs:=V5 ..) Z QaJ tA_59 Z Z (QK Z Z Z Zq Z tZ_59 Z (fun cP=>(wP Z (wS 0 0 Z QaJ (all':=V5 ..) Z (H':=V6 ..) Z (Q4 (Q3 (Q2 [10,11,49,48,47,9,6,4] (S':=V8 ..) Z (Q5 ?_))))))))
 obtain ⟨bH,bT,hm⟩:=Q6 hm
 obtain ⟨⟨c7,bI,bJ⟩,bU,hm⟩:=Q6 hm
 try dsimp only at hm
 refine QW [0,1,2,3,4,5,6,8] Z Z (fun hok=>(Qn hok 0 1 0 Z Z Z Zq Z Z Z Z (cs:=[_,_]) Z tS_152 tA_152 Z Z (Qn hok 1 0 0 Z Z Z Zq Z Z Z Z (cs:=V5 ..) Z QaJ tA_59 Z Z (Q8 hok 2 Z Z Z Zq Z Z Z QaH (Qn hok 3 5 2 Z Z Z Zq Z Z Z Z (cs:=[_]) Z Q7p Q7n Z Z (xP hok 4 Z (Q2P hok 5 3 aG Z Z Z Zq Z Z Z Z Z Z bT Q5r Q1C (fun cQ cR cJ c8=>(Q3s Q6f 1 Z (fun cS bV _=>?_))))))))))
 subst bV
 refine Q4N hok 6 0 0 Z Z Z Zq Z Z Z Z (cs:=V3 ..) Z Q1C Q2M Z Z (xS hok 7 Z (QQ 2 Z (fun aQ _=>?_)))
 subst aQ
 refine QQ 3 Z (fun aR _=>?_)
 subst aR
 refine wC [2,3] [0,1,4,5] Z fn_90 Z (Qbc N aJ z.length aK z aL a9.length aM a9 bC.k bC.var bC.v.k bC.v.n bC.v.s bH.k bH.n bH.s _ _ _ bU) (asK [] Z) Z (H':=V4 ..) Z ?_
 rintro _ _ _ ⟨rfl,rfl,rfl⟩
 refine Q4 (QJ [0,1,2,3,4,5] [5] Z Z (xP hok 8 Z (QS hok Z (Q3 (Q2 [62,49,48,47,9,6,4] (S':=V7 ..) Z ?_)))))
 refine Qt Z (fun bD=>?_) (fun bD=>?_)
 replace hm:=QI hm bD
 refine Q2 [6] (S':=[_]) Z (Q5 (Q1 (Q1v Z Z Z Zq Z Q8z tP_100 Z (out:=[_,_]) Z (wS 4 0 Z Q2B (all':=[_,_]) Z (H':=V6 ..) Z (wP Z (Q4 (Q3 (Q2 [7,6] (S':=[_,_]) Z (Qo (Qk (Q9 (Q9 (Qk ?_)))))))))))))
 refine Q9 ?_
 have hE:=(Zi hm).symm
 replace hE:=Qx hLu1 hE
 replace hE:=Qx hLj_3 hE
 obtain ⟨hE0,hF1⟩:=Prod.mk.inj hE
 obtain ⟨hE1,hE2⟩:=Prod.mk.inj hF1
 clear hE hF1
 replace hE0:=hE0.symm
 subst hE0
 replace hE1:=hE1.symm
 subst hE1
 replace hE2:=hE2.symm
 subst hE2
 refine Q3r 4 1 Q1n (Q3r 57 3 R_V ?_)
 refine Q1D (Hr:=[_,_]) [1,0] Tryz.results49 (Q1e 6 Z Z Q2B Q65 Z Z) (Qg Z) ⟨none,0,0,none,0,0,Z,Z,Z⟩ (asK [] Z) Z Z (.inl Z)
 replace hm:=QH hm bD
 refine Q2 [49,48,47,9,6,4] (S':=V6 ..) Z (Qr (Qf (Q3 (Q1 (wP Z ?_)))))
 obtain ⟨bW,hm⟩:=Qd hm
 refine Qs (d:=64) (v':=.int .i64 ((aG + 1:Nat):Int)) (S':=V6 ..) Z Z (Q1r (a:=aG) (b:=1) bW) (QT (S':=V6 ..) Z Z Z Z Z (Q4 ?_))
 have hE:=(Zi hm).symm
 replace hE:=QF hLu1 hE
 refine QE [3,0,1,4,5] Z (H':=V5 ..) Z ?_
 refine QU (_,aG + 1,bI,bJ,z.length,a9.length) (Nat.lt_succ_self _) hE [49,48,47,9,6,4] Z (asK [4,5] Z) Z
 replace hm:=QH hm bB
 refine Q2 [9,6] (S':=[_,_]) Z (Q1g (Qj (Qj (QD ?_))))
 have hE:=(Zi hm).symm
 replace hE:=Qx hLu1 hE
 refine QE [0,1,2,3] Z (H':=V4 ..) Z ?_
 refine Qh (z,a9,aC,aD) hE [9,6] Z (asK [] Z) Z
 rintro ⟨aE,aF,aA,aB⟩ hE
 try dsimp only
 have hm:=QF hLj_3 hE
 try dsimp only at hm
 refine Q5 (Q1 (wF Z Qae (QO 0 0 Z Z Z Zq Z Z Z (cs:=[_,_]) Z Q2B Q65 Z Z (wS 3 0 Z Q2B (all':=[_,_]) Z (H':=V4 ..) Z (wP Z (Q4 (Q3 (Q2 [7,6] (S':=[_,_]) Z (Qo ?_)))))))))
 have hE:=(Zi hm).symm
 obtain ⟨hE0,hF1⟩:=Prod.mk.inj hE
 obtain ⟨hE1,hE2⟩:=Prod.mk.inj hF1
 clear hE hF1
 replace hE0:=hE0.symm
 subst hE0
 replace hE1:=hE1.symm
 subst hE1
 replace hE2:=hE2.symm
 subst hE2
 refine Q1D (Hr:=[_,_]) [1,2] Tryz.results49 (Q1e 3 Z Z Q2B Q65 Z Z) (Qg Z) ⟨aJ,aK,aA,aL,aM,aB,Z,Z,Z⟩ (asK [] Z) Z Z (.inl Z)
theorem Qcz (N:Nat) (a0:Int) (a1:Int) (qp0:OA) (qc1:Nat) (l2:List V) (qg2:Nat) (a3:Int) (a4:Int) (qp3:OA) (qc4:Nat) (l5:List Q4O) (a6:Int) (a7:Int) (a8:Int) (a9:ByteArray) (a10:Int) (a11:Int) (qp5:OA) (qc6:Nat) (l12:List Qm) (qg7:Nat) (qp8:OA) (qc9:Nat) (l13:List Bool) (qp10:OA) (qc11:Nat) (l14:List V) (o0:Bool) (hm:Q7L N a0 a1 l2 a3 a4 l5 a6 a7 a8 a9 a10 a11 l12 l13 l14 = some o0):Q17 Tryz.prog 86 [.agg #[.int .i64 a0,.int .i64 a1,.slice qp0 l2.length qc1],.pointer (some ⟨qg2,0,none⟩),.pointer (some ⟨qg7,0,none⟩)] [.sli 3 R_V qp0 qc1 l2,.sli 5 Q2O qp3 qc4 l5,.sli 7 QA qp5 qc6 l12,.sli 1 Q1n qp8 qc9 l13,.sli 3 R_V qp10 qc11 l14] [.blk qg2 [.int .u8 a3,.int .i64 a4,.slice qp3 l5.length qc4,.int .u8 a6,.int .u8 a7,.int .i64 a8,.string a9,.int .i64 a10,.int .u8 a11,.slice qp5 l12.length qc6] 67,.blk qg7 [.slice qp8 l13.length qc9,.slice qp10 l14.length qc11] 100] (fun v Φr Hr=>v = .bool o0 ∧ Φr = [.sli 5 Q2O qp3 qc4 l5,.sli 7 QA qp5 qc6 l12,.sli 1 Q1n qp8 qc9 l13,.sli 3 R_V qp10 qc11 l14] ∧ Hr = [.blk qg2 [.int .u8 a3,.int .i64 a4,.slice qp3 l5.length qc4,.int .u8 a6,.int .u8 a7,.int .i64 a8,.string a9,.int .i64 a10,.int .u8 a11,.slice qp5 l12.length qc6] 67,.blk qg7 [.slice qp8 l13.length qc9,.slice qp10 l14.length qc11] 100]):=by
 unfold Q7L at hm
 refine QC Tryz.func86 Z Tryz.ntmps86 Z (S:=V3 ..) Z (fun C=>(Q5 (Q1 (wB Z (fun g3=>(wP Z (Q4 (Q3 (Q2 [3,1,2] (S':=V3 ..) Z (Q5 (Q1 (QO 1 0 Z Z Z Zq Z Z Z (cs:=V10 ..) Z Q6E tA_67 Z Z (QO 0 0 Z Z Z Zq Z Z Z (cs:=V3 ..) Z Q2N tA_71 Z Z (QO 2 0 Z Z Z Zq Z Z Z (cs:=[_,_]) Z Q2B Q65 Z Z ?_))))))))))))))
 obtain ⟨⟨v11_0,v11_1,v11_2⟩,hc11,hm⟩:=Q6 hm
 try dsimp only at hm
 refine wC [] [0,1,2] Z fn_49 Z (Q7q N a3 a4 qp3 qc4 l5 a6 a7 a8 a9 a10 a11 qp5 qc6 l12 a0 a1 qp0 qc1 l2 qp8 qc9 l13 qp10 qc11 l14 _ _ _ hc11) (asK [1,2,0,3,4] Z) Z (H':=V3 ..) Z ?_
 rintro _ _ _ ⟨p11_0,c11_1,c11_2,p11_3,c11_4,c11_5,rfl,rfl,rfl⟩
 refine wP Z (wP Z (wP Z (QK Z Z Z Zq Z Q8z Z (fun g5=>(wS 0 0 Z Q2B (all':=[_,_]) Z (H':=V6 ..) Z (wP Z (Q4 (Q3 (Q2 [6] (S':=[_]) Z (Q5 (Q1 (wP Z (wP Z (Q4 ?_))))))))))))))
 refine Q3 (Q2 [4] (S':=[_]) Z (Qo ?_))
 have hE:=(Zi hm).symm
 replace hE:=hE.symm
 subst hE
 refine Qp (Hr:=[_,_]) [4,5] Tryz.results86 (Qg Z) ⟨Z,Z,Z⟩ (asK [1,2,3,4] Z) Z Z (.inl Z)
theorem Qav (N:Nat) (aO:OA) (aP:Nat) (l0:List Qz) (aJ:Nat) (a1:Int) (a2:Int) (aD:OA) (aE:Nat) (l3:List Q4O) (a4:Int) (a5:Int) (a6:Int) (a7:ByteArray) (a8:Int) (a9:Int) (aF:OA) (aG:Nat) (aA:List Qm) (aK:Nat) (aH:OA) (aI:Nat) (aB:List Bool) (z:OA) (a0:Nat) (aC:List V) (o0:Int) (hm:Q4G N l0 a1 a2 l3 a4 a5 a6 a7 a8 a9 aA aB aC = some o0):Q17 Tryz.prog 120 [.slice aO l0.length aP,.func (.func 86) #[] #[.pointer (some ⟨aJ,0,none⟩),.pointer (some ⟨aK,0,none⟩)]] [.sli 3 QP aO aP l0,.sli 5 Q2O aD aE l3,.sli 7 QA aF aG aA,.sli 1 Q1n aH aI aB,.sli 3 R_V z a0 aC] [.blk aJ [.int .u8 a1,.int .i64 a2,.slice aD l3.length aE,.int .u8 a4,.int .u8 a5,.int .i64 a6,.string a7,.int .i64 a8,.int .u8 a9,.slice aF aA.length aG] 67,.blk aK [.slice aH aB.length aI,.slice z aC.length a0] 100] (fun v Φr Hr=>v = .int .i64 o0 ∧ Φr = [.sli 5 Q2O aD aE l3,.sli 7 QA aF aG aA,.sli 1 Q1n aH aI aB,.sli 3 R_V z a0 aC] ∧ Hr = [.blk aJ [.int .u8 a1,.int .i64 a2,.slice aD l3.length aE,.int .u8 a4,.int .u8 a5,.int .i64 a6,.string a7,.int .i64 a8,.int .u8 a9,.slice aF aA.length aG] 67,.blk aK [.slice aH aB.length aI,.slice z aC.length a0] 100]):=by
 unfold Q4G at hm
 refine QC Tryz.func120 Z Tryz.ntmps120 Z (S:=[_,_]) Z (fun C=>(Q5 (Q1 (wP Z (Q4 (Q3 (Q2 [0,1] (S':=[_,_]) Z (Q5 ?_))))))))
 obtain ⟨aR,hm,hLj_1⟩:=Q1o hm
 refine QM (σ:=Unit) (fun _=>aR = .inl ()) (fun _=>[]) (fun _=>[.sli 5 Q2O aD aE l3,.sli 7 QA aF aG aA,.sli 1 Q1n aH aI aB,.sli 3 R_V z a0 aC]) (fun _=>[.blk aJ [.int .u8 a1,.int .i64 a2,.slice aD l3.length aE,.int .u8 a4,.int .u8 a5,.int .i64 a6,.string a7,.int .i64 a8,.int .u8 a9,.slice aF aA.length aG] 67,.blk aK [.slice aH aB.length aI,.slice z aC.length a0] 100]) ?_ ?_
 refine Q5 (Q1 (wP Z (wN Z Q2y (wP Z (Q4 (Q3 (Q2 [8,7,0,1] (S':=V4 ..) Z (Qw (Q1j (σ:=Nat × Nat) (fun (aL,s)=>Q1h (Q2U N l0 a1 a2 l3 a4 a5 a6 a7 a8 a9 aA aB aC) aL s = some aR) (fun (aL,s)=>aL) (fun (aL,s)=>[(8,.int .i64 ((s:Nat):Int)),(7,.int .i64 ((l0.length:Nat):Int)),(0,.slice aO l0.length aP),(1,.func (.func 86) #[] #[.pointer (some ⟨aJ,0,none⟩),.pointer (some ⟨aK,0,none⟩)])]) (fun (aL,s)=>[.sli 3 QP aO aP l0,.sli 5 Q2O aD aE l3,.sli 7 QA aF aG aA,.sli 1 Q1n aH aI aB,.sli 3 R_V z a0 aC]) (fun (aL,s)=>[.blk aJ [.int .u8 a1,.int .i64 a2,.slice aD l3.length aE,.int .u8 a4,.int .u8 a5,.int .i64 a6,.string a7,.int .i64 a8,.int .u8 a9,.slice aF aA.length aG] 67,.blk aK [.slice aH aB.length aI,.slice z aC.length a0] 100]) (N,0) hm [8,7,0,1] Z (asK [0,1,2,3,4] Z) Z (fun s_ hm=>?_))))))))))
 obtain ⟨aL,s⟩:=s_
 try dsimp only at hm ⊢
 obtain ⟨b9,bA,b0,hq,hLu1⟩:=QV hm
 clear hm
 subst b0
 replace hm:=hq
 clear hq
 unfold Q2U at hm
 try dsimp only at hm
 refine Q5 (Q1 (wP Z (Qs (d:=9) (v':=.bool (decide (s < l0.length))) (S':=V4 ..) Z Z (Q2l (a:=s) (b:=l0.length)) (Q4 (Q3 (Q5 ?_))))))
 refine Qt Z (fun aY=>?_) (fun aY=>?_)
 replace hm:=QI hm aY
 refine Q2 [8,7,0,1] (S':=V4 ..) Z (Qr (Q3 (Q5 (Qw (Q5 (Q1 (wP Z (wP Z (Q4 (Q3 (Q2 [5,8,7,0,1] (S':=V5 ..) Z (Q5 (Q1 ?_)))))))))))))
 refine wP Z (wP Z (wP Z ?_))
 obtain ⟨aZ,b1,hm⟩:=Q6 hm
 refine Q1a 0 s Z Z Z Zq Z Z Z Z Z b1 Q2y Q2N (fun bB bC b8 b6=>(Q1G Q3c 1 Z (fun b2 b3 _=>?_)))
 subst b3
 refine Q1F 1 0 Z Z Z Zq Z Z Z (cs:=V3 ..) Z Q2N tA_71 Z Z ?_
 obtain ⟨bD,b4,hm⟩:=Q6 hm
 refine Q1K [0,1] [] Z Z Z Zq Z Z Z fn_86 Z Z (Qcz N aZ.id aZ.ty b2.1 b2.2 aZ.args aJ a1 a2 aD aE l3 a4 a5 a6 a7 a8 a9 aF aG aA aK aH aI aB z a0 aC _ b4) (asK [0,4,5,6,7] Z) Z (H':=[]) Z ?_
 rintro _ _ _ ⟨rfl,rfl,rfl⟩
 refine Q4 (Q3 (Q2 [16,5,8,7,0,1] (S':=V6 ..) Z ?_))
 refine Qt Z (fun aN=>?_) (fun aN=>?_)
 replace hm:=QI hm aN
 refine Q2 [5] (S':=[_]) Z (Q5 (Q1 (wP Z (wP Z (Q4 (Q3 (Q2 [4] (S':=[_]) Z (Qo (Qk (Q9 (Q9 (Qk (Q9 ?_)))))))))))))
 have hE:=(Zi hm).symm
 replace hE:=Qx hLu1 hE
 replace hE:=Qx hLj_1 hE
 replace hE:=hE.symm
 subst hE
 refine Qp (Hr:=[_,_]) [0,1] Tryz.results120 (Qg Z) ⟨Z,Z,Z⟩ (asK [0,1,2,3] Z) Z Z (.inl Z)
 replace hm:=QH hm aN
 refine Q2 [8,7,0,1] (S':=V4 ..) Z (Qr (Qf (Q3 (Q1 (wP Z ?_)))))
 obtain ⟨b5,hm⟩:=Qd hm
 refine Qs (d:=18) (v':=.int .i64 ((s + 1:Nat):Int)) (S':=V4 ..) Z Z (Q1r (a:=s) (b:=1) b5) (QT (S':=V4 ..) Z Z Z Z Z (Q4 ?_))
 have hE:=(Zi hm).symm
 replace hE:=QF hLu1 hE
 refine QU (_,s + 1) (Nat.lt_succ_self _) hE [8,7,0,1] Z (asK [7,0,1,2,3] Z) Z
 replace hm:=QH hm aY
 refine Q2 [] (S':=[]) Z (Q1g (Qj (Qj (QD ?_))))
 have hE:=(Zi hm).symm
 replace hE:=Qx hLu1 hE
 refine Qh () hE [] Z (asK [1,2,3,4] Z) Z
 rintro _ hE
 try dsimp only
 have hm:=QF hLj_1 hE
 try dsimp only at hm
 refine Q5 (Q1 (wP Z (Q4 (Q3 (Qo ?_)))))
 have hE:=(Zi hm).symm
 replace hE:=hE.symm
 subst hE
 refine Qp (Hr:=[_,_]) [0,1] Tryz.results120 (Qg Z) ⟨Z,Z,Z⟩ (asK [0,1,2,3] Z) Z Z (.inl Z)
end Go.Proofs.YtbgodclhmgmcgaaGreatDoor
