import Derived.Test.YtbgodclhmgmcgaaGreatDoorXW3
namespace Go.Proofs.YtbgodclhmgmcgaaGreatDoor
open Go.RowKit
set_option maxRecDepth 100000
set_option maxHeartbeats 4000000
theorem Q5K (N:Nat) (aC:Nat) (q:OA) (s:Nat) (z:Nat) (l0:List Qn) (a0:OA) (a1:Nat) (a7:Nat) (l1:List Qp) (a8:OA) (a9:Nat) (aA:Nat) (l2:List ByteArray) (a3:Int) (a4:Int) (a5:Int) (a6:ByteArray) (o0:Int) (hm:Q2Z N l0 l1 l2 a3 a4 a5 a6 = some o0):Q1o Tryz.prog 228 [.pointer (some ⟨aC,0,none⟩),.string a6] [] [.blk aC [.slice q s z,.slice a0 a1 a7,.slice a8 a9 aA,.int .i64 a3,.int .i64 a4,.int .i64 a5] 206,.own 69 2 Qf (.slice q s z) l0,.own 52 5 Qe (.slice a0 a1 a7) l1,.own 9 1 Q1y (.slice a8 a9 aA) l2] (fun v Φr Hr=>v = .int .i64 o0 ∧ Φr = [] ∧ Hr = [.blk aC [.slice q s z,.slice a0 a1 a7,.slice a8 a9 aA,.int .i64 a3,.int .i64 a4,.int .i64 a5] 206,.own 69 2 Qf (.slice q s z) l0,.own 52 5 Qe (.slice a0 a1 a7) l1,.own 9 1 Q1y (.slice a8 a9 aA) l2]):=by
 unfold Q2Z at hm
 refine QD Tryz.func228 Z Tryz.ntmps228 Z (S:=[_,_]) Z (fun C=>(Q5 (Q1 (wP Z (Q3 (Q4 (Q2 [0,1] (S':=[_,_]) Z (Q5 ?_))))))))
 obtain ⟨aG,hm,hLj_1⟩:=Q1w hm
 refine QI (σ:=Unit) (fun _=>aG = .inl ()) (fun _=>[]) (fun _=>[]) (fun _=>[.blk aC [.slice q s z,.slice a0 a1 a7,.slice a8 a9 aA,.int .i64 a3,.int .i64 a4,.int .i64 a5] 206,.own 69 2 Qf (.slice q s z) l0,.own 52 5 Qe (.slice a0 a1 a7) l1,.own 9 1 Q1y (.slice a8 a9 aA) l2]) ?_ ?_
 refine Q5 (Q1 (wP Z (Q3 (Q4 (Qw (Q1E (σ:=Nat × Nat) (fun (aB,j)=>Q1M (Q3s N l2 a6) aB j = some aG) (fun (aB,j)=>aB) (fun (aB,j)=>[(5,.int .i64 ((j:Nat):Int)),(0,.pointer (some ⟨aC,0,none⟩)),(1,.string a6)]) (fun (aB,j)=>[]) (fun (aB,j)=>[.blk aC [.slice q s z,.slice a0 a1 a7,.slice a8 a9 aA,.int .i64 a3,.int .i64 a4,.int .i64 a5] 206,.own 69 2 Qf (.slice q s z) l0,.own 52 5 Qe (.slice a0 a1 a7) l1,.own 9 1 Q1y (.slice a8 a9 aA) l2]) (N,0) hm [5,0,1] Z (asK [] Z) Z (fun s_ hm=>?_)))))))
 obtain ⟨aB,j⟩:=s_
 try dsimp only at hm ⊢
 obtain ⟨aS,aT,aL,hq,hLu1⟩:=Q1e hm
 clear hm
 subst aL
 replace hm:=hq
 clear hq
 unfold Q3s at hm
 try dsimp only at hm
 refine Q5 (Q5 (Q1 (wP Z (wP Z (wP Z (wF Z Q7h (wD 0 2 Z Q6Q Q9q Z (Q15 3 Z (fun aM _=>(wN Z Q2c (QH (d:=11) (v':=.int .i64 ((l2.length:Nat):Int)) (S':=V8 ..) Z Z (Q4Y aM) (wP Z (QH (d:=12) (v':=.bool (decide (j < l2.length))) (S':=V9 ..) Z Z (Q2z (a:=j) (b:=l2.length)) (Q3 ?_))))))))))))))
 refine Q4 (Q2 [12,5,0,1] (S':=V4 ..) Z ?_)
 refine Qj Z (fun aD=>?_) (fun aD=>?_)
 replace hm:=QA hm aD
 refine Q2 [5,0,1] (S':=V3 ..) Z (Qq (Q4 (Q5 (Qw (Q5 (Q1 (wP Z (wP Z (wF Z Q7h (wD 0 2 Z Q6Q Q9q Z (wP Z ?_)))))))))))
 obtain ⟨aQ,aH,hm⟩:=Q6 hm
 refine Q5D 3 j Z Z Z Zq Z Z Z Z Z (Q2t aH) Q2c Q27 (fun aU aN=>?_)
 subst aN
 refine Q1T Q5E 3 j 0 Z Z Z Zq Z Z Z aH Q27 Q2E (v:=fun _=>.string aQ) (fun _=>Z) (fun _=>Z) (fun _ _=>(wP Z (wP Z (Q3 (Q4 (Q2 [23,5,0,1] (S':=V4 ..) Z ?_))))))
 refine Qj Z (fun aE=>?_) (fun aE=>?_)
 replace hm:=QA hm aE
 refine Q2 [5] (S':=[_]) Z (Q5 (Q1 (wP Z (wP Z (Q3 (Q4 (Q2 [4] (S':=[_]) Z (Qb (Qg (Q7 (Q7 (Qg (Q7 ?_)))))))))))))
 have hE:=(Zi hm).symm
 replace hE:=Qv hLu1 hE
 replace hE:=Qv hLj_1 hE
 replace hE:=hE.symm
 subst hE
 refine Ql (Hr:=V4 ..) [0,1,2,3] Tryz.results228 (Qc Z) ⟨Z,Z,Z⟩ (asK [] Z) Z Z (.inl Z)
 replace hm:=Qz hm aE
 refine Q2 [5,0,1] (S':=V3 ..) Z (Qq (Qh (Q4 (Q1 (wP Z (wP Z ?_))))))
 obtain ⟨aO,hm⟩:=Qu hm
 refine QH (d:=14) (v':=.int .i64 ((j + 1:Nat):Int)) (S':=V4 ..) Z Z (Q1J (a:=j) (b:=1) aO) (Q1b (S':=V4 ..) Z Z Z Z Z (Q3 ?_))
 have hE:=(Zi hm).symm
 replace hE:=QO hLu1 hE
 refine Q1a (_,j + 1) (Nat.lt_succ_self _) hE [5,0,1] Z (asK [] Z) Z
 replace hm:=Qz hm aD
 refine Q2 [] (S':=[]) Z (Q1x (Qk (Qk (QJ ?_))))
 have hE:=(Zi hm).symm
 replace hE:=Qv hLu1 hE
 refine Q9 () hE [] Z (asK [] Z) Z
 rintro _ hE
 try dsimp only
 have hm:=QO hLj_1 hE
 try dsimp only at hm
 refine Q5 (Q1 (wP Z (Q3 (Q4 (Qb ?_)))))
 have hE:=(Zi hm).symm
 replace hE:=hE.symm
 subst hE
 refine Ql (Hr:=V4 ..) [0,1,2,3] Tryz.results228 (Qc Z) ⟨Z,Z,Z⟩ (asK [] Z) Z Z (.inl Z)
theorem Q7k (N:Nat) (a0:Int)  (hm:Q42 N a0 = some ()):Q1o Tryz.prog 159 [.int .i64 a0] [] [] (fun v Φr Hr=>v = .agg #[.int .u8 1,.int .i64 a0,.string ((⟨#[]⟩ : ByteArray))] ∧ Φr = [] ∧ Hr = []):=by
 unfold Q42 at hm
 refine QD Tryz.func159 Z Tryz.ntmps159 Z (S:=[_]) Z (fun C=>(Q5 (Q1 (QE Z Z Z Zq Z Q2Y Z (fun g2=>(Q3 (Q4 (Q5 (Q1 (wP Z (Q13 Z Z Z Zq Z Q2Y Q8x Z (out:=V3 ..) Z (wS 0 0 Z Q1H (all':=V3 ..) Z (H':=[_]) Z (Q3 (Q4 (Q2 [2] (S':=[_]) Z ?_)))))))))))))))
 refine Qb ?_
 have hE:=(Zi hm).symm
 refine Ql (Hr:=[]) [] Tryz.results159 (QW 0 Z Z Q1H Q2u Z Z) ⟨Z,Z,Z⟩ (asK [] Z) Z Z (.inl Z)
theorem Q6T (N:Nat) (a0:Int) (a1:ByteArray) (a2:Int) (a3:Int) (a6:OA) (a7:Nat) (l4:List Qa) (o0:Nat) (o1:Int) (o2:ByteArray) (hm:Q3C N a0 a1 a2 a3 l4 = some (o0,o1,o2)):Q1o Tryz.prog 229 [.agg #[.int .u8 a0,.string a1,.int .i64 a2,.int .i64 a3,.slice a6 l4.length a7]] [.sli 5 Qi a6 a7 l4] [] (fun v Φr Hr=>v = .agg #[.int .u8 ((o0:Nat):Int),.int .i64 o1,.string o2] ∧ Φr = [] ∧ Hr = []):=by
 unfold Q3C at hm
 refine QD Tryz.func229 Z Tryz.ntmps229 Z (S:=[_]) Z (fun C=>(Q5 (Q1 (wB Z (fun g1=>(QE Z Z Z Zq Z Q2Y Z (fun g2=>(Q3 (Q4 (Q2 [2,1] (S':=[_,_]) Z (Q5 (Q5 (Q1 (wF Z Q2F (wD 1 0 Z Q34 Q6O Z (wP Z ?_))))))))))))))))
 refine Q3 (Q4 (Q2 [9,2,1] (S':=V3 ..) Z ?_))
 refine Qj Z (fun s=>?_) (fun s=>?_)
 replace hm:=QA hm s
 refine Q2 [2,1] (S':=[_,_]) Z (Q5 (Q1 (wF Z Q1V (wD 1 1 Z Q27 Q2E Z (Q13 Z Z Z Zq Z Q2Y Q8x Z (out:=V3 ..) Z (wS 0 0 Z Q1H (all':=V3 ..) Z (H':=[_,_]) Z (Q3 (Q4 (Q2 [2] (S':=[_]) Z (Qb (Q7 ?_)))))))))))
 have hE:=(Zi hm).symm
 obtain ⟨hE0,hF1⟩:=Prod.mk.inj hE
 obtain ⟨hE1,hE2⟩:=Prod.mk.inj hF1
 clear hE hF1
 replace hE0:=hE0.symm
 subst hE0
 replace hE1:=hE1.symm
 subst hE1
 replace hE2:=hE2.symm
 subst hE2
 refine Ql (Hr:=[]) [] Tryz.results229 (QW 0 Z Z Q1H Q2u Z Z) ⟨Z,Z,Z⟩ (asK [] Z) Z Z (.inl Z)
 replace hm:=Qz hm s
 refine Q2 [2,1] (S':=[_,_]) Z (Qq (Q4 (Q5 (Q5 (Q1 (wF Z Q1V (wD 1 1 Z Q27 Q2E Z ?_)))))))
 obtain ⟨a8,a9,hm⟩:=Q6 hm
 refine Q1B Z Z Z Zq (Q3P 0 Z Z Z Z a9 Q64) (wP Z (QH (d:=16) (v':=.bool (a8.toNat == 45)) (S':=V5 ..) Z Z (Q3c (a:=a8.toNat) (b:=45)) (Q3 (Q4 (Q2 [16,2,1] (S':=V3 ..) Z ?_)))))
 refine Qj Z (fun j=>?_) (fun j=>?_)
 replace hm:=QA hm j
 refine Q2 [2,1] (S':=[_,_]) Z (Q5 (Q1 (wF Z Q1V (wD 1 1 Z Q27 Q2E Z ?_))))
 obtain ⟨aA,hm⟩:=Qu hm
 refine Q1B Z Z Z Zq (rk_strFrom 1 Z Z Z Z aA Q64) ?_
 obtain ⟨⟨q,aH⟩,aB,hm⟩:=Q6 hm
 try dsimp only at hm
 refine wC [] [0,1] Z fn_202 Z (Q2O N (a1.extract 1 a1.size) _ _ aB) (asK [] Z) Z (H':=[_,_]) Z ?_
 rintro _ _ _ ⟨rfl,rfl,rfl⟩
 refine wP Z (wP Z (wP Z (wP Z (wP Z (Q3 (Q4 (Q2 [3,2] (S':=[_,_]) Z (Q5 (Q1 (wP Z (Q1B Z Z Z Zq (rk_neg Z Z) ?_)))))))))))
 obtain ⟨aC,hm⟩:=Qu hm
 refine QH (d:=25) (v':=.int .i64 (0 - q)) (S':=V3 ..) Z Z (i64_in aC) ?_
 obtain ⟨_,aD,hm⟩:=Q6 hm
 try dsimp only at hm
 refine wC [] [0,1] Z fn_159 Z (Q7k N (0 - q) aD) (asK [] Z) Z (H':=[_,_]) Z ?_
 rintro _ _ _ ⟨rfl,rfl,rfl⟩
 refine wS 0 0 Z Q1H (all':=V3 ..) Z (H':=[_,_]) Z (Q3 (Q4 (Q2 [2] (S':=[_]) Z (Qb (Q7 ?_)))))
 have hE:=(Zi hm).symm
 obtain ⟨hE0,hF1⟩:=Prod.mk.inj hE
 obtain ⟨hE1,hE2⟩:=Prod.mk.inj hF1
 clear hE hF1
 replace hE0:=hE0.symm
 subst hE0
 replace hE1:=hE1.symm
 subst hE1
 replace hE2:=hE2.symm
 subst hE2
 refine Ql (Hr:=[]) [] Tryz.results229 (QW 0 Z Z Q1H Q2u Z Z) ⟨Z,Z,Z⟩ (asK [] Z) Z Z (.inl Z)
 replace hm:=Qz hm j
 refine Q2 [2,1] (S':=[_,_]) Z (Qq (Q4 (Q5 (Q1 (wF Z Q1V (wD 1 1 Z Q27 Q2E Z ?_))))))
 obtain ⟨⟨z,aI⟩,aE,hm⟩:=Q6 hm
 try dsimp only at hm
 refine wC [] [0,1] Z fn_202 Z (Q2O N a1 _ _ aE) (asK [] Z) Z (H':=[_,_]) Z ?_
 rintro _ _ _ ⟨rfl,rfl,rfl⟩
 refine wP Z (wP Z (wP Z (wP Z (wP Z (Q3 (Q4 (Q2 [5,2] (S':=[_,_]) Z (Q5 (Q1 (wP Z ?_))))))))))
 obtain ⟨_,aF,hm⟩:=Q6 hm
 try dsimp only at hm
 refine wC [] [0,1] Z fn_159 Z (Q7k N z aF) (asK [] Z) Z (H':=[_,_]) Z ?_
 rintro _ _ _ ⟨rfl,rfl,rfl⟩
 refine wS 0 0 Z Q1H (all':=V3 ..) Z (H':=[_,_]) Z (Q3 (Q4 (Q2 [2] (S':=[_]) Z (Qb ?_))))
 have hE:=(Zi hm).symm
 obtain ⟨hE0,hF1⟩:=Prod.mk.inj hE
 obtain ⟨hE1,hE2⟩:=Prod.mk.inj hF1
 clear hE hF1
 replace hE0:=hE0.symm
 subst hE0
 replace hE1:=hE1.symm
 subst hE1
 replace hE2:=hE2.symm
 subst hE2
 refine Ql (Hr:=[]) [] Tryz.results229 (QW 0 Z Z Q1H Q2u Z Z) ⟨Z,Z,Z⟩ (asK [] Z) Z Z (.inl Z)
theorem Q69 (N:Nat) (bE:Nat) (b6:OA) (b7:Nat) (b8:Nat) (l0:List Qn) (b9:OA) (bA:Nat) (bB:Nat) (l1:List Qp) (bZ:OA) (c0:Nat) (c1:Nat) (l2:List ByteArray) (a3:Int) (a4:Int) (a5:Int) (a6:Int) (a7:ByteArray) (a8:Int) (a9:Int) (bF:OA) (bG:Nat) (bI:List Qa) (bJ:Bool) (o2:List Q3B) (o6:List ByteArray) (o8:Int) (o9:Int) (hm:Q38 N l0 l1 l2 a3 a4 a5 a6 a7 a8 a9 bI bJ = some (o2,o6,o8,o9)):Q1o Tryz.prog 209 [.pointer (some ⟨bE,0,none⟩),.agg #[.int .u8 a6,.string a7,.int .i64 a8,.int .i64 a9,.slice bF bI.length bG],.bool bJ] [.sli 5 Qi bF bG bI] [.blk bE [.slice b6 b7 b8,.slice b9 bA bB,.slice bZ c0 c1,.int .i64 a3,.int .i64 a4,.int .i64 a5] 206,.own 69 2 Qf (.slice b6 b7 b8) l0,.own 52 5 Qe (.slice b9 bA bB) l1,.own 9 1 Q1y (.slice bZ c0 c1) l2] (fun v Φr Hr=>∃ (o0:OA) (o1:Nat) (o3:Nat) (o4:OA) (o5:Nat) (o7:Nat),v = .slice o0 o3 o1 ∧ Φr = [] ∧ Hr = [.own 59 5 Q2x (.slice o0 o3 o1) o2,.blk bE [.slice b6 b7 b8,.slice b9 bA bB,.slice o4 o7 o5,.int .i64 a3,.int .i64 o8,.int .i64 o9] 206,.own 69 2 Qf (.slice b6 b7 b8) l0,.own 52 5 Qe (.slice b9 bA bB) l1,.own 9 1 Q1y (.slice o4 o7 o5) o6]):=by
 unfold Q38 at hm
 refine QD Tryz.func209 Z Tryz.ntmps209 Z (S:=V3 ..) Z (fun C=>(Q5 (Q1 (wB Z (fun g4=>(wP Z (Q3 (Q4 (Q2 [4,0,2] (S':=V3 ..) Z (Q5 (Q1 (wP Z (Q3 (Q4 (Q5 ?_)))))))))))))))
 obtain ⟨bX,hm,hLj_1⟩:=Q6 hm
 refine QI (σ:=(List Q3B) × (List ByteArray) × Int × Int × OA × Nat × Nat × OA × Nat × Nat) (fun (b2,aP,aT,aU,aX,aY,aZ,aG,aH,aI)=>bX = (b2,aP,aT,aU)) (fun (b2,aP,aT,aU,aX,aY,aZ,aG,aH,aI)=>[(7,.slice aX aZ aY)]) (fun (b2,aP,aT,aU,aX,aY,aZ,aG,aH,aI)=>[]) (fun (b2,aP,aT,aU,aX,aY,aZ,aG,aH,aI)=>[.own 59 5 Q2x (.slice aX aZ aY) b2,.blk bE [.slice b6 b7 b8,.slice b9 bA bB,.slice aG aI aH,.int .i64 a3,.int .i64 aT,.int .i64 aU] 206,.own 69 2 Qf (.slice b6 b7 b8) l0,.own 52 5 Qe (.slice b9 bA bB) l1,.own 9 1 Q1y (.slice aG aI aH) aP]) ?_ ?_
 refine Q5 (Q1 (wP Z (Q3 (Q4 (Qw (Q3i 59 5 Q2x (Q1E (σ:=Nat × Nat × (List Q3B) × (List ByteArray) × Int × Int × OA × Nat × Nat × OA × Nat × Nat) (fun (bK,b0,aK,j,aE,aF,aQ,aR,aS,s,z,a0)=>Q1M (Q3G N bI l0 l1 a3 bJ) bK (b0,aK,j,aE,aF) = some bX) (fun (bK,b0,aK,j,aE,aF,aQ,aR,aS,s,z,a0)=>bK) (fun (bK,b0,aK,j,aE,aF,aQ,aR,aS,s,z,a0)=>[(8,.int .i64 ((b0:Nat):Int)),(7,.slice aQ aS aR),(4,.pointer (some ⟨g4,0,none⟩)),(0,.pointer (some ⟨bE,0,none⟩)),(2,.bool bJ)]) (fun (bK,b0,aK,j,aE,aF,aQ,aR,aS,s,z,a0)=>[.sli 5 Qi bF bG bI]) (fun (bK,b0,aK,j,aE,aF,aQ,aR,aS,s,z,a0)=>[.own 59 5 Q2x (.slice aQ aS aR) aK,.blk g4 [.int .u8 a6,.string a7,.int .i64 a8,.int .i64 a9,.slice bF bI.length bG] 159,.blk bE [.slice b6 b7 b8,.slice b9 bA bB,.slice s a0 z,.int .i64 a3,.int .i64 aE,.int .i64 aF] 206,.own 69 2 Qf (.slice b6 b7 b8) l0,.own 52 5 Qe (.slice b9 bA bB) l1,.own 9 1 Q1y (.slice s a0 z) j]) (N,0,[],l2,a4,a5,none,0,0,bZ,c1,c0) hm [8,7,4,0,2] Z (asK [0] Z) Z (fun s_ hm=>?_))))))))
 obtain ⟨bK,b0,aK,j,aE,aF,aQ,aR,aS,s,z,a0⟩:=s_
 try dsimp only at hm ⊢
 obtain ⟨d6,d7,cE,hq,hLu1⟩:=Q1e hm
 clear hm
 subst cE
 replace hm:=hq
 clear hq
 unfold Q3G at hm
 try dsimp only at hm
 refine Q5 (Q5 ?_)
 obtain ⟨cF,hm,hLj_2⟩:=Q6 hm
 refine QI (σ:=Bool) (fun b5=>cF = b5) (fun b5=>[(8,.int .i64 ((b0:Nat):Int)),(7,.slice aQ aS aR),(4,.pointer (some ⟨g4,0,none⟩)),(0,.pointer (some ⟨bE,0,none⟩)),(2,.bool bJ),(24,.bool b5)]) (fun b5=>[.sli 5 Qi bF bG bI]) (fun b5=>[.own 59 5 Q2x (.slice aQ aS aR) aK,.blk g4 [.int .u8 a6,.string a7,.int .i64 a8,.int .i64 a9,.slice bF bI.length bG] 159,.blk bE [.slice b6 b7 b8,.slice b9 bA bB,.slice s a0 z,.int .i64 a3,.int .i64 aE,.int .i64 aF] 206,.own 69 2 Qf (.slice b6 b7 b8) l0,.own 52 5 Qe (.slice b9 bA bB) l1,.own 9 1 Q1y (.slice s a0 z) j]) ?_ ?_
 refine Q1 (wP Z (wF Z Q1s (wD 1 4 Z Q1U Q2b Z (wN Z Q1Q (wP Z (QH (d:=16) (v':=.bool (decide (b0 < bI.length))) (S':=V9 ..) Z Z (Q2z (a:=b0) (b:=bI.length)) (wP Z ?_)))))))
 refine Qt (d:=17) (S':=V10 ..) Z Z (fun bR=>?_) (fun bR=>?_)
 replace hm:=QA hm bR
 refine wP Z (wP Z (wF Z Q9x (wF Z Q9v (wD 2 4 Z tS_32 tA_32 Z (wP Z (wP Z (Q3 ?_)))))))
 have hE:=(Zi hm).symm
 refine Q9 (aE == 0) hE [8,7,4,0,2,24] Z (asK [0] Z) Z
 replace hm:=Qz hm bR
 refine wO Z (wO Z (wO Z (wO Z (wO Z (wO Z (wP Z (Q3 ?_)))))))
 have hE:=(Zi hm).symm
 refine Q9 false hE [8,7,4,0,2,24] Z (asK [0] Z) Z
 rintro b5 hE
 try dsimp only
 have hm:=hLj_2
 rw [hE] at hm
 refine Qj Z (fun bS=>?_) (fun bS=>?_)
 replace hm:=QA hm bS
 refine Q2 [8,7,4,0,2] (S':=V5 ..) Z (Qq (Q4 (Q5 (Qw (Q5 (Q1 (wF Z Q1s (wD 1 4 Z Q1U Q2b Z (wP Z ?_)))))))))
 obtain ⟨aJ,cG,hm⟩:=Q6 hm
 refine Q1F 0 b0 Z Z Z Zq Z Z Z Z Z cG Q1Q QQ (fun d8 d9 d5 cT=>(Q22 Q1t 1 Z (fun bN cH _=>?_)))
 subst cH
 refine Q21 1 0 Z Z Z Zq Z Z Z (cs:=V5 ..) Z QQ Q1z Z Z (QE Z Z Z Zq Z Q2j Z (fun g9=>(wS 0 0 Z QQ (all':=V5 ..) Z (H':=V7 ..) Z (Q3 (Q4 (Q2 [9,8,7,4,0,2] (S':=V6 ..) Z (Q5 (Q1 (Q13 Z Z Z Zq Z tZ_59 tP_59 Z (out:=V5 ..) Z (QE Z Z Z Zq Z tZ_59 Z (fun cI=>(wS 0 0 Z Q9A (all':=V5 ..) Z (H':=V8 ..) Z (Q3 (Q4 (Q2 [10,9,8,7,4,0,2] (S':=V7 ..) Z ?_)))))))))))))))
 refine Q5 ?_
 obtain ⟨cJ,hm,hLj_3⟩:=Q6 hm
 unfold Q5H at hm
 refine QI (σ:=Nat × Int × Nat × Int × ByteArray × (List ByteArray) × Int × Int × OA × Nat × Nat) (fun (a1,aA,aB,aC,aD,aL,aV,aW,aM,aN,aO)=>cJ = (a1,aA,aB,aC,aD,aL,aV,aW)) (fun (a1,aA,aB,aC,aD,aL,aV,aW,aM,aN,aO)=>[(10,.pointer (some ⟨cI,0,none⟩)),(8,.int .i64 ((b0:Nat):Int)),(7,.slice aQ aS aR),(4,.pointer (some ⟨g4,0,none⟩)),(0,.pointer (some ⟨bE,0,none⟩)),(2,.bool bJ)]) (fun (a1,aA,aB,aC,aD,aL,aV,aW,aM,aN,aO)=>[.sli 5 Qi bF bG bI]) (fun (a1,aA,aB,aC,aD,aL,aV,aW,aM,aN,aO)=>[.blk cI [.int .u8 ((a1:Nat):Int),.int .i64 aA,.int .u8 ((aB:Nat):Int),.int .i64 aC,.string aD] 59,.own 59 5 Q2x (.slice aQ aS aR) aK,.blk g4 [.int .u8 a6,.string a7,.int .i64 a8,.int .i64 a9,.slice bF bI.length bG] 159,.blk bE [.slice b6 b7 b8,.slice b9 bA bB,.slice aM aO aN,.int .i64 a3,.int .i64 aV,.int .i64 aW] 206,.own 69 2 Qf (.slice b6 b7 b8) l0,.own 52 5 Qe (.slice b9 bA bB) l1,.own 9 1 Q1y (.slice aM aO aN) aL]) ?_ ?_
 refine Q5 (Q1 (wF Z Q2F (wD 1 0 Z Q34 Q6O Z (Q3 (Q4 (Q2 [34,10,9,8,7,4,0,2] (S':=V8 ..) Z (Qw (Q5 (Q1 (wP Z (wP Z (Q3 (Q4 ?_)))))))))))))
 refine Q2 [38,34,10,9,8,7,4,0,2] (S':=V9 ..) Z ?_
 refine Qj Z (fun bT=>?_) (fun bT=>?_)
 replace hm:=QA hm bT
 refine Q2 [10,8,7,4,0,2] (S':=V6 ..) Z (Qq (Qh ?_))
 have hE:=(Zi hm).symm
 refine Qs [0,2,3,4,5,6,7] Z (H':=V7 ..) Z ?_
 refine Q9 (1,0,0,0,(⟨#[]⟩ : ByteArray),j,aE,aF,s,z,a0) hE [10,8,7,4,0,2] Z (asK [3] Z) Z
 replace hm:=Qz hm bT
 refine Q2 [34,10,9,8,7,4,0,2] (S':=V8 ..) Z (Q5 (Q1 (wP Z (wP Z (Q3 (Q4 (Q2 [40,10,9,8,7,4,0,2] (S':=V8 ..) Z ?_)))))))
 refine Qj Z (fun bU=>?_) (fun bU=>?_)
 replace hm:=QA hm bU
 refine Q2 [10,9,8,7,4,0,2] (S':=V7 ..) Z (Q5 (Q1 (wP Z (wF Z Q1V (wD 1 1 Z Q27 Q2E Z ?_)))))
 obtain ⟨cU,cK,hm⟩:=Q6 hm
 refine wC [4,5,6,7] [0,1,2,3] Z fn_228 Z (Q5K N bE b6 b7 b8 l0 b9 bA bB l1 s a0 z j a3 aE aF aJ.text _ cK) (asK [] Z) Z (H':=V4 ..) Z ?_
 rintro _ _ _ ⟨rfl,rfl,rfl⟩
 refine wP Z (Q3 (Q4 (Q2 [11,10,9,8,7,4,0,2] (S':=V8 ..) Z (Q5 (Q1 (wP Z (Q13 Z Z Z Zq Z tZ_59 tP_59 Z (out:=V5 ..) Z (wS 4 0 Z Q9A (all':=V5 ..) Z (H':=V8 ..) Z (Q3 (Q4 (Q2 [11,10,9,8,7,4,0,2] (S':=V8 ..) Z (Q5 (Q1 ?_)))))))))))))
 refine wP Z (wP Z (Q3 (Q4 (Q2 [49,10,9,8,7,4,0,2] (S':=V8 ..) Z ?_))))
 refine Qj Z (fun bV=>?_) (fun bV=>?_)
 replace hm:=QA hm bV
 refine Q2 [10,9,8,7,4,0,2] (S':=V7 ..) Z (Q5 (Q1 (wP Z (wP Z (wP Z (QR 5 0 Z Z Z Zq Z Z Z (cs:=V5 ..) Z QQ Q1z Z Z ?_))))))
 obtain ⟨⟨c2,c3⟩,cL,hm⟩:=Q6 hm
 try dsimp only at hm
 refine wC [0,1,2,3] [4,5,6,7] Z Q6y Z (Q19 N bE b6 b7 b8 l0 b9 bA bB l1 s a0 z j a3 aE aF (!bJ) 213 aJ.kind aJ.text aJ.num aJ.at_ bN.1 bN.2 aJ.kids _ _ cL) (asK [0] Z) Z (H':=V4 ..) Z ?_
 rintro _ _ _ ⟨rfl,rfl,rfl⟩
 refine Q3 (Q4 (Q2 [10,9,8,7,4,0,2] (S':=V7 ..) Z (Q5 ?_)))
 obtain ⟨⟨bL,bM⟩,cM,hm⟩:=Q6 hm
 try dsimp only at hm
 refine Q18 [0,1,2,3,5,6,7] Z Z (fun hok=>(xP hok 0 Z (xP hok 1 Z (xP hok 2 Z (Q8 hok 3 Z Z Z Zq Z Z Z Q7h (Qm hok 7 5 0 Z Z Z Zq Z Z Z Z (cs:=V5 ..) Z QQ Q1z Z Z (xS hok 4 Z (wD 0 2 Z Q6Q Q9q Z (Q3 (QV [0,1,2,3] [5] Z Z (Q7D 3 Z (fun cN _=>(Q4u hok 5 Z Z Z Zq Z Z Z Q2c (Q1D (d:=60) (v':=.int .i64 ((j.length:Nat):Int)) (S':=V13 ..) Z Z (Q4Y cN) (xP hok 6 Z ?_)))))))))))))))
 refine Q1D (d:=61) (v':=.bool (decide (16 ≤ j.length))) (S':=V14 ..) Z Z (natge (a:=j.length) (b:=16)) (xS hok 8 Z (wC [0,1,2,3] [4,5,6,7] Z Q6y Z (Q19 N bE b6 b7 b8 l0 b9 bA bB l1 s a0 z j a3 c2 c3 (decide (16 ≤ j.length)) 204 aJ.kind aJ.text aJ.num aJ.at_ bN.1 bN.2 aJ.kids _ _ cM) (asK [0] Z) Z (H':=V4 ..) Z ?_))
 rintro _ _ _ ⟨rfl,rfl,rfl⟩
 refine Q3 (QV [0,1,2,3] [] Z Z (Q11 hok Z (Q4 (Q2 [10,9,8,7,4,0,2] (S':=V7 ..) Z (Q5 (Q1 (wP Z (wP Z (wF Z Q7h (wD 0 2 Z Q6Q Q9q Z (Q15 3 Z (fun cO _=>(wN Z Q2c (QH (d:=68) (v':=.int .i64 ((j.length:Nat):Int)) (S':=V11 ..) Z Z (Q4Y cO) ?_))))))))))))))
 refine Q13 Z Z Z Zq Z tZ_59 tP_59 Z (out:=V5 ..) Z (wS 4 0 Z Q9A (all':=V5 ..) Z (H':=V8 ..) Z (Q3 (Q4 (Q2 [10,9,8,7,4,0,2] (S':=V7 ..) Z ?_))))
 obtain ⟨b1,hm⟩:=Qu hm
 obtain ⟨bH,hm⟩:=Qu hm
 refine Q18 [0,2,3,4,7,8,11,12] Z Z (fun hok=>(xP hok 0 Z (xP hok 2 Z (xP hok 3 Z (Q8 hok 4 Z Z Z Zq Z Z Z Q7h (Q8 hok 7 Z Z Z Zq Z Z Z Q1V (Qm hok 8 5 1 Z Z Z Zq Z Z Z Z (cs:=[_]) Z Q27 Q2E Z Z ?_)))))))
 refine wx_step3 hok 1 5 9 Z Z Z Z Z Z Z Z ?_ ?_ ?_
 ·
  refine Qy Z Z Z Zq Z Q2c Q27 tZ_9 Z (zs:=[]) (by kernel_rfl) Z (out:=[]) Z (fun bW=>(Q3 (QV [0,1,2,3] [6] Z Z ?_)))
  refine Q3n hok 5 9 Z Z Z Z Z Z ?_ ?_
  rotate_left
  focus
   refine Qy Z Z Z Zq Z Q2c Q27 tZ_9 Z (zs:=[.string ((⟨#[]⟩ : ByteArray))]) (by kernel_rfl) Z (out:=[_]) Z (fun bO=>(Q3 (QV [0,1,2,3] [] Z Z (xS hok 5 Z (wD 2 2 Z Q6Q Q9q Z (Q3 (QV [0,1,2,3] [7] Z Z (xS hok 6 Z (Q2f (sz:=1) (m:=0) Q1y [] 1 Z (fun F w hφ=>Z) Z (by decide) (H':=V10 ..) Z (Q15 5 Z (fun q _=>?_)))))))))))
   subst q
   refine Q7w 1 5 Z Z Z Zq Z Z Z Z Z Q2c tR_9 Z Z (Nat.le_trans b1 (by decide)) (Nat.le_trans (Nat.mul_le_mul_right _ b1) (by decide)) (H2:=fun b3 b4=>[_,.own 9 1 Q1y (.slice b3 (j).length b4) j,_,_,_,_,_,_,_,_]) (fun _ _=>Z) (fun b3 b4=>(Q3 (QV [0,1,2,3] [7] Z Z ?_)))
  rotate_right
  focus
   refine wD 1 2 Z Q6Q Q9q Z (Q3 (QV [0,1,2,3] [6] Z Z ?_))
   refine Q3n hok 6 9 Z Z Z Z Z Z ?_ ?_
   rotate_left
   focus
    refine Qy Z Z Z Zq Z Q2c Q27 tZ_9 Z (zs:=[.string ((⟨#[]⟩ : ByteArray))]) (by kernel_rfl) Z (out:=[_]) Z (fun bO=>(Q3 (QV [0,1,2,3] [] Z Z (xS hok 6 Z (Q2f (sz:=1) (m:=0) Q1y [] 1 Z (fun F w hφ=>Z) Z (by decide) (H':=V10 ..) Z (Q15 5 Z (fun q _=>?_)))))))
    subst q
    refine Q7w 1 5 Z Z Z Zq Z Z Z Z Z Q2c tR_9 Z Z (Nat.le_trans b1 (by decide)) (Nat.le_trans (Nat.mul_le_mul_right _ b1) (by decide)) (H2:=fun b3 b4=>[_,.own 9 1 Q1y (.slice b3 (j).length b4) j,_,_,_,_,_,_,_,_]) (fun _ _=>Z) (fun b3 b4=>(Q3 (QV [0,1,2,3] [7] Z Z ?_)))
   rotate_right
   focus
    refine Q2f (sz:=1) (m:=0) Q1y [] 0 Z (fun F w hφ=>Z) Z (by decide) (H':=V9 ..) Z (Q15 4 Z (fun q _=>?_))
    subst q
    refine Q7w 0 4 Z Z Z Zq Z Z Z Z Z Q2c tR_9 Z Z (Nat.le_trans b1 (by decide)) (Nat.le_trans (Nat.mul_le_mul_right _ b1) (by decide)) (H2:=fun b3 b4=>[.own 9 1 Q1y (.slice b3 (j).length b4) j,_,_,_,_,_,_,_,_]) (fun _ _=>Z) (fun b3 b4=>(Q3 (QV [0,1,2,3] [6] Z Z (xS hok 9 Z (Qy Z Z Z Zq Z Q2c Q27 tZ_9 Z (zs:=[.string ((⟨#[]⟩ : ByteArray))]) (by kernel_rfl) Z (out:=[_]) Z (fun bO=>(Q3 (QV [0,1,2,3] [] Z Z ?_))))))))
  all_goals
   refine xS hok 10 Z (Q1S [aJ.text] 1 0 Z Z Z Zq Z Z Z Z Z (fun F w hφ=>⟨[.string aJ.text],[],Z,Z,⟨(),Z,Qr⟩,Z⟩) Q2c tR_9 Z Z (Nat.le_trans bH (by decide)) (Nat.le_trans (Nat.mul_le_mul_right _ bH) (by decide)) (H2:=fun bC bD=>[_,.own 9 1 Q1y (.slice bC ((j ++ [aJ.text]).length) bD) (j ++ [aJ.text]),_,_,_,_,_,_,_,_]) (fun _ _=>Z) (fun bC bD=>(Q2s 0 Z (H':=V9 ..) Z (Q3 (QV [0,1,2,3] [6] Z Z (xP hok 11 Z (Q8 hok 12 Z Z Z Zq Z Z Z Q7h (xS hok 13 Z (wS 1 2 Z Q6Q (all':=V6 ..) Z (H':=V9 ..) Z (Q3 (QV [0,1,2,3] [] Z Z (Q11 hok Z (Qh ?_)))))))))))))
   have hE:=(Zi hm).symm
   refine Qs [5,7,8,1,2,3,0] Z (H':=V7 ..) Z ?_
   refine Q9 (2,((j.length:Nat):Int),0,0,(⟨#[]⟩ : ByteArray),j ++ [aJ.text],bL,bM,bC,bD,(j ++ [aJ.text]).length) hE [10,8,7,4,0,2] Z (asK [3] Z) Z
 ·
  refine wD 0 2 Z Q6Q Q9q Z (Q3 (QV [0,1,2,3] [5] Z Z ?_))
  refine Q3n hok 1 9 Z Z Z Z Z Z ?_ ?_
  rotate_left
  focus
   refine Qy Z Z Z Zq Z Q2c Q27 tZ_9 Z (zs:=[.string ((⟨#[]⟩ : ByteArray))]) (by kernel_rfl) Z (out:=[_]) Z (fun bO=>(Q3 (QV [0,1,2,3] [] Z Z (xS hok 1 Z (Qy Z Z Z Zq Z Q2c Q27 tZ_9 Z (zs:=[]) (by kernel_rfl) Z (out:=[]) Z (fun bW=>(Q3 (QV [0,1,2,3] [7] Z Z (xS hok 6 Z (Q2f (sz:=1) (m:=0) Q1y [] 0 Z (fun F w hφ=>Z) Z (by decide) (H':=V10 ..) Z (Q15 5 Z (fun q _=>?_))))))))))))
   subst q
   refine Q7w 0 5 Z Z Z Zq Z Z Z Z Z Q2c tR_9 Z Z (Nat.le_trans b1 (by decide)) (Nat.le_trans (Nat.mul_le_mul_right _ b1) (by decide)) (H2:=fun b3 b4=>[.own 9 1 Q1y (.slice b3 (j).length b4) j,_,_,_,_,_,_,_,_,_]) (fun _ _=>Z) (fun b3 b4=>(Q3 (QV [0,1,2,3] [7] Z Z (xS hok 10 Z (Q1S [aJ.text] 0 1 Z Z Z Zq Z Z Z Z Z (fun F w hφ=>⟨[.string aJ.text],[],Z,Z,⟨(),Z,Qr⟩,Z⟩) Q2c tR_9 Z Z (Nat.le_trans bH (by decide)) (Nat.le_trans (Nat.mul_le_mul_right _ bH) (by decide)) (H2:=fun bC bD=>[.own 9 1 Q1y (.slice bC ((j ++ [aJ.text]).length) bD) (j ++ [aJ.text]),_,_,_,_,_,_,_,_,_]) (fun _ _=>Z) (fun bC bD=>(Q2s 1 Z (H':=V9 ..) Z ?_)))))))
  rotate_right
  focus
   refine Qy Z Z Z Zq Z Q2c Q27 tZ_9 Z (zs:=[]) (by kernel_rfl) Z (out:=[]) Z (fun bW=>(Q3 (QV [0,1,2,3] [6] Z Z ?_)))
   refine Q3n hok 6 9 Z Z Z Z Z Z ?_ ?_
   rotate_left
   focus
    refine Qy Z Z Z Zq Z Q2c Q27 tZ_9 Z (zs:=[.string ((⟨#[]⟩ : ByteArray))]) (by kernel_rfl) Z (out:=[_]) Z (fun bO=>(Q3 (QV [0,1,2,3] [] Z Z (xS hok 6 Z (Q2f (sz:=1) (m:=0) Q1y [] 1 Z (fun F w hφ=>Z) Z (by decide) (H':=V10 ..) Z (Q15 5 Z (fun q _=>?_)))))))
    subst q
    refine Q7w 1 5 Z Z Z Zq Z Z Z Z Z Q2c tR_9 Z Z (Nat.le_trans b1 (by decide)) (Nat.le_trans (Nat.mul_le_mul_right _ b1) (by decide)) (H2:=fun b3 b4=>[_,.own 9 1 Q1y (.slice b3 (j).length b4) j,_,_,_,_,_,_,_,_]) (fun _ _=>Z) (fun b3 b4=>(Q3 (QV [0,1,2,3] [7] Z Z ?_)))
   rotate_right
   focus
    refine Q2f (sz:=1) (m:=0) Q1y [] 0 Z (fun F w hφ=>Z) Z (by decide) (H':=V9 ..) Z (Q15 4 Z (fun q _=>?_))
    subst q
    refine Q7w 0 4 Z Z Z Zq Z Z Z Z Z Q2c tR_9 Z Z (Nat.le_trans b1 (by decide)) (Nat.le_trans (Nat.mul_le_mul_right _ b1) (by decide)) (H2:=fun b3 b4=>[.own 9 1 Q1y (.slice b3 (j).length b4) j,_,_,_,_,_,_,_,_]) (fun _ _=>Z) (fun b3 b4=>(Q3 (QV [0,1,2,3] [6] Z Z (xS hok 9 Z (Qy Z Z Z Zq Z Q2c Q27 tZ_9 Z (zs:=[.string ((⟨#[]⟩ : ByteArray))]) (by kernel_rfl) Z (out:=[_]) Z (fun bO=>(Q3 (QV [0,1,2,3] [] Z Z ?_))))))))
   all_goals
    refine xS hok 10 Z (Q1S [aJ.text] 1 0 Z Z Z Zq Z Z Z Z Z (fun F w hφ=>⟨[.string aJ.text],[],Z,Z,⟨(),Z,Qr⟩,Z⟩) Q2c tR_9 Z Z (Nat.le_trans bH (by decide)) (Nat.le_trans (Nat.mul_le_mul_right _ bH) (by decide)) (H2:=fun bC bD=>[_,.own 9 1 Q1y (.slice bC ((j ++ [aJ.text]).length) bD) (j ++ [aJ.text]),_,_,_,_,_,_,_,_]) (fun _ _=>Z) (fun bC bD=>(Q2s 0 Z (H':=V9 ..) Z ?_)))
  all_goals
   refine Q3 (QV [0,1,2,3] [6] Z Z (xP hok 11 Z (Q8 hok 12 Z Z Z Zq Z Z Z Q7h (xS hok 13 Z (wS 1 2 Z Q6Q (all':=V6 ..) Z (H':=V9 ..) Z (Q3 (QV [0,1,2,3] [] Z Z (Q11 hok Z (Qh ?_)))))))))
   have hE:=(Zi hm).symm
   refine Qs [5,7,8,1,2,3,0] Z (H':=V7 ..) Z ?_
   refine Q9 (2,((j.length:Nat):Int),0,0,(⟨#[]⟩ : ByteArray),j ++ [aJ.text],bL,bM,bC,bD,(j ++ [aJ.text]).length) hE [10,8,7,4,0,2] Z (asK [3] Z) Z
 ·
  refine Qy Z Z Z Zq Z Q2c Q27 tZ_9 Z (zs:=[.string ((⟨#[]⟩ : ByteArray))]) (by kernel_rfl) Z (out:=[_]) Z (fun bO=>(Q3 (QV [0,1,2,3] [] Z Z ?_)))
  refine Q3n hok 1 5 Z Z Z Z Z Z ?_ ?_
  rotate_left
  focus
   refine wD 1 2 Z Q6Q Q9q Z (Q3 (QV [0,1,2,3] [6] Z Z (xS hok 1 Z (Qy Z Z Z Zq Z Q2c Q27 tZ_9 Z (zs:=[]) (by kernel_rfl) Z (out:=[]) Z (fun bW=>?_)))))
  rotate_right
  focus
   refine Qy Z Z Z Zq Z Q2c Q27 tZ_9 Z (zs:=[]) (by kernel_rfl) Z (out:=[]) Z (fun bW=>(Q3 (QV [0,1,2,3] [7] Z Z (xS hok 5 Z (wD 2 2 Z Q6Q Q9q Z ?_)))))
  all_goals
   refine Q3 (QV [0,1,2,3] [7] Z Z (xS hok 6 Z (Q2f (sz:=1) (m:=0) Q1y [] 0 Z (fun F w hφ=>Z) Z (by decide) (H':=V10 ..) Z (Q15 5 Z (fun q _=>?_)))))
   subst q
   refine Q7w 0 5 Z Z Z Zq Z Z Z Z Z Q2c tR_9 Z Z (Nat.le_trans b1 (by decide)) (Nat.le_trans (Nat.mul_le_mul_right _ b1) (by decide)) (H2:=fun b3 b4=>[.own 9 1 Q1y (.slice b3 (j).length b4) j,_,_,_,_,_,_,_,_,_]) (fun _ _=>Z) (fun b3 b4=>(Q3 (QV [0,1,2,3] [7] Z Z (xS hok 10 Z (Q1S [aJ.text] 0 1 Z Z Z Zq Z Z Z Z Z (fun F w hφ=>⟨[.string aJ.text],[],Z,Z,⟨(),Z,Qr⟩,Z⟩) Q2c tR_9 Z Z (Nat.le_trans bH (by decide)) (Nat.le_trans (Nat.mul_le_mul_right _ bH) (by decide)) (H2:=fun bC bD=>[.own 9 1 Q1y (.slice bC ((j ++ [aJ.text]).length) bD) (j ++ [aJ.text]),_,_,_,_,_,_,_,_,_]) (fun _ _=>Z) (fun bC bD=>(Q2s 1 Z (H':=V9 ..) Z (Q3 (QV [0,1,2,3] [6] Z Z (xP hok 11 Z (Q8 hok 12 Z Z Z Zq Z Z Z Q7h (xS hok 13 Z (wS 1 2 Z Q6Q (all':=V6 ..) Z (H':=V9 ..) Z (Q3 (QV [0,1,2,3] [] Z Z ?_)))))))))))))))
   refine Q11 hok Z (Qh ?_)
   have hE:=(Zi hm).symm
   refine Qs [5,7,8,1,2,3,0] Z (H':=V7 ..) Z ?_
   refine Q9 (2,((j.length:Nat):Int),0,0,(⟨#[]⟩ : ByteArray),j ++ [aJ.text],bL,bM,bC,bD,(j ++ [aJ.text]).length) hE [10,8,7,4,0,2] Z (asK [3] Z) Z
 replace hm:=Qz hm bV
 refine Q2 [10,8,7,4,0,2] (S':=V6 ..) Z (Qq (Qh ?_))
 have hE:=(Zi hm).symm
 refine Qs [4,6,7,0,1,2,3] Z (H':=V7 ..) Z ?_
 refine Q9 (3,cU,0,0,(⟨#[]⟩ : ByteArray),j,aE,aF,s,z,a0) hE [10,8,7,4,0,2] Z (asK [3] Z) Z
 replace hm:=Qz hm bU
 refine Q2 [10,9,8,7,4,0,2] (S':=V7 ..) Z (Q1 (QR 1 0 Z Z Z Zq Z Z Z (cs:=V5 ..) Z QQ Q1z Z Z ?_))
 obtain ⟨⟨c4,c5,c6⟩,cP,hm⟩:=Q6 hm
 try dsimp only at hm
 refine wC [] [0,1,2,3,4,5,6,7] Z fn_229 Z (Q6T N aJ.kind aJ.text aJ.num aJ.at_ bN.1 bN.2 aJ.kids _ _ _ cP) (asK [0] Z) Z (H':=V8 ..) Z ?_
 rintro _ _ _ ⟨rfl,rfl,rfl⟩
 refine Q13 Z Z Z Zq Z tZ_59 tP_59 Z (out:=V5 ..) Z (wS 0 0 Z Q9A (all':=V5 ..) Z (H':=V8 ..) Z (Q3 (Qh ?_)))
 have hE:=(Zi hm).symm
 refine Qs [0,2,3,4,5,6,7] Z (H':=V7 ..) Z ?_
 refine Q9 (4,0,c4,c5,c6,j,aE,aF,s,z,a0) hE [10,8,7,4,0,2] Z (asK [3] Z) Z
 rintro ⟨a1,aA,aB,aC,aD,aL,aV,aW,aM,aN,aO⟩ hE
 try dsimp only
 have hm:=hLj_3
 rw [hE] at hm
 try dsimp only at hm
 refine Q1 (wP Z (QR 0 0 Z Z Z Zq Z Z Z (cs:=V5 ..) Z Q9A tA_59 Z Z (Qy Z Z Z Zq Z tE_60 Q9A tZ_59 Z (zs:=[.int .u8 0,.int .i64 0,.int .u8 0,.int .i64 0,.string ((⟨#[]⟩ : ByteArray))]) (by kernel_rfl) Z (out:=V5 ..) Z (fun dA=>?_))))
 obtain ⟨bY,hm⟩:=Qu hm
 refine Q1S ([(⟨(((a1:Nat):Int)),aA,(⟨(((aB:Nat):Int)),aC,aD⟩ : V)⟩ : Q3B)]) 2 0 Z Z Z Zq Z Z Z Z Z (fun F w hφ=>⟨[.int .u8 ((a1:Nat):Int),.int .i64 aA,.int .u8 ((aB:Nat):Int),.int .i64 aC,.string aD],[],Z,Z,⟨(),Z,Qr⟩,Z⟩) tE_60 tR_59 Z Z (Nat.le_trans bY (by decide)) (Nat.le_trans (Nat.mul_le_mul_right _ bY) (by decide)) (H2:=fun c7 c8=>[_,_,.own 59 5 Q2x (.slice c7 ((aK ++ ([(⟨(((a1:Nat):Int)),aA,(⟨(((aB:Nat):Int)),aC,aD⟩ : V)⟩ : Q3B)])).length) c8) (aK ++ ([(⟨(((a1:Nat):Int)),aA,(⟨(((aB:Nat):Int)),aC,aD⟩ : V)⟩ : Q3B)])),_,_,_,_,_]) (fun _ _=>Z) (fun c7 c8=>(Q2s 0 Z (H':=V7 ..) Z (Q1b (S':=V9 ..) Z Z Z Z Z (Q3 (Qh (Q4 (Q2 [7,8,4,0,2] (S':=V5 ..) Z (Q1 (wP Z (wP Z ?_))))))))))
 obtain ⟨cQ,hm⟩:=Qu hm
 refine QH (d:=26) (v':=.int .i64 ((b0 + 1:Nat):Int)) (S':=V6 ..) Z Z (Q1J (a:=b0) (b:=1) cQ) (Q1b (S':=V6 ..) Z Z Z Z Z (Q3 ?_))
 have hE:=(Zi hm).symm
 replace hE:=QO hLu1 hE
 refine Qs [1,2,3,4,5,6] Z (H':=V6 ..) Z ?_
 refine Q1a (_,b0 + 1,(aK ++ ([(⟨(((a1:Nat):Int)),aA,(⟨(((aB:Nat):Int)),aC,aD⟩ : V)⟩ : Q3B)])),aL,aV,aW,c7,c8,((aK ++ ([(⟨(((a1:Nat):Int)),aA,(⟨(((aB:Nat):Int)),aC,aD⟩ : V)⟩ : Q3B)])).length),aM,aN,aO) (Nat.lt_succ_self _) hE [8,7,4,0,2] Z (asK [0] Z) Z
 replace hm:=Qz hm bS
 refine Q2 [7] (S':=[_]) Z (Q1x (Qk (Qk (QJ ?_))))
 have hE:=(Zi hm).symm
 replace hE:=Qv hLu1 hE
 refine Qs [0,2,3,4,5] Z (H':=V5 ..) Z ?_
 refine Q9 (aK,j,aE,aF,aQ,aR,aS,s,z,a0) hE [7] Z (asK [] Z) Z
 rintro ⟨b2,aP,aT,aU,aX,aY,aZ,aG,aH,aI⟩ hE
 try dsimp only
 have hm:=hLj_1
 rw [hE] at hm
 try dsimp only at hm
 refine Q5 (Q1 (wP Z (wP Z (Q3 (Q4 (Q2 [6] (S':=[_]) Z (Qb ?_)))))))
 have hE:=(Zi hm).symm
 obtain ⟨hE0,hF1⟩:=Prod.mk.inj hE
 obtain ⟨hE1,hF2⟩:=Prod.mk.inj hF1
 obtain ⟨hE2,hE3⟩:=Prod.mk.inj hF2
 clear hE hF1 hF2
 replace hE0:=hE0.symm
 subst hE0
 replace hE1:=hE1.symm
 subst hE1
 replace hE2:=hE2.symm
 subst hE2
 replace hE3:=hE3.symm
 subst hE3
 refine Ql (Hr:=V5 ..) [0,1,2,3,4] Tryz.results209 (Qc Z) ⟨aX,aY,aZ,aG,aH,aI,Z,Z,Z⟩ (asK [] Z) Z Z (.inl Z)
theorem Qaz (N:Nat) (a0:ByteArray) (a1:Int) (o0:Int) (o1:Bool) (hm:Q6r N a0 a1 = some (o0,o1)):Q1o Tryz.prog 230 [.string a0,.int .i64 a1] [] [] (fun v Φr Hr=>v = .tuple #[.int .u8 o0,.bool o1] ∧ Φr = [] ∧ Hr = []):=by
 unfold Q6r at hm
 refine QD Tryz.func230 Z Tryz.ntmps230 Z (S:=[_,_]) Z (fun C=>(Q5 (Q1 (wP Z (wP Z (Q3 (Q4 (Q2 [0,1] (S':=[_,_]) Z (Q5 (Q5 (Q1 (wP Z (wP Z (Q3 ?_))))))))))))))
 refine Q4 (Q2 [10,0] (S':=[_,_]) Z ?_)
 refine Qj Z (fun s=>?_) (fun s=>?_)
 replace hm:=QA hm s
 refine Q2 [0] (S':=[_]) Z (Q5 (Q5 (Q1 (wP Z (wP Z (Q3 (Q4 (Q2 [12] (S':=[_]) Z ?_))))))))
 refine Qj Z (fun z=>?_) (fun z=>?_)
 replace hm:=QA hm z
 refine Q2 [] (S':=[]) Z (Q5 (Q1 (wP Z (wP Z (Q3 (Q4 (Qb (Q7 (Q7 ?_)))))))))
 have hE:=(Zi hm).symm
 obtain ⟨hE0,hE1⟩:=Prod.mk.inj hE
 clear hE
 replace hE0:=hE0.symm
 subst hE0
 replace hE1:=hE1.symm
 subst hE1
 refine Q1r (Hr:=[]) [] Tryz.results230 (Qc Z) (Qc Z) ⟨Z,Z,Z⟩ (asK [] Z) Z Z (.inl Z)
 replace hm:=Qz hm z
 refine Q2 [] (S':=[]) Z (Qq (Q4 (Q5 (Q1 (wP Z (wP Z (Q3 (Q4 (Qb (Q7 ?_))))))))))
 have hE:=(Zi hm).symm
 obtain ⟨hE0,hE1⟩:=Prod.mk.inj hE
 clear hE
 replace hE0:=hE0.symm
 subst hE0
 replace hE1:=hE1.symm
 subst hE1
 refine Q1r (Hr:=[]) [] Tryz.results230 (Qc Z) (Qc Z) ⟨Z,Z,Z⟩ (asK [] Z) Z Z (.inl Z)
 replace hm:=Qz hm s
 refine Q2 [0] (S':=[_]) Z (Qq (Q4 (Q5 (Q1 (Qy Z Z Z Zq Z Q2c Q27 tZ_9 Z (zs:=[.string ((⟨#[]⟩ : ByteArray)),.string ((⟨#[]⟩ : ByteArray)),.string ((⟨#[]⟩ : ByteArray)),.string ((⟨#[]⟩ : ByteArray)),.string ((⟨#[]⟩ : ByteArray)),.string ((⟨#[]⟩ : ByteArray)),.string ((⟨#[]⟩ : ByteArray)),.string ((⟨#[]⟩ : ByteArray)),.string ((⟨#[]⟩ : ByteArray))]) (by kernel_rfl) Z (out:=V9 ..) Z (fun aC=>(wP Z (Q3 (Q4 (Q2 [6,0] (S':=[_,_]) Z (Q5 (Q1 (Qy Z Z Z Zq Z tE_272 tS_62 tZ_62 Z (zs:=[.int .u8 0,.int .u8 0,.int .u8 0,.int .u8 0,.int .u8 0,.int .u8 0,.int .u8 0,.int .u8 0,.int .u8 0]) (by kernel_rfl) Z (out:=V9 ..) Z (fun aD=>(wP Z ?_)))))))))))))))
 refine Q3 (Q4 (Q2 [7,6,0] (S':=V3 ..) Z (Q5 ?_)))
 obtain ⟨a8,hm,hLj_1⟩:=Q1w hm
 refine QI (σ:=Unit) (fun _=>a8 = .inl ()) (fun _=>[(0,.string a0)]) (fun _=>[]) (fun _=>[]) ?_ ?_
 refine Q5 (Q1 (wP Z (Q3 (Q4 (Qw (wc_row (sz:=1) (m:=9) R_u8 ([1,2,3,5,6,7,8,9,10]) 0 Z (fun F w hφ=>⟨[.int .u8 1],[.int .u8 2,.int .u8 3,.int .u8 5,.int .u8 6,.int .u8 7,.int .u8 8,.int .u8 9,.int .u8 10],Z,Z,⟨(),Z,Qr⟩,⟨[.int .u8 2],[.int .u8 3,.int .u8 5,.int .u8 6,.int .u8 7,.int .u8 8,.int .u8 9,.int .u8 10],Z,Z,⟨(),Z,Qr⟩,⟨[.int .u8 3],[.int .u8 5,.int .u8 6,.int .u8 7,.int .u8 8,.int .u8 9,.int .u8 10],Z,Z,⟨(),Z,Qr⟩,⟨[.int .u8 5],[.int .u8 6,.int .u8 7,.int .u8 8,.int .u8 9,.int .u8 10],Z,Z,⟨(),Z,Qr⟩,⟨[.int .u8 6],[.int .u8 7,.int .u8 8,.int .u8 9,.int .u8 10],Z,Z,⟨(),Z,Qr⟩,⟨[.int .u8 7],[.int .u8 8,.int .u8 9,.int .u8 10],Z,Z,⟨(),Z,Qr⟩,⟨[.int .u8 8],[.int .u8 9,.int .u8 10],Z,Z,⟨(),Z,Qr⟩,⟨[.int .u8 9],[.int .u8 10],Z,Z,⟨(),Z,Qr⟩,⟨[.int .u8 10],[],Z,Z,⟨(),Z,Qr⟩,Z⟩⟩⟩⟩⟩⟩⟩⟩⟩) Z (by decide) (H':=[_,_]) Z (wc_row (sz:=1) (m:=9) Q1y ([(⟨#[43]⟩ : ByteArray),(⟨#[45]⟩ : ByteArray),(⟨#[42]⟩ : ByteArray),(⟨#[61]⟩ : ByteArray),(⟨#[33,61]⟩ : ByteArray),(⟨#[60]⟩ : ByteArray),(⟨#[60,61]⟩ : ByteArray),(⟨#[97,110,100]⟩ : ByteArray),(⟨#[111,114]⟩ : ByteArray)]) 1 Z (fun F w hφ=>⟨[.string ((⟨#[43]⟩ : ByteArray))],[.string ((⟨#[45]⟩ : ByteArray)),.string ((⟨#[42]⟩ : ByteArray)),.string ((⟨#[61]⟩ : ByteArray)),.string ((⟨#[33,61]⟩ : ByteArray)),.string ((⟨#[60]⟩ : ByteArray)),.string ((⟨#[60,61]⟩ : ByteArray)),.string ((⟨#[97,110,100]⟩ : ByteArray)),.string ((⟨#[111,114]⟩ : ByteArray))],Z,Z,⟨(),Z,Qr⟩,⟨[.string ((⟨#[45]⟩ : ByteArray))],[.string ((⟨#[42]⟩ : ByteArray)),.string ((⟨#[61]⟩ : ByteArray)),.string ((⟨#[33,61]⟩ : ByteArray)),.string ((⟨#[60]⟩ : ByteArray)),.string ((⟨#[60,61]⟩ : ByteArray)),.string ((⟨#[97,110,100]⟩ : ByteArray)),.string ((⟨#[111,114]⟩ : ByteArray))],Z,Z,⟨(),Z,Qr⟩,⟨[.string ((⟨#[42]⟩ : ByteArray))],[.string ((⟨#[61]⟩ : ByteArray)),.string ((⟨#[33,61]⟩ : ByteArray)),.string ((⟨#[60]⟩ : ByteArray)),.string ((⟨#[60,61]⟩ : ByteArray)),.string ((⟨#[97,110,100]⟩ : ByteArray)),.string ((⟨#[111,114]⟩ : ByteArray))],Z,Z,⟨(),Z,Qr⟩,⟨[.string ((⟨#[61]⟩ : ByteArray))],[.string ((⟨#[33,61]⟩ : ByteArray)),.string ((⟨#[60]⟩ : ByteArray)),.string ((⟨#[60,61]⟩ : ByteArray)),.string ((⟨#[97,110,100]⟩ : ByteArray)),.string ((⟨#[111,114]⟩ : ByteArray))],Z,Z,⟨(),Z,Qr⟩,⟨[.string ((⟨#[33,61]⟩ : ByteArray))],[.string ((⟨#[60]⟩ : ByteArray)),.string ((⟨#[60,61]⟩ : ByteArray)),.string ((⟨#[97,110,100]⟩ : ByteArray)),.string ((⟨#[111,114]⟩ : ByteArray))],Z,Z,⟨(),Z,Qr⟩,⟨[.string ((⟨#[60]⟩ : ByteArray))],[.string ((⟨#[60,61]⟩ : ByteArray)),.string ((⟨#[97,110,100]⟩ : ByteArray)),.string ((⟨#[111,114]⟩ : ByteArray))],Z,Z,⟨(),Z,Qr⟩,⟨[.string ((⟨#[60,61]⟩ : ByteArray))],[.string ((⟨#[97,110,100]⟩ : ByteArray)),.string ((⟨#[111,114]⟩ : ByteArray))],Z,Z,⟨(),Z,Qr⟩,⟨[.string ((⟨#[97,110,100]⟩ : ByteArray))],[.string ((⟨#[111,114]⟩ : ByteArray))],Z,Z,⟨(),Z,Qr⟩,⟨[.string ((⟨#[111,114]⟩ : ByteArray))],[],Z,Z,⟨(),Z,Qr⟩,Z⟩⟩⟩⟩⟩⟩⟩⟩⟩) Z (by decide) (H':=[_,_]) Z (Q1E (σ:=Nat × Nat) (fun (q,j)=>Q1M (Q55 N a0) q j = some a8) (fun (q,j)=>q) (fun (q,j)=>[(8,.int .i64 ((j:Nat):Int)),(7,.slice (some ⟨aD,0,none⟩) ([1,2,3,5,6,7,8,9,10].length) 9),(6,.slice (some ⟨aC,0,none⟩) ([(⟨#[43]⟩ : ByteArray),(⟨#[45]⟩ : ByteArray),(⟨#[42]⟩ : ByteArray),(⟨#[61]⟩ : ByteArray),(⟨#[33,61]⟩ : ByteArray),(⟨#[60]⟩ : ByteArray),(⟨#[60,61]⟩ : ByteArray),(⟨#[97,110,100]⟩ : ByteArray),(⟨#[111,114]⟩ : ByteArray)].length) 9),(0,.string a0)]) (fun (q,j)=>[]) (fun (q,j)=>[.own 62 1 R_u8 (.slice (some ⟨aD,0,none⟩) ([1,2,3,5,6,7,8,9,10].length) 9) ([1,2,3,5,6,7,8,9,10]),.own 9 1 Q1y (.slice (some ⟨aC,0,none⟩) ([(⟨#[43]⟩ : ByteArray),(⟨#[45]⟩ : ByteArray),(⟨#[42]⟩ : ByteArray),(⟨#[61]⟩ : ByteArray),(⟨#[33,61]⟩ : ByteArray),(⟨#[60]⟩ : ByteArray),(⟨#[60,61]⟩ : ByteArray),(⟨#[97,110,100]⟩ : ByteArray),(⟨#[111,114]⟩ : ByteArray)].length) 9) ([(⟨#[43]⟩ : ByteArray),(⟨#[45]⟩ : ByteArray),(⟨#[42]⟩ : ByteArray),(⟨#[61]⟩ : ByteArray),(⟨#[33,61]⟩ : ByteArray),(⟨#[60]⟩ : ByteArray),(⟨#[60,61]⟩ : ByteArray),(⟨#[97,110,100]⟩ : ByteArray),(⟨#[111,114]⟩ : ByteArray)])]) (N,0) hm [8,7,6,0] Z (asK [] Z) Z (fun s_ hm=>?_)))))))))
 obtain ⟨q,j⟩:=s_
 try dsimp only at hm ⊢
 obtain ⟨aL,aM,aE,hq,hLu1⟩:=Q1e hm
 clear hm
 subst aE
 replace hm:=hq
 clear hq
 unfold Q55 at hm
 try dsimp only at hm
 refine Q5 (Q5 (Q1 (wP Z (wP Z (wN Z Q2c (wP Z (QH (d:=18) (v':=.bool (decide (j < ([(⟨#[43]⟩ : ByteArray),(⟨#[45]⟩ : ByteArray),(⟨#[42]⟩ : ByteArray),(⟨#[61]⟩ : ByteArray),(⟨#[33,61]⟩ : ByteArray),(⟨#[60]⟩ : ByteArray),(⟨#[60,61]⟩ : ByteArray),(⟨#[97,110,100]⟩ : ByteArray),(⟨#[111,114]⟩ : ByteArray)].length)))) (S':=V7 ..) Z Z (Q2z (a:=j) (b:=[(⟨#[43]⟩ : ByteArray),(⟨#[45]⟩ : ByteArray),(⟨#[42]⟩ : ByteArray),(⟨#[61]⟩ : ByteArray),(⟨#[33,61]⟩ : ByteArray),(⟨#[60]⟩ : ByteArray),(⟨#[60,61]⟩ : ByteArray),(⟨#[97,110,100]⟩ : ByteArray),(⟨#[111,114]⟩ : ByteArray)].length)) (Q3 (Q4 (Q2 [18,8,7,6,0] (S':=V5 ..) Z ?_))))))))))
 refine Qj Z (fun a5=>?_) (fun a5=>?_)
 replace hm:=QA hm a5
 refine Q2 [8,7,6,0] (S':=V4 ..) Z (Qq (Q4 (Q5 (Qw (Q5 (Q1 (wP Z (wP Z ?_))))))))
 obtain ⟨aG,a9,hm⟩:=Q6 hm
 refine Q6X 1 j Z Z Z Zq Z Z Z Z Z (Q2t a9) Q2c Q27 (Q1T Q5E 1 j 0 Z Z Z Zq Z Z Z a9 Q27 Q2E (v:=fun _=>.string aG) (fun _=>Z) (fun _=>Z) (fun _ _=>(wP Z (wP Z (Q3 (Q4 (Q2 [26,8,7,6,0] (S':=V5 ..) Z ?_)))))))
 refine Qj Z (fun a6=>?_) (fun a6=>?_)
 replace hm:=QA hm a6
 refine Q2 [8,7] (S':=[_,_]) Z (Q5 (Q1 (wP Z (wP Z ?_))))
 obtain ⟨aH,aA,hm⟩:=Q6 hm
 refine Q6X 0 j Z Z Z Zq Z Z Z Z Z (Q2t aA) tE_272 tS_62 (Q1T R_u8_opens 0 j 0 Z Z Z Zq Z Z Z aA tS_62 tA_62 (v:=fun _=>.int .u8 aH) (fun _=>Z) (fun _=>Z) (fun _ _=>(wP Z (wP Z (Q3 (Q4 (Q2 [5,4] (S':=[_,_]) Z (Qb (Qg (Q7 (Q7 (Qg (Q7 ?_)))))))))))))
 have hE:=(Zi hm).symm
 replace hE:=Qv hLu1 hE
 replace hE:=Qv hLj_1 hE
 obtain ⟨hE0,hE1⟩:=Prod.mk.inj hE
 clear hE
 replace hE0:=hE0.symm
 subst hE0
 replace hE1:=hE1.symm
 subst hE1
 refine Q1r (Hr:=[]) [] Tryz.results230 (Qc Z) (Qc Z) ⟨Z,Z,Z⟩ (asK [] Z) Z Z (.inl Z)
 replace hm:=Qz hm a6
 refine Q2 [8,7,6,0] (S':=V4 ..) Z (Qq (Qh (Q4 (Q1 (wP Z (wP Z ?_))))))
 obtain ⟨aF,hm⟩:=Qu hm
 refine QH (d:=20) (v':=.int .i64 ((j + 1:Nat):Int)) (S':=V5 ..) Z Z (Q1J (a:=j) (b:=1) aF) (Q1b (S':=V5 ..) Z Z Z Z Z (Q3 ?_))
 have hE:=(Zi hm).symm
 replace hE:=QO hLu1 hE
 refine Q1a (_,j + 1) (Nat.lt_succ_self _) hE [8,7,6,0] Z (asK [] Z) Z
 replace hm:=Qz hm a5
 refine Q2 [0] (S':=[_]) Z (Q1x (Qk (Qk (QJ ?_))))
 have hE:=(Zi hm).symm
 replace hE:=Qv hLu1 hE
 refine Qs [] Z (H':=[]) Z ?_
 refine Q9 () hE [0] Z (asK [] Z) Z
 rintro _ hE
 try dsimp only
 have hm:=QO hLj_1 hE
 try dsimp only at hm
 refine Q5 (Q5 (Q1 (wP Z (wP Z (Q3 (Q4 (Q2 [32] (S':=[_]) Z ?_)))))))
 refine Qj Z (fun a7=>?_) (fun a7=>?_)
 replace hm:=QA hm a7
 refine Q2 [] (S':=[]) Z (Q5 (Q1 (wP Z (wP Z (Q3 (Q4 (Qb (Q7 ?_))))))))
 have hE:=(Zi hm).symm
 obtain ⟨hE0,hE1⟩:=Prod.mk.inj hE
 clear hE
 replace hE0:=hE0.symm
 subst hE0
 replace hE1:=hE1.symm
 subst hE1
 refine Q1r (Hr:=[]) [] Tryz.results230 (Qc Z) (Qc Z) ⟨Z,Z,Z⟩ (asK [] Z) Z Z (.inl Z)
 replace hm:=Qz hm a7
 refine Q2 [] (S':=[]) Z (Qq (Q4 (Q5 (Q1 (wP Z (wP Z (Q3 (Q4 (Qb ?_)))))))))
 have hE:=(Zi hm).symm
 obtain ⟨hE0,hE1⟩:=Prod.mk.inj hE
 clear hE
 replace hE0:=hE0.symm
 subst hE0
 replace hE1:=hE1.symm
 subst hE1
 refine Q1r (Hr:=[]) [] Tryz.results230 (Qc Z) (Qc Z) ⟨Z,Z,Z⟩ (asK [] Z) Z Z (.inl Z)
theorem Q7O (N:Nat) (rc:(List Qn) → (List Qp) → (List ByteArray) → Int → Int → Int → Int → ByteArray → Int → Int → (List Qa) → Option (Nat × Nat × Int × ByteArray × Int × Int × (List Qo) × Int × Int)) (ih : ∀ (aX:Nat) (aH:OA) (aI:Nat) (aJ:Nat) (l0:List Qn) (aK:OA) (aL:Nat) (aM:Nat) (l1:List Qp) (aN:OA) (aO:Nat) (aP:Nat) (l2:List ByteArray) (a3:Int) (a4:Int) (a5:Int) (a6:Int) (a7:ByteArray) (a8:Int) (a9:Int) (aY:OA) (aZ:Nat) (bB:List Qa) (o0:Nat) (o1:Nat) (o2:Int) (o3:ByteArray) (o4:Int) (o5:Int) (o8:List Qo) (o9:Int) (bN:Int),rc l0 l1 l2 a3 a4 a5 a6 a7 a8 a9 bB = some (o0,o1,o2,o3,o4,o5,o8,o9,bN) → Q1o Tryz.prog 210 [.pointer (some ⟨aX,0,none⟩),.agg #[.int .u8 a6,.string a7,.int .i64 a8,.int .i64 a9,.slice aY bB.length aZ]] [.sli 5 Qi aY aZ bB] [.blk aX [.slice aH aI aJ,.slice aK aL aM,.slice aN aO aP,.int .i64 a3,.int .i64 a4,.int .i64 a5] 206,.own 69 2 Qf (.slice aH aI aJ) l0,.own 52 5 Qe (.slice aK aL aM) l1,.own 9 1 Q1y (.slice aN aO aP) l2] (fun v Φr Hr=>∃ (o6:OA) (o7:Nat),v = .agg #[.int .u8 ((o0:Nat):Int),.int .u8 ((o1:Nat):Int),.int .i64 o2,.string o3,.int .i64 o4,.int .u8 o5,.slice o6 o8.length o7] ∧ Φr = [.sli 7 QB o6 o7 o8] ∧ Hr = [.blk aX [.slice aH aI aJ,.slice aK aL aM,.slice aN aO aP,.int .i64 a3,.int .i64 o9,.int .i64 bN] 206,.own 69 2 Qf (.slice aH aI aJ) l0,.own 52 5 Qe (.slice aK aL aM) l1,.own 9 1 Q1y (.slice aN aO aP) l2])) (aX:Nat) (aH:OA) (aI:Nat) (aJ:Nat) (l0:List Qn) (aK:OA) (aL:Nat) (aM:Nat) (l1:List Qp) (aN:OA) (aO:Nat) (aP:Nat) (l2:List ByteArray) (a3:Int) (a4:Int) (a5:Int) (aY:OA) (aZ:Nat) (l6:List Qa) (o2:List Qo) (o4:Int) (o5:Int) (hm:Q3u N rc l0 l1 l2 a3 a4 a5 l6 = some (o2,o4,o5)):Q1o Tryz.prog 211 [.pointer (some ⟨aX,0,none⟩),.slice aY l6.length aZ] [.sli 5 Qi aY aZ l6] [.blk aX [.slice aH aI aJ,.slice aK aL aM,.slice aN aO aP,.int .i64 a3,.int .i64 a4,.int .i64 a5] 206,.own 69 2 Qf (.slice aH aI aJ) l0,.own 52 5 Qe (.slice aK aL aM) l1,.own 9 1 Q1y (.slice aN aO aP) l2] (fun v Φr Hr=>∃ (o0:OA) (o1:Nat) (o3:Nat),v = .slice o0 o3 o1 ∧ Φr = [] ∧ Hr = [.own 65 7 QB (.slice o0 o3 o1) o2,.blk aX [.slice aH aI aJ,.slice aK aL aM,.slice aN aO aP,.int .i64 a3,.int .i64 o4,.int .i64 o5] 206,.own 69 2 Qf (.slice aH aI aJ) l0,.own 52 5 Qe (.slice aK aL aM) l1,.own 9 1 Q1y (.slice aN aO aP) l2]):=by
 unfold Q3u at hm
 refine QD Tryz.func211 Z Tryz.ntmps211 Z (S:=[_,_]) Z (fun C=>(Q5 (Q1 (wP Z (Q3 (Q4 (Q2 [0,1] (S':=[_,_]) Z (Q5 (Q1 (wP Z (Q3 (Q4 (Q5 ?_)))))))))))))
 obtain ⟨b9,hm,hLj_1⟩:=Q6 hm
 refine QI (σ:=(List Qo) × Int × Int × OA × Nat × Nat) (fun (aF,z,a0,a1,aA,aB)=>b9 = (aF,z,a0)) (fun (aF,z,a0,a1,aA,aB)=>[(5,.slice a1 aB aA)]) (fun (aF,z,a0,a1,aA,aB)=>[]) (fun (aF,z,a0,a1,aA,aB)=>[.own 65 7 QB (.slice a1 aB aA) aF,.blk aX [.slice aH aI aJ,.slice aK aL aM,.slice aN aO aP,.int .i64 a3,.int .i64 z,.int .i64 a0] 206,.own 69 2 Qf (.slice aH aI aJ) l0,.own 52 5 Qe (.slice aK aL aM) l1,.own 9 1 Q1y (.slice aN aO aP) l2]) ?_ ?_
 refine Q5 (Q1 (wP Z (Q3 (Q4 (Qw (Q3i 65 7 QB (Q1E (σ:=Nat × Nat × (List Qo) × Int × Int × OA × Nat × Nat) (fun (b0,aG,j,q,s,aC,aD,aE)=>Q1M (Q33 N l6 rc l0 l1 l2 a3) b0 (aG,j,q,s) = some b9) (fun (b0,aG,j,q,s,aC,aD,aE)=>b0) (fun (b0,aG,j,q,s,aC,aD,aE)=>[(6,.int .i64 ((aG:Nat):Int)),(5,.slice aC aE aD),(0,.pointer (some ⟨aX,0,none⟩)),(1,.slice aY l6.length aZ)]) (fun (b0,aG,j,q,s,aC,aD,aE)=>[.sli 5 Qi aY aZ l6]) (fun (b0,aG,j,q,s,aC,aD,aE)=>[.own 65 7 QB (.slice aC aE aD) j,.blk aX [.slice aH aI aJ,.slice aK aL aM,.slice aN aO aP,.int .i64 a3,.int .i64 q,.int .i64 s] 206,.own 69 2 Qf (.slice aH aI aJ) l0,.own 52 5 Qe (.slice aK aL aM) l1,.own 9 1 Q1y (.slice aN aO aP) l2]) (N,0,[],a4,a5,none,0,0) hm [6,5,0,1] Z (asK [0] Z) Z (fun s_ hm=>?_))))))))
 obtain ⟨b0,aG,j,q,s,aC,aD,aE⟩:=s_
 try dsimp only at hm ⊢
 obtain ⟨c4,c5,bO,hq,hLu1⟩:=Q1e hm
 clear hm
 subst bO
 replace hm:=hq
 clear hq
 unfold Q33 at hm
 try dsimp only at hm
 refine Q5 (Q5 (Q1 (wP Z (wP Z (wN Z Q1Q (wP Z (QH (d:=11) (v':=.bool (decide (aG < l6.length))) (S':=V7 ..) Z Z (Q2z (a:=aG) (b:=l6.length)) (Q3 (Q4 (Q2 [11,6,5,0,1] (S':=V5 ..) Z ?_))))))))))
 refine Qj Z (fun b4=>?_) (fun b4=>?_)
 replace hm:=QA hm b4
 refine Q2 [6,5,0,1] (S':=V4 ..) Z (Qq (Q4 (Q5 (Qw (Q5 (Q1 (wP Z (wP Z (wP Z ?_)))))))))
 obtain ⟨b5,bP,hm⟩:=Q6 hm
 refine Q1F 0 aG Z Z Z Zq Z Z Z Z Z bP Q1Q QQ (fun c6 c7 c3 bV=>(Q22 Q1t 1 Z (fun bQ bR _=>?_)))
 subst bR
 refine Q21 1 0 Z Z Z Zq Z Z Z (cs:=V5 ..) Z QQ Q1z Z Z ?_
 obtain ⟨⟨aQ,aR,aS,aT,aU,aV,aW,bC,bD⟩,bS,hm⟩:=Q6 hm
 try dsimp only at hm
 refine wC [1,2,3,4] [0] Z fn_210 Z (ih aX aH aI aJ l0 aK aL aM l1 aN aO aP l2 a3 q s b5.kind b5.text b5.num b5.at_ bQ.1 bQ.2 b5.kids _ _ _ _ _ _ _ _ _ bS) (asK [0] Z) Z (H':=[_]) Z ?_
 rintro _ _ _ ⟨b6,b7,rfl,rfl,rfl⟩
 refine QE Z Z Z Zq Z tZ_65 Z (fun g7=>(wS 0 0 Z Q2S (all':=V7 ..) Z (H':=V6 ..) Z (Q3 (Q4 (Q2 [7,6,5,0,1] (S':=V5 ..) Z (Q1 (wP Z (QR 0 0 Z Z Z Zq Z Z Z (cs:=V7 ..) Z Q2S Q5J Z Z (Qy Z Z Z Zq Z Q66 Q2S tZ_65 Z (zs:=[.int .u8 0,.int .u8 0,.int .i64 0,.string ((⟨#[]⟩ : ByteArray)),.int .i64 0,.int .u8 0,V1]) (by kernel_rfl) Z (out:=V7 ..) Z (fun c8=>?_))))))))))
 obtain ⟨bA,hm⟩:=Qu hm
 refine Q1S ([(⟨(((aQ:Nat):Int)),(⟨(((aR:Nat):Int)),aS,aT⟩ : V),aU,aV,aW⟩ : Qo)]) 6 0 Z Z Z Zq Z Z Z Z Z (fun F w hφ=>⟨[.int .u8 ((aQ:Nat):Int),.int .u8 ((aR:Nat):Int),.int .i64 aS,.string aT,.int .i64 aU,.int .u8 aV,.slice b6 aW.length b7],[],Z,Z,(Q3d (b6,b7) Z (QS (hφ _ (Q10 (k:=0) Z)) Qr)),Z⟩) Q66 tR_65 Z Z (Nat.le_trans bA (by decide)) (Nat.le_trans (Nat.mul_le_mul_right _ bA) (by decide)) (H2:=fun bE bF=>[_,_,_,_,_,_,.own 65 7 QB (.slice bE ((j ++ ([(⟨(((aQ:Nat):Int)),(⟨(((aR:Nat):Int)),aS,aT⟩ : V),aU,aV,aW⟩ : Qo)])).length) bF) (j ++ ([(⟨(((aQ:Nat):Int)),(⟨(((aR:Nat):Int)),aS,aT⟩ : V),aU,aV,aW⟩ : Qo)]))]) (fun _ _=>Z) (fun bE bF=>(Q2s 0 Z (H':=V6 ..) Z (Q1b (S':=V8 ..) Z Z Z Z Z (Q3 (Qh (Q4 (Q2 [5,6,0,1] (S':=V4 ..) Z (Q1 (wP Z (wP Z ?_))))))))))
 obtain ⟨bT,hm⟩:=Qu hm
 refine QH (d:=13) (v':=.int .i64 ((aG + 1:Nat):Int)) (S':=V5 ..) Z Z (Q1J (a:=aG) (b:=1) bT) (Q1b (S':=V5 ..) Z Z Z Z Z (Q3 ?_))
 have hE:=(Zi hm).symm
 replace hE:=QO hLu1 hE
 refine Qs [5,1,2,3,4] Z (H':=V5 ..) Z ?_
 refine Q1a (_,aG + 1,(j ++ ([(⟨(((aQ:Nat):Int)),(⟨(((aR:Nat):Int)),aS,aT⟩ : V),aU,aV,aW⟩ : Qo)])),bC,bD,bE,bF,((j ++ ([(⟨(((aQ:Nat):Int)),(⟨(((aR:Nat):Int)),aS,aT⟩ : V),aU,aV,aW⟩ : Qo)])).length)) (Nat.lt_succ_self _) hE [6,5,0,1] Z (asK [4] Z) Z
 replace hm:=Qz hm b4
 refine Q2 [5] (S':=[_]) Z (Q1x (Qk (Qk (QJ ?_))))
 have hE:=(Zi hm).symm
 replace hE:=Qv hLu1 hE
 refine Q9 (j,q,s,aC,aD,aE) hE [5] Z (asK [] Z) Z
 rintro ⟨aF,z,a0,a1,aA,aB⟩ hE
 try dsimp only
 have hm:=hLj_1
 rw [hE] at hm
 try dsimp only at hm
 refine Q5 (Q1 (wP Z (wP Z (Q3 (Q4 (Q2 [4] (S':=[_]) Z (Qb ?_)))))))
 have hE:=(Zi hm).symm
 obtain ⟨hE0,hF1⟩:=Prod.mk.inj hE
 obtain ⟨hE1,hE2⟩:=Prod.mk.inj hF1
 clear hE hF1
 replace hE0:=hE0.symm
 subst hE0
 replace hE1:=hE1.symm
 subst hE1
 replace hE2:=hE2.symm
 subst hE2
 refine Ql (Hr:=V5 ..) [0,1,2,3,4] Tryz.results211 (Qc Z) ⟨a1,aA,aB,Z,Z,Z⟩ (asK [] Z) Z Z (.inl Z)
theorem Q8e (N:Nat) (rc:(List Qn) → (List Qp) → (List ByteArray) → Int → Int → Int → Int → ByteArray → Int → Int → (List Qa) → Option (Nat × Nat × Int × ByteArray × Int × Int × (List Qo) × Int × Int)) (ih : ∀ (aO:Nat) (aC:OA) (aD:Nat) (aE:Nat) (l0:List Qn) (aF:OA) (aG:Nat) (aH:Nat) (l1:List Qp) (aI:OA) (aJ:Nat) (aK:Nat) (l2:List ByteArray) (a3:Int) (a4:Int) (a5:Int) (a6:Int) (a7:ByteArray) (a8:Int) (a9:Int) (aL:OA) (aM:Nat) (aP:List Qa) (o0:Nat) (o1:Nat) (o2:Int) (o3:ByteArray) (o4:Int) (o5:Int) (o8:List Qo) (o9:Int) (aV:Int),rc l0 l1 l2 a3 a4 a5 a6 a7 a8 a9 aP = some (o0,o1,o2,o3,o4,o5,o8,o9,aV) → Q1o Tryz.prog 210 [.pointer (some ⟨aO,0,none⟩),.agg #[.int .u8 a6,.string a7,.int .i64 a8,.int .i64 a9,.slice aL aP.length aM]] [.sli 5 Qi aL aM aP] [.blk aO [.slice aC aD aE,.slice aF aG aH,.slice aI aJ aK,.int .i64 a3,.int .i64 a4,.int .i64 a5] 206,.own 69 2 Qf (.slice aC aD aE) l0,.own 52 5 Qe (.slice aF aG aH) l1,.own 9 1 Q1y (.slice aI aJ aK) l2] (fun v Φr Hr=>∃ (o6:OA) (o7:Nat),v = .agg #[.int .u8 ((o0:Nat):Int),.int .u8 ((o1:Nat):Int),.int .i64 o2,.string o3,.int .i64 o4,.int .u8 o5,.slice o6 o8.length o7] ∧ Φr = [.sli 7 QB o6 o7 o8] ∧ Hr = [.blk aO [.slice aC aD aE,.slice aF aG aH,.slice aI aJ aK,.int .i64 a3,.int .i64 o9,.int .i64 aV] 206,.own 69 2 Qf (.slice aC aD aE) l0,.own 52 5 Qe (.slice aF aG aH) l1,.own 9 1 Q1y (.slice aI aJ aK) l2])) (aO:Nat) (aC:OA) (aD:Nat) (aE:Nat) (l0:List Qn) (aF:OA) (aG:Nat) (aH:Nat) (l1:List Qp) (aI:OA) (aJ:Nat) (aK:Nat) (l2:List ByteArray) (a3:Int) (a4:Int) (a5:Int) (a6:Int) (a7:ByteArray) (a8:Int) (a9:Int) (aL:OA) (aM:Nat) (aP:List Qa) (o0:Nat) (o1:Nat) (o2:Int) (o3:ByteArray) (o4:Int) (o5:Int) (o8:List Qo) (o9:Int) (aV:Int) (hm:Q40 N rc l0 l1 l2 a3 a4 a5 a6 a7 a8 a9 aP = some (o0,o1,o2,o3,o4,o5,o8,o9,aV)):Q1o Tryz.prog 210 [.pointer (some ⟨aO,0,none⟩),.agg #[.int .u8 a6,.string a7,.int .i64 a8,.int .i64 a9,.slice aL aP.length aM]] [.sli 5 Qi aL aM aP] [.blk aO [.slice aC aD aE,.slice aF aG aH,.slice aI aJ aK,.int .i64 a3,.int .i64 a4,.int .i64 a5] 206,.own 69 2 Qf (.slice aC aD aE) l0,.own 52 5 Qe (.slice aF aG aH) l1,.own 9 1 Q1y (.slice aI aJ aK) l2] (fun v Φr Hr=>∃ (o6:OA) (o7:Nat),v = .agg #[.int .u8 ((o0:Nat):Int),.int .u8 ((o1:Nat):Int),.int .i64 o2,.string o3,.int .i64 o4,.int .u8 o5,.slice o6 o8.length o7] ∧ Φr = [.sli 7 QB o6 o7 o8] ∧ Hr = [.blk aO [.slice aC aD aE,.slice aF aG aH,.slice aI aJ aK,.int .i64 a3,.int .i64 o9,.int .i64 aV] 206,.own 69 2 Qf (.slice aC aD aE) l0,.own 52 5 Qe (.slice aF aG aH) l1,.own 9 1 Q1y (.slice aI aJ aK) l2]):=by
 unfold Q40 at hm
 refine QD Tryz.func210 Z Tryz.ntmps210 Z (S:=[_,_]) Z (fun C=>(Q5 (Q1 (wB Z (fun g3=>(QE Z Z Z Zq Z tZ_65 Z (fun g4=>(Q3 (Q4 (Q2 [4,3,0] (S':=V3 ..) Z (Q5 (Q5 (Q1 (wF Z Q2F (wD 1 0 Z Q34 Q6O Z (Q3 ?_))))))))))))))))
 refine Q4 (Q2 [10,4,3,0] (S':=V4 ..) Z (Qw (Q5 ?_)))
 obtain ⟨bM,hm,hLj_1⟩:=Q6 hm
 refine QI (σ:=Bool) (fun aB=>bM = aB) (fun aB=>[(10,.int .u8 a6),(4,.pointer (some ⟨g4,0,none⟩)),(3,.pointer (some ⟨g3,0,none⟩)),(0,.pointer (some ⟨aO,0,none⟩)),(11,.bool aB)]) (fun aB=>[.sli 5 Qi aL aM aP]) (fun aB=>[.blk g4 [.int .u8 0,.int .u8 0,.int .i64 0,.string ((⟨#[]⟩ : ByteArray)),.int .i64 0,.int .u8 0,V1] 65,.blk g3 [.int .u8 a6,.string a7,.int .i64 a8,.int .i64 a9,.slice aL aP.length aM] 159,.blk aO [.slice aC aD aE,.slice aF aG aH,.slice aI aJ aK,.int .i64 a3,.int .i64 a4,.int .i64 a5] 206,.own 69 2 Qf (.slice aC aD aE) l0,.own 52 5 Qe (.slice aF aG aH) l1,.own 9 1 Q1y (.slice aI aJ aK) l2]) ?_ ?_
 refine Q5 (Q1 (wP Z (wP Z (Q3 (Q4 (Q2 [11,10,4,3,0] (S':=V5 ..) Z ?_))))))
 refine Qj Z (fun aQ=>?_) (fun aQ=>?_)
 replace hm:=QA hm aQ
 refine Qq ?_
 have hE:=(Zi hm).symm
 refine Q9 (a6 == 14) hE [10,4,3,0,11] Z (asK [0] Z) Z
 replace hm:=Qz hm aQ
 refine Q2 [10,4,3,0] (S':=V4 ..) Z (Q1 (wP Z (wP Z (Q3 ?_))))
 have hE:=(Zi hm).symm
 refine Q9 (a6 == 15) hE [10,4,3,0,11] Z (asK [0] Z) Z
 rintro aB hE
 try dsimp only
 have hm:=hLj_1
 rw [hE] at hm
 refine Qj Z (fun aQ=>?_) (fun aQ=>?_)
 replace hm:=QA hm aQ
 refine Q2 [4,3] (S':=[_,_]) Z (Q5 (Q1 (QR 1 0 Z Z Z Zq Z Z Z (cs:=V5 ..) Z QQ Q1z Z Z ?_)))
 obtain ⟨⟨bV,bW,bX⟩,bN,hm⟩:=Q6 hm
 try dsimp only at hm
 refine wC [] [0,1,2,3,4,5] Z fn_229 Z (Q6T N a6 a7 a8 a9 aL aM aP _ _ _ bN) (asK [0] Z) Z (H':=V6 ..) Z ?_
 rintro _ _ _ ⟨rfl,rfl,rfl⟩
 refine Q13 Z Z Z Zq Z tZ_65 tP_65 Z (out:=V7 ..) Z (wS 0 0 Z Q2S (all':=V7 ..) Z (H':=V6 ..) Z (Q3 (Q4 (Q2 [4] (S':=[_]) Z (Qb (Qg (Q7 ?_)))))))
 have hE:=(Zi hm).symm
 obtain ⟨hE0,hF1⟩:=Prod.mk.inj hE
 obtain ⟨hE1,hF2⟩:=Prod.mk.inj hF1
 obtain ⟨hE2,hF3⟩:=Prod.mk.inj hF2
 obtain ⟨hE3,hF4⟩:=Prod.mk.inj hF3
 obtain ⟨hE4,hF5⟩:=Prod.mk.inj hF4
 obtain ⟨hE5,hF6⟩:=Prod.mk.inj hF5
 obtain ⟨hE6,hF7⟩:=Prod.mk.inj hF6
 obtain ⟨hE7,hE8⟩:=Prod.mk.inj hF7
 clear hE hF1 hF2 hF3 hF4 hF5 hF6 hF7
 replace hE0:=hE0.symm
 subst hE0
 replace hE1:=hE1.symm
 subst hE1
 replace hE2:=hE2.symm
 subst hE2
 replace hE3:=hE3.symm
 subst hE3
 replace hE4:=hE4.symm
 subst hE4
 replace hE5:=hE5.symm
 subst hE5
 replace hE6:=hE6.symm
 subst hE6
 replace hE7:=hE7.symm
 subst hE7
 replace hE8:=hE8.symm
 subst hE8
 refine Q6W (.sli 7 QB none 0 ([] : List Qo)) (fun _ _ _=>Q3Q) ?_
 refine Ql (Hr:=V4 ..) [2,3,4,5] Tryz.results210 (QW 0 Z Z Q2S Q5J Z Z) ⟨none,0,Z,Z,Z⟩ (asK [0] Z) Z Z (.inl Z)
 replace hm:=Qz hm aQ
 refine Q2 [10,4,3,0] (S':=V4 ..) Z (Q5 (Q1 (wP Z (wP Z (Q3 (Q4 (Q2 [17,4,3,0] (S':=V4 ..) Z ?_)))))))
 refine Qj Z (fun aW=>?_) (fun aW=>?_)
 replace hm:=QA hm aW
 refine Q2 [4,3,0] (S':=V3 ..) Z (Q5 (Q1 (wP Z (wF Z Q1V (wD 1 1 Z Q27 Q2E Z ?_)))))
 obtain ⟨bY,bO,hm⟩:=Q6 hm
 refine wC [2,3,4,5] [0,1] Z fn_228 Z (Q5K N aO aC aD aE l0 aF aG aH l1 aI aJ aK l2 a3 a4 a5 a7 _ bO) (asK [] Z) Z (H':=[_,_]) Z ?_
 rintro _ _ _ ⟨rfl,rfl,rfl⟩
 refine wP Z (Q3 (Q4 (Q2 [5,4,3,0] (S':=V4 ..) Z (Q5 (Q1 (wP Z (wP Z (wP Z (QR 5 0 Z Z Z Zq Z Z Z (cs:=V5 ..) Z QQ Q1z Z Z ?_)))))))))
 obtain ⟨⟨bZ,c0⟩,bP,hm⟩:=Q6 hm
 try dsimp only at hm
 refine wC [0,1,2,3] [4,5] Z Q6y Z (Q19 N aO aC aD aE l0 aF aG aH l1 aI aJ aK l2 a3 a4 a5 (decide (bY < 0)) 213 a6 a7 a8 a9 aL aM aP _ _ bP) (asK [0] Z) Z (H':=[_,_]) Z ?_
 rintro _ _ _ ⟨rfl,rfl,rfl⟩
 refine Q3 (Q4 (Q2 [5,4] (S':=[_,_]) Z (Q5 (Q1 (wP Z (Q13 Z Z Z Zq Z tZ_65 tP_65 Z (out:=V7 ..) Z (wS 4 0 Z Q2S (all':=V7 ..) Z (H':=V6 ..) Z (Q3 (Q4 (Q2 [4] (S':=[_]) Z (Qb (Qg (Q7 ?_)))))))))))))
 have hE:=(Zi hm).symm
 obtain ⟨hE0,hF1⟩:=Prod.mk.inj hE
 obtain ⟨hE1,hF2⟩:=Prod.mk.inj hF1
 obtain ⟨hE2,hF3⟩:=Prod.mk.inj hF2
 obtain ⟨hE3,hF4⟩:=Prod.mk.inj hF3
 obtain ⟨hE4,hF5⟩:=Prod.mk.inj hF4
 obtain ⟨hE5,hF6⟩:=Prod.mk.inj hF5
 obtain ⟨hE6,hF7⟩:=Prod.mk.inj hF6
 obtain ⟨hE7,hE8⟩:=Prod.mk.inj hF7
 clear hE hF1 hF2 hF3 hF4 hF5 hF6 hF7
 replace hE0:=hE0.symm
 subst hE0
 replace hE1:=hE1.symm
 subst hE1
 replace hE2:=hE2.symm
 subst hE2
 replace hE3:=hE3.symm
 subst hE3
 replace hE4:=hE4.symm
 subst hE4
 replace hE5:=hE5.symm
 subst hE5
 replace hE6:=hE6.symm
 subst hE6
 replace hE7:=hE7.symm
 subst hE7
 replace hE8:=hE8.symm
 subst hE8
 refine Q6W (.sli 7 QB none 0 ([] : List Qo)) (fun _ _ _=>Q3Q) ?_
 refine Ql (Hr:=V4 ..) [0,1,2,3] Tryz.results210 (QW 4 Z Z Q2S Q5J Z Z) ⟨none,0,Z,Z,Z⟩ (asK [0] Z) Z Z (.inl Z)
 replace hm:=Qz hm aW
 refine Q2 [4,3,0] (S':=V3 ..) Z (Qq (Qh (Q4 (Q5 (Q1 (wF Z Q1V (wD 1 1 Z Q27 Q2E Z (wF Z Q1s (wD 1 4 Z Q1U Q2b Z (wN Z Q1Q ?_))))))))))
 obtain ⟨⟨b9,c1⟩,bQ,hm⟩:=Q6 hm
 try dsimp only at hm
 refine wC [] [0,1,2,3,4,5] Z fn_230 Z (Qaz N a7 ((aP.length:Nat):Int) _ _ bQ) (asK [] Z) Z (H':=V6 ..) Z ?_
 rintro _ _ _ ⟨rfl,rfl,rfl⟩
 refine wP Z (wP Z (wP Z (wP Z (wP Z (Q3 (Q4 (Q2 [7,6,4,3,0] (S':=V5 ..) Z (Q5 (Q1 (wP Z (wF Z Q1s (wD 1 4 Z Q1U Q2b Z ?_))))))))))))
 obtain ⟨⟨aX,bA,bB⟩,bR,hm⟩:=Q6 hm
 try dsimp only at hm
 refine wC [2,3,4,5] [0,1] Z fn_211 Z (Q7O N rc ih aO aC aD aE l0 aF aG aH l1 aI aJ aK l2 a3 a4 a5 aL aM aP _ _ _ bR) (asK [0] Z) Z (H':=[_,_]) Z ?_
 rintro _ _ _ ⟨aY,aZ,c2,rfl,rfl,rfl⟩
 refine wP Z (Q3 (Q4 (Q2 [8,7,6,4] (S':=V4 ..) Z (Q5 ?_))))
 obtain ⟨bS,hm,hLj_2⟩:=Q6 hm
 refine QI (σ:=(List Qo) × OA × Nat) (fun (z,a0,a1)=>bS = z) (fun (z,a0,a1)=>[(8,.slice a0 z.length a1),(6,.int .u8 b9),(4,.pointer (some ⟨g4,0,none⟩))]) (fun (z,a0,a1)=>[.sli 7 QB a0 a1 z]) (fun (z,a0,a1)=>[.blk g4 [.int .u8 0,.int .u8 0,.int .i64 0,.string ((⟨#[]⟩ : ByteArray)),.int .i64 0,.int .u8 0,V1] 65,.blk aO [.slice aC aD aE,.slice aF aG aH,.slice aI aJ aK,.int .i64 a3,.int .i64 bA,.int .i64 bB] 206,.own 69 2 Qf (.slice aC aD aE) l0,.own 52 5 Qe (.slice aF aG aH) l1,.own 9 1 Q1y (.slice aI aJ aK) l2]) ?_ ?_
 refine Q5 (Q1 (wP Z (Q3 (Q4 (Q2 [43,8,6,4] (S':=V4 ..) Z ?_)))))
 refine Qj Z (fun b0=>?_) (fun b0=>?_)
 ·
  replace hm:=QA hm b0
  refine Q2 [8,6,4] (S':=V3 ..) Z ?_
  obtain ⟨q,b1,hm⟩:=Q6 hm
  obtain ⟨j,b2,hm⟩:=Q6 hm
  refine Q18 [0,1,3,4] Z Z (fun hok=>(xP hok 0 Z (Q4M hok 1 0 1 Z Z Z Zq Z Z Z Z Z Z (Q2t b1) Q66 Q2S (fun c4 bT=>?_))))
  subst bT
  refine xP hok 3 Z (wx_indexK hok 4 0 0 Z Z Z Zq Z Z Z Z Z Z (Q2t b2) Q66 Q2S ?_)
  refine Q3n hok 2 5 Z Z Z Z Z Z ?_ ?_
  rotate_left
  focus
   refine Q1T Q36 0 0 0 Z Z Z Zq Z Z Z b2 Q2S Q5J (v:=fun aA=>.agg #[.int .u8 (j.kind),.int .u8 (j.value.k),.int .i64 (j.value.n),.string j.value.s,.int .i64 (j.var),.int .u8 (j.op),.slice aA.1 j.kids.length aA.2]) (fun _=>Z) (fun _=>Z) (fun aA _=>(Q3 (QV [1] [] Z Z (xS hok 2 Z (Q1T Q36 0 1 0 Z Z Z Zq Z Z Z b1 Q2S Q5J (v:=fun aN=>.agg #[.int .u8 (q.kind),.int .u8 (q.value.k),.int .i64 (q.value.n),.string q.value.s,.int .i64 (q.var),.int .u8 (q.op),.slice aN.1 q.kids.length aN.2]) (fun _=>Z) (fun _=>Z) (fun aN _=>(Q3 (QV [1,2] [] Z Z (xS hok 6 Z (Qy Z Z Z Zq Z Q66 Q2S tZ_65 Z (zs:=[.int .u8 0,.int .u8 0,.int .i64 0,.string ((⟨#[]⟩ : ByteArray)),.int .i64 0,.int .u8 0,V1,.int .u8 0,.int .u8 0,.int .i64 0,.string ((⟨#[]⟩ : ByteArray)),.int .i64 0,.int .u8 0,V1]) (by kernel_rfl) Z (out:=V14 ..) Z (fun bC=>(Q3 (QV [0,1,2] [] Z Z (xS hok 7 Z (Q1b (S':=V9 ..) Z Z Z Z Z (Q3 ?_))))))))))))))))
   refine QV [0,1,2] [] Z Z (Q11 hok Z (we_row (sz:=7) (m:=2) QB ([q,j]) 0 Z (fun F w hφ=>⟨[.int .u8 (q.kind),.int .u8 (q.value.k),.int .i64 (q.value.n),.string q.value.s,.int .i64 (q.var),.int .u8 (q.op),.slice aN.1 q.kids.length aN.2],[.int .u8 (j.kind),.int .u8 (j.value.k),.int .i64 (j.value.n),.string j.value.s,.int .i64 (j.var),.int .u8 (j.op),.slice aA.1 j.kids.length aA.2],Z,Z,(Q3d (aN.1,aN.2) Z (QS (hφ _ (Q10 (k:=0) Z)) Qr)),⟨[.int .u8 (j.kind),.int .u8 (j.value.k),.int .i64 (j.value.n),.string j.value.s,.int .i64 (j.var),.int .u8 (j.op),.slice aA.1 j.kids.length aA.2],[],Z,Z,(Q3d (aA.1,aA.2) Z (QS (hφ _ (Q10 (k:=1) Z)) Qr)),Z⟩⟩) Z (by decide) (H':=V8 ..) Z ?_))
  rotate_right
  focus
   refine Q1T Q36 0 1 0 Z Z Z Zq Z Z Z b1 Q2S Q5J (v:=fun aN=>.agg #[.int .u8 (q.kind),.int .u8 (q.value.k),.int .i64 (q.value.n),.string q.value.s,.int .i64 (q.var),.int .u8 (q.op),.slice aN.1 q.kids.length aN.2]) (fun _=>Z) (fun _=>Z) (fun aN _=>(Q3 (QV [1] [] Z Z (xS hok 5 Z (Q1T Q36 0 0 0 Z Z Z Zq Z Z Z b2 Q2S Q5J (v:=fun aA=>.agg #[.int .u8 (j.kind),.int .u8 (j.value.k),.int .i64 (j.value.n),.string j.value.s,.int .i64 (j.var),.int .u8 (j.op),.slice aA.1 j.kids.length aA.2]) (fun _=>Z) (fun _=>Z) (fun aA _=>(Q3 (QV [1,2] [] Z Z (xS hok 6 Z (Qy Z Z Z Zq Z Q66 Q2S tZ_65 Z (zs:=[.int .u8 0,.int .u8 0,.int .i64 0,.string ((⟨#[]⟩ : ByteArray)),.int .i64 0,.int .u8 0,V1,.int .u8 0,.int .u8 0,.int .i64 0,.string ((⟨#[]⟩ : ByteArray)),.int .i64 0,.int .u8 0,V1]) (by kernel_rfl) Z (out:=V14 ..) Z (fun bC=>(Q3 (QV [0,1,2] [] Z Z (xS hok 7 Z (Q1b (S':=V9 ..) Z Z Z Z Z (Q3 ?_))))))))))))))))
   refine QV [0,1,2] [] Z Z (Q11 hok Z (we_row (sz:=7) (m:=2) QB ([q,j]) 0 Z (fun F w hφ=>⟨[.int .u8 (q.kind),.int .u8 (q.value.k),.int .i64 (q.value.n),.string q.value.s,.int .i64 (q.var),.int .u8 (q.op),.slice aN.1 q.kids.length aN.2],[.int .u8 (j.kind),.int .u8 (j.value.k),.int .i64 (j.value.n),.string j.value.s,.int .i64 (j.var),.int .u8 (j.op),.slice aA.1 j.kids.length aA.2],Z,Z,(Q3d (aN.1,aN.2) Z (QS (hφ _ (Q10 (k:=1) Z)) Qr)),⟨[.int .u8 (j.kind),.int .u8 (j.value.k),.int .i64 (j.value.n),.string j.value.s,.int .i64 (j.var),.int .u8 (j.op),.slice aA.1 j.kids.length aA.2],[],Z,Z,(Q3d (aA.1,aA.2) Z (QS (hφ _ (Q10 (k:=0) Z)) Qr)),Z⟩⟩) Z (by decide) (H':=V8 ..) Z ?_))
  all_goals
   refine Q8g 0 Z (H':=V7 ..) Z (Q6W (.sli 7 QB (some ⟨bC,0,none⟩) 2 ([q,j])) (fun F w hφ=>Q1K (hφ _ (Q10 (k:=0) Z))) ?_)
   have hE:=(Zi hm).symm
   refine Qs [5,1,2,3,4] Z (H':=V5 ..) Z ?_
   refine Q9 ([q,j],some ⟨bC,0,none⟩,2) hE [8,6,4] Z (asK [0] Z) Z
 replace hm:=Qz hm b0
 refine Q2 [8,6,4] (S':=V3 ..) Z (Qq ?_)
 have hE:=(Zi hm).symm
 refine we_ownLen 0 Z (fun b3 _=>?_)
 subst b3
 refine Q8g 0 Z (H':=V6 ..) Z (Q6W (.sli 7 QB aY aZ aX) (fun F w hφ=>Q1K (hφ _ (Q10 (k:=0) Z))) (Qs [4,0,1,2,3] Z (H':=V5 ..) Z ?_))
 refine Q9 (aX,aY,aZ) hE [8,6,4] Z (asK [0] Z) Z
 rintro ⟨z,a0,a1⟩ hE
 try dsimp only
 have hm:=hLj_2
 rw [hE] at hm
 refine Q5 (Q1 (wP Z (wP Z (Q13 Z Z Z Zq Z tZ_65 tP_65 Z (out:=V7 ..) Z (wS 0 0 Z Q2S (all':=V7 ..) Z (H':=V5 ..) Z (Q3 (Q4 (Q2 [4] (S':=[_]) Z (Qb ?_)))))))))
 have hE:=(Zi hm).symm
 obtain ⟨hE0,hF1⟩:=Prod.mk.inj hE
 obtain ⟨hE1,hF2⟩:=Prod.mk.inj hF1
 obtain ⟨hE2,hF3⟩:=Prod.mk.inj hF2
 obtain ⟨hE3,hF4⟩:=Prod.mk.inj hF3
 obtain ⟨hE4,hF5⟩:=Prod.mk.inj hF4
 obtain ⟨hE5,hF6⟩:=Prod.mk.inj hF5
 obtain ⟨hE6,hF7⟩:=Prod.mk.inj hF6
 obtain ⟨hE7,hE8⟩:=Prod.mk.inj hF7
 clear hE hF1 hF2 hF3 hF4 hF5 hF6 hF7
 replace hE0:=hE0.symm
 subst hE0
 replace hE1:=hE1.symm
 subst hE1
 replace hE2:=hE2.symm
 subst hE2
 replace hE3:=hE3.symm
 subst hE3
 replace hE4:=hE4.symm
 subst hE4
 replace hE5:=hE5.symm
 subst hE5
 replace hE6:=hE6.symm
 subst hE6
 replace hE7:=hE7.symm
 subst hE7
 replace hE8:=hE8.symm
 subst hE8
 refine Ql (Hr:=V4 ..) [1,2,3,4] Tryz.results210 (QW 0 Z Z Q2S Q5J Z Z) ⟨a0,a1,Z,Z,Z⟩ (asK [0] Z) Z Z (.inl Z)
theorem Q6a : ∀ (N:Nat),∀ (qg0:Nat) (qp1:OA) (qn2:Nat) (qc3:Nat) (l0:List Qn) (qp4:OA) (qn5:Nat) (qc6:Nat) (l1:List Qp) (qp7:OA) (qn8:Nat) (qc9:Nat) (l2:List ByteArray) (a3:Int) (a4:Int) (a5:Int) (a6:Int) (a7:ByteArray) (a8:Int) (a9:Int) (qp10:OA) (qc11:Nat) (l10:List Qa) (o0:Nat) (o1:Nat) (o2:Int) (o3:ByteArray) (o4:Int) (o5:Int) (o8:List Qo) (o9:Int) (o10:Int),Q2D N l0 l1 l2 a3 a4 a5 a6 a7 a8 a9 l10 = some (o0,o1,o2,o3,o4,o5,o8,o9,o10) → Q1o Tryz.prog 210 [.pointer (some ⟨qg0,0,none⟩),.agg #[.int .u8 a6,.string a7,.int .i64 a8,.int .i64 a9,.slice qp10 l10.length qc11]] [.sli 5 Qi qp10 qc11 l10] [.blk qg0 [.slice qp1 qn2 qc3,.slice qp4 qn5 qc6,.slice qp7 qn8 qc9,.int .i64 a3,.int .i64 a4,.int .i64 a5] 206,.own 69 2 Qf (.slice qp1 qn2 qc3) l0,.own 52 5 Qe (.slice qp4 qn5 qc6) l1,.own 9 1 Q1y (.slice qp7 qn8 qc9) l2] (fun v Φr Hr=>∃ (o6:OA) (o7:Nat),v = .agg #[.int .u8 ((o0:Nat):Int),.int .u8 ((o1:Nat):Int),.int .i64 o2,.string o3,.int .i64 o4,.int .u8 o5,.slice o6 o8.length o7] ∧ Φr = [.sli 7 QB o6 o7 o8] ∧ Hr = [.blk qg0 [.slice qp1 qn2 qc3,.slice qp4 qn5 qc6,.slice qp7 qn8 qc9,.int .i64 a3,.int .i64 o9,.int .i64 o10] 206,.own 69 2 Qf (.slice qp1 qn2 qc3) l0,.own 52 5 Qe (.slice qp4 qn5 qc6) l1,.own 9 1 Q1y (.slice qp7 qn8 qc9) l2]):=by
 intro N
 induction N with
 | zero=>intro qg0 qp1 qn2 qc3 l0 qp4 qn5 qc6 l1 qp7 qn8 qc9 l2 a3 a4 a5 a6 a7 a8 a9 qp10 qc11 l10 o0 o1 o2 o3 o4 o5 o8 o9 o10 hm; cases hm
 | succ N ih=>intro qg0 qp1 qn2 qc3 l0 qp4 qn5 qc6 l1 qp7 qn8 qc9 l2 a3 a4 a5 a6 a7 a8 a9 qp10 qc11 l10 o0 o1 o2 o3 o4 o5 o8 o9 o10 hm; exact Q8e N (Q2D N) ih qg0 qp1 qn2 qc3 l0 qp4 qn5 qc6 l1 qp7 qn8 qc9 l2 a3 a4 a5 a6 a7 a8 a9 qp10 qc11 l10 o0 o1 o2 o3 o4 o5 o8 o9 o10 hm
theorem Q5L (N:Nat) (aT:Nat) (aK:OA) (aL:Nat) (aM:Nat) (l0:List Qn) (aN:OA) (aO:Nat) (aP:Nat) (l1:List Qp) (aQ:OA) (aR:Nat) (aS:Nat) (l2:List ByteArray) (a3:Int) (a4:Int) (a5:Int) (aV:OA) (aW:Nat) (l6:List Qa) (o2:List Qo) (o4:Int) (o5:Int) (hm:Q30 N l0 l1 l2 a3 a4 a5 l6 = some (o2,o4,o5)):Q1o Tryz.prog 211 [.pointer (some ⟨aT,0,none⟩),.slice aV l6.length aW] [.sli 5 Qi aV aW l6] [.blk aT [.slice aK aL aM,.slice aN aO aP,.slice aQ aR aS,.int .i64 a3,.int .i64 a4,.int .i64 a5] 206,.own 69 2 Qf (.slice aK aL aM) l0,.own 52 5 Qe (.slice aN aO aP) l1,.own 9 1 Q1y (.slice aQ aR aS) l2] (fun v Φr Hr=>∃ (o0:OA) (o1:Nat) (o3:Nat),v = .slice o0 o3 o1 ∧ Φr = [] ∧ Hr = [.own 65 7 QB (.slice o0 o3 o1) o2,.blk aT [.slice aK aL aM,.slice aN aO aP,.slice aQ aR aS,.int .i64 a3,.int .i64 o4,.int .i64 o5] 206,.own 69 2 Qf (.slice aK aL aM) l0,.own 52 5 Qe (.slice aN aO aP) l1,.own 9 1 Q1y (.slice aQ aR aS) l2]):=by
 unfold Q30 at hm
 refine QD Tryz.func211 Z Tryz.ntmps211 Z (S:=[_,_]) Z (fun C=>(Q5 (Q1 (wP Z (Q3 (Q4 (Q2 [0,1] (S':=[_,_]) Z (Q5 (Q1 (wP Z (Q3 (Q4 (Q5 ?_)))))))))))))
 obtain ⟨b2,hm,hLj_1⟩:=Q6 hm
 refine QI (σ:=(List Qo) × Int × Int × OA × Nat × Nat) (fun (aB,z,a0,a1,a6,a7)=>b2 = (aB,z,a0)) (fun (aB,z,a0,a1,a6,a7)=>[(5,.slice a1 a7 a6)]) (fun (aB,z,a0,a1,a6,a7)=>[]) (fun (aB,z,a0,a1,a6,a7)=>[.own 65 7 QB (.slice a1 a7 a6) aB,.blk aT [.slice aK aL aM,.slice aN aO aP,.slice aQ aR aS,.int .i64 a3,.int .i64 z,.int .i64 a0] 206,.own 69 2 Qf (.slice aK aL aM) l0,.own 52 5 Qe (.slice aN aO aP) l1,.own 9 1 Q1y (.slice aQ aR aS) l2]) ?_ ?_
 refine Q5 (Q1 (wP Z (Q3 (Q4 (Qw (Q3i 65 7 QB (Q1E (σ:=Nat × Nat × (List Qo) × Int × Int × OA × Nat × Nat) (fun (aU,aC,j,q,s,a8,a9,aA)=>Q1M (Q3t N l6 l0 l1 l2 a3) aU (aC,j,q,s) = some b2) (fun (aU,aC,j,q,s,a8,a9,aA)=>aU) (fun (aU,aC,j,q,s,a8,a9,aA)=>[(6,.int .i64 ((aC:Nat):Int)),(5,.slice a8 aA a9),(0,.pointer (some ⟨aT,0,none⟩)),(1,.slice aV l6.length aW)]) (fun (aU,aC,j,q,s,a8,a9,aA)=>[.sli 5 Qi aV aW l6]) (fun (aU,aC,j,q,s,a8,a9,aA)=>[.own 65 7 QB (.slice a8 aA a9) j,.blk aT [.slice aK aL aM,.slice aN aO aP,.slice aQ aR aS,.int .i64 a3,.int .i64 q,.int .i64 s] 206,.own 69 2 Qf (.slice aK aL aM) l0,.own 52 5 Qe (.slice aN aO aP) l1,.own 9 1 Q1y (.slice aQ aR aS) l2]) (N,0,[],a4,a5,none,0,0) hm [6,5,0,1] Z (asK [0] Z) Z (fun s_ hm=>?_))))))))
 obtain ⟨aU,aC,j,q,s,a8,a9,aA⟩:=s_
 try dsimp only at hm ⊢
 obtain ⟨bQ,bR,bB,hq,hLu1⟩:=Q1e hm
 clear hm
 subst bB
 replace hm:=hq
 clear hq
 unfold Q3t at hm
 try dsimp only at hm
 refine Q5 (Q5 (Q1 (wP Z (wP Z (wN Z Q1Q (wP Z (QH (d:=11) (v':=.bool (decide (aC < l6.length))) (S':=V7 ..) Z Z (Q2z (a:=aC) (b:=l6.length)) (Q3 (Q4 (Q2 [11,6,5,0,1] (S':=V5 ..) Z ?_))))))))))
 refine Qj Z (fun aX=>?_) (fun aX=>?_)
 replace hm:=QA hm aX
 refine Q2 [6,5,0,1] (S':=V4 ..) Z (Qq (Q4 (Q5 (Qw (Q5 (Q1 (wP Z (wP Z (wP Z ?_)))))))))
 obtain ⟨aY,bC,hm⟩:=Q6 hm
 refine Q1F 0 aC Z Z Z Zq Z Z Z Z Z bC Q1Q QQ (fun bS bT bP bI=>(Q22 Q1t 1 Z (fun bD bE _=>?_)))
 subst bE
 refine Q21 1 0 Z Z Z Zq Z Z Z (cs:=V5 ..) Z QQ Q1z Z Z ?_
 obtain ⟨⟨aD,aE,aF,aG,aH,aI,aJ,b7,b8⟩,bF,hm⟩:=Q6 hm
 try dsimp only at hm
 refine wC [1,2,3,4] [0] Z fn_210 Z (Q6a N aT aK aL aM l0 aN aO aP l1 aQ aR aS l2 a3 q s aY.kind aY.text aY.num aY.at_ bD.1 bD.2 aY.kids _ _ _ _ _ _ _ _ _ bF) (asK [0] Z) Z (H':=[_]) Z ?_
 rintro _ _ _ ⟨aZ,b0,rfl,rfl,rfl⟩
 refine QE Z Z Z Zq Z tZ_65 Z (fun g7=>(wS 0 0 Z Q2S (all':=V7 ..) Z (H':=V6 ..) Z (Q3 (Q4 (Q2 [7,6,5,0,1] (S':=V5 ..) Z (Q1 (wP Z (QR 0 0 Z Z Z Zq Z Z Z (cs:=V7 ..) Z Q2S Q5J Z Z (Qy Z Z Z Zq Z Q66 Q2S tZ_65 Z (zs:=[.int .u8 0,.int .u8 0,.int .i64 0,.string ((⟨#[]⟩ : ByteArray)),.int .i64 0,.int .u8 0,V1]) (by kernel_rfl) Z (out:=V7 ..) Z (fun bU=>?_))))))))))
 obtain ⟨b3,hm⟩:=Qu hm
 refine Q1S ([(⟨(((aD:Nat):Int)),(⟨(((aE:Nat):Int)),aF,aG⟩ : V),aH,aI,aJ⟩ : Qo)]) 6 0 Z Z Z Zq Z Z Z Z Z (fun F w hφ=>⟨[.int .u8 ((aD:Nat):Int),.int .u8 ((aE:Nat):Int),.int .i64 aF,.string aG,.int .i64 aH,.int .u8 aI,.slice aZ aJ.length b0],[],Z,Z,(Q3d (aZ,b0) Z (QS (hφ _ (Q10 (k:=0) Z)) Qr)),Z⟩) Q66 tR_65 Z Z (Nat.le_trans b3 (by decide)) (Nat.le_trans (Nat.mul_le_mul_right _ b3) (by decide)) (H2:=fun b9 bA=>[_,_,_,_,_,_,.own 65 7 QB (.slice b9 ((j ++ ([(⟨(((aD:Nat):Int)),(⟨(((aE:Nat):Int)),aF,aG⟩ : V),aH,aI,aJ⟩ : Qo)])).length) bA) (j ++ ([(⟨(((aD:Nat):Int)),(⟨(((aE:Nat):Int)),aF,aG⟩ : V),aH,aI,aJ⟩ : Qo)]))]) (fun _ _=>Z) (fun b9 bA=>(Q2s 0 Z (H':=V6 ..) Z (Q1b (S':=V8 ..) Z Z Z Z Z (Q3 (Qh (Q4 (Q2 [5,6,0,1] (S':=V4 ..) Z (Q1 (wP Z (wP Z ?_))))))))))
 obtain ⟨bG,hm⟩:=Qu hm
 refine QH (d:=13) (v':=.int .i64 ((aC + 1:Nat):Int)) (S':=V5 ..) Z Z (Q1J (a:=aC) (b:=1) bG) (Q1b (S':=V5 ..) Z Z Z Z Z (Q3 ?_))
 have hE:=(Zi hm).symm
 replace hE:=QO hLu1 hE
 refine Qs [5,1,2,3,4] Z (H':=V5 ..) Z ?_
 refine Q1a (_,aC + 1,(j ++ ([(⟨(((aD:Nat):Int)),(⟨(((aE:Nat):Int)),aF,aG⟩ : V),aH,aI,aJ⟩ : Qo)])),b7,b8,b9,bA,((j ++ ([(⟨(((aD:Nat):Int)),(⟨(((aE:Nat):Int)),aF,aG⟩ : V),aH,aI,aJ⟩ : Qo)])).length)) (Nat.lt_succ_self _) hE [6,5,0,1] Z (asK [4] Z) Z
 replace hm:=Qz hm aX
 refine Q2 [5] (S':=[_]) Z (Q1x (Qk (Qk (QJ ?_))))
 have hE:=(Zi hm).symm
 replace hE:=Qv hLu1 hE
 refine Q9 (j,q,s,a8,a9,aA) hE [5] Z (asK [] Z) Z
 rintro ⟨aB,z,a0,a1,a6,a7⟩ hE
 try dsimp only
 have hm:=hLj_1
 rw [hE] at hm
 try dsimp only at hm
 refine Q5 (Q1 (wP Z (wP Z (Q3 (Q4 (Q2 [4] (S':=[_]) Z (Qb ?_)))))))
 have hE:=(Zi hm).symm
 obtain ⟨hE0,hF1⟩:=Prod.mk.inj hE
 obtain ⟨hE1,hE2⟩:=Prod.mk.inj hF1
 clear hE hF1
 replace hE0:=hE0.symm
 subst hE0
 replace hE1:=hE1.symm
 subst hE1
 replace hE2:=hE2.symm
 subst hE2
 refine Ql (Hr:=V5 ..) [0,1,2,3,4] Tryz.results211 (Qc Z) ⟨a1,a6,a7,Z,Z,Z⟩ (asK [] Z) Z Z (.inl Z)
theorem Q7S (N:Nat) (aY:Nat) (aR:OA) (aS:Nat) (aT:Nat) (l0:List Qn) (aU:OA) (aV:Nat) (aW:Nat) (l1:List Qp) (aN:OA) (aO:Nat) (aP:Nat) (l2:List ByteArray) (a3:Int) (a4:Int) (a5:Int) (a6:ByteArray) (a7:Int) (a8:Int) (bD:OA) (bE:Nat) (bF:Nat) (l9:List QN) (bG:OA) (bH:Nat) (bI:Nat) (aK:List Q1c) (bJ:Int) (bK:ByteArray) (aX:Int) (bL:Int) (aL:OA) (aM:Nat) (b2:List Qa) (o2:List QN) (o6:List Q1c) (dU:List ByteArray) (dV:Int) (dW:Int) (dX:Int) (hm:Q3I N l0 l1 l2 a3 a4 a5 a6 a7 a8 l9 aK bJ bK aX bL b2 = some (o2,o6,dU,dV,dW,dX)):Q1o Tryz.prog 175 [.pointer (some ⟨aY,0,none⟩),.agg #[.string a6,.int .i64 a7,.int .i64 a8,.slice bD bE bF,.slice bG bH bI],.agg #[.int .u8 bJ,.string bK,.int .i64 aX,.int .i64 bL,.slice aL b2.length aM]] [.sli 5 Qi aL aM b2] [.blk aY [.slice aR aS aT,.slice aU aV aW,.slice aN aO aP,.int .i64 a3,.int .i64 a4,.int .i64 a5] 206,.own 69 2 Qf (.slice aR aS aT) l0,.own 52 5 Qe (.slice aU aV aW) l1,.own 9 1 Q1y (.slice aN aO aP) l2,.own 67 10 QZ (.slice bD bE bF) l9,.own 81 4 Q1n (.slice bG bH bI) aK] (fun v Φr Hr=>∃ (o0:OA) (o1:Nat) (o3:Nat) (o4:OA) (o5:Nat) (o7:Nat) (o8:OA) (o9:Nat) (dY:Nat),v = .agg #[.string a6,.int .i64 a7,.int .i64 a8,.slice o0 o3 o1,.slice o4 o7 o5] ∧ Φr = [] ∧ Hr = [.own 67 10 QZ (.slice o0 o3 o1) o2,.own 81 4 Q1n (.slice o4 o7 o5) o6,.blk aY [.slice aR aS aT,.slice aU aV aW,.slice o8 dY o9,.int .i64 dV,.int .i64 dW,.int .i64 dX] 206,.own 69 2 Qf (.slice aR aS aT) l0,.own 52 5 Qe (.slice aU aV aW) l1,.own 9 1 Q1y (.slice o8 dY o9) dU]):=by
 unfold Q3I at hm
 refine QD Tryz.func175 Z Tryz.ntmps175 Z (S:=V3 ..) Z (fun C=>(Q5 (Q1 (wB Z (fun g4=>(wB Z (fun g5=>(QE Z Z Z Zq Z tZ_52 Z (fun g6=>(Q3 (Q4 (Q2 [6,5,4,0] (S':=V4 ..) Z (Q5 ?_)))))))))))))
 obtain ⟨dZ,hm,hLj_1⟩:=Q6 hm
 unfold Q4S at hm
 refine QI (σ:=(List QN) × (List Q1c) × (List ByteArray) × Int × Int × Int × OA × Nat × Nat × OA × Nat × Nat × OA × Nat × Nat) (fun (aF,aG,aC,aH,aI,aJ,z,a0,a1,a9,aA,aB,j,q,s)=>dZ = (aF,aG,aC,aH,aI,aJ)) (fun (aF,aG,aC,aH,aI,aJ,z,a0,a1,a9,aA,aB,j,q,s)=>[(6,.pointer (some ⟨g6,0,none⟩)),(4,.pointer (some ⟨g4,0,none⟩))]) (fun (aF,aG,aC,aH,aI,aJ,z,a0,a1,a9,aA,aB,j,q,s)=>[]) (fun (aF,aG,aC,aH,aI,aJ,z,a0,a1,a9,aA,aB,j,q,s)=>[.blk g6 [.string ((⟨#[]⟩ : ByteArray)),.int .i64 0,.int .i64 0,V1,V1] 52,.blk g4 [.string a6,.int .i64 a7,.int .i64 a8,.slice z a1 a0,.slice a9 aB aA] 52,.own 67 10 QZ (.slice z a1 a0) aF,.own 81 4 Q1n (.slice a9 aB aA) aG,.blk aY [.slice aR aS aT,.slice aU aV aW,.slice j s q,.int .i64 aH,.int .i64 aI,.int .i64 aJ] 206,.own 69 2 Qf (.slice aR aS aT) l0,.own 52 5 Qe (.slice aU aV aW) l1,.own 9 1 Q1y (.slice j s q) aC]) ?_ ?_
 refine Q5 (Q1 (wF Z Q2F (wD 1 0 Z Q34 Q6O Z (Q3 (Q4 (Q2 [13,6,5,4,0] (S':=V5 ..) Z (Qw (Q5 (Q1 (wP Z (wP Z (Q3 (Q4 ?_)))))))))))))
 refine Q2 [20,13,6,5,4,0] (S':=V6 ..) Z ?_
 refine Qj Z (fun c3=>?_) (fun c3=>?_)
 replace hm:=QA hm c3
 refine Q2 [6,5,4,0] (S':=V4 ..) Z (Q5 (Q1 (wP Z (QR 1 0 Z Z Z Zq Z Z Z (cs:=V5 ..) Z QQ Q1z Z Z ?_))))
 obtain ⟨⟨b3,cT,cU⟩,e0,hm⟩:=Q6 hm
 try dsimp only at hm
 refine wC [3,4,5,6] [0,1,2,7,8] Z fn_208 Z (Q3S N aY aR aS aT l0 aU aV aW l1 aN aO aP l2 a3 a4 a5 bJ bK aX bL aL aM b2 _ _ _ e0) (asK [0] Z) Z (H':=V5 ..) Z ?_
 rintro _ _ _ ⟨rfl,rfl,rfl⟩
 refine Q13 Z Z Z Zq Z Q9B tP_67 Z (out:=V10 ..) Z (QE Z Z Z Zq Z Q9B Z (fun g7=>(wS 0 0 Z Q4A (all':=V10 ..) Z (H':=V10 ..) Z (Q3 (Q4 (Q2 [7,6,5,4,0] (S':=V5 ..) Z (Q5 (Q1 (wP Z (QR 6 0 Z Z Z Zq Z Z Z (cs:=V5 ..) Z QQ Q1z Z Z ?_))))))))))
 obtain ⟨⟨aZ,cV,cW,cX⟩,e1,hm⟩:=Q6 hm
 try dsimp only at hm
 refine wC [1,2,3,4] [0,5,6,7,8,9] Z fn_209 Z (Q69 N aY aR aS aT l0 aU aV aW l1 aN aO aP l2 a3 cT cU bJ bK aX bL aL aM b2 true _ _ _ _ e1) (asK [0] Z) Z (H':=V6 ..) Z ?_
 rintro _ _ _ ⟨bU,bV,eF,cY,cZ,d0,rfl,rfl,rfl⟩
 refine wF Z QaN (wS 5 2 Z tS_60 (all':=V10 ..) Z (H':=V11 ..) Z (Q3 (Q4 (Q2 [7,6,4,0] (S':=V4 ..) Z (Q5 (Q1 (wF Z Q62 (wD 8 3 Z Q9z tA_49 Z (QR 5 0 Z Z Z Zq Z Z Z (cs:=V10 ..) Z Q4A Q9t Z Z (Qy Z Z Z Zq Z Q8u Q4A Q9B Z (zs:=[.int .u8 0,.int .i64 0,V1,.int .u8 0,.int .u8 0,.int .i64 0,.string ((⟨#[]⟩ : ByteArray)),.int .i64 0,.int .u8 0,V1]) (by kernel_rfl) Z (out:=V10 ..) Z (fun eX=>(Q15 1 Z (fun c4 _=>?_)))))))))))))
 subst c4
 refine Q2w 1 Z (H':=V11 ..) Z (Q3f (.sli 5 Q2x bU bV aZ) (fun F w hφ=>Q1K (hφ _ (Q10 (k:=0) Z))) ?_)
 obtain ⟨cO,hm⟩:=Qu hm
 refine Q1S ([(⟨1,b3,aZ,(⟨0,(⟨0,0,(⟨#[]⟩ : ByteArray)⟩ : V),0,0,[]⟩ : Qo)⟩ : QN)]) 9 0 Z Z Z Zq Z Z Z Z Z (fun F w hφ=>⟨[.int .u8 1,.int .i64 b3,.slice bU aZ.length bV,.int .u8 0,.int .u8 0,.int .i64 0,.string ((⟨#[]⟩ : ByteArray)),.int .i64 0,.int .u8 0,V1],[],Z,Z,⟨((bU,bV),(none,0)),Z,(QS (hφ _ (Q10 (k:=0) Z)) (QS Q3Q Qr))⟩,Z⟩) Q8u tR_67 Z Z (Nat.le_trans cO (by decide)) (Nat.le_trans (Nat.mul_le_mul_right _ cO) (by decide)) (H2:=fun d1 d2=>[_,_,_,_,_,_,_,_,_,.own 67 10 QZ (.slice d1 ((l9 ++ ([(⟨1,b3,aZ,(⟨0,(⟨0,0,(⟨#[]⟩ : ByteArray)⟩ : V),0,0,[]⟩ : Qo)⟩ : QN)])).length) d2) (l9 ++ ([(⟨1,b3,aZ,(⟨0,(⟨0,0,(⟨#[]⟩ : ByteArray)⟩ : V),0,0,[]⟩ : Qo)⟩ : QN)])),_]) (fun _ _=>Z) (fun d1 d2=>(Q2s 0 Z (H':=V10 ..) Z (wF Z Q62 (wS 7 3 Z Q9z (all':=V5 ..) Z (H':=V10 ..) Z (Q3 (Q4 (Q2 [6,4,0] (S':=V3 ..) Z (Q1 (wP Z (wP Z (wF Z tF_206_2 (wD 0 3 Z Q1A Q1N Z (wP Z ?_)))))))))))))
 obtain ⟨e2,hm⟩:=Qu hm
 refine QH (d:=40) (v':=.int .i64 (a3 + 1)) (S':=V7 ..) Z Z (i64_in e2) (wP Z (wF Z tF_206_2 (wS 0 3 Z Q1A (all':=V6 ..) Z (H':=V10 ..) Z (Q3 (Qh ?_)))))
 have hE:=(Zi hm).symm
 refine Qs [5,7,8,9,0,1,2,3] Z (H':=V8 ..) Z ?_
 refine Q9 ((l9 ++ ([(⟨1,b3,aZ,(⟨0,(⟨0,0,(⟨#[]⟩ : ByteArray)⟩ : V),0,0,[]⟩ : Qo)⟩ : QN)])),aK,cV,a3 + 1,cW,cX,d1,d2,((l9 ++ ([(⟨1,b3,aZ,(⟨0,(⟨0,0,(⟨#[]⟩ : ByteArray)⟩ : V),0,0,[]⟩ : Qo)⟩ : QN)])).length),bG,bI,bH,cY,cZ,d0) hE [6,4] Z (asK [] Z) Z
 replace hm:=Qz hm c3
 refine Q2 [13,6,5,4,0] (S':=V5 ..) Z (Q5 (Q1 (wP Z (wP Z (Q3 (Q4 (Q2 [43,13,6,5,4,0] (S':=V6 ..) Z ?_)))))))
 refine Qj Z (fun c5=>?_) (fun c5=>?_)
 replace hm:=QA hm c5
 refine Q2 [6,5,4,0] (S':=V4 ..) Z (Q5 (Q1 (wP Z (QR 1 0 Z Z Z Zq Z Z Z (cs:=V5 ..) Z QQ Q1z Z Z ?_))))
 obtain ⟨⟨b4,d3,d4⟩,e3,hm⟩:=Q6 hm
 try dsimp only at hm
 refine wC [3,4,5,6] [0,1,2,7,8] Z fn_208 Z (Q3S N aY aR aS aT l0 aU aV aW l1 aN aO aP l2 a3 a4 a5 bJ bK aX bL aL aM b2 _ _ _ e3) (asK [0] Z) Z (H':=V5 ..) Z ?_
 rintro _ _ _ ⟨rfl,rfl,rfl⟩
 refine Q13 Z Z Z Zq Z Q9B tP_67 Z (out:=V10 ..) Z (QE Z Z Z Zq Z Q9B Z (fun g8=>(wS 0 0 Z Q4A (all':=V10 ..) Z (H':=V10 ..) Z (Q3 (Q4 (Q2 [8,6,5,4,0] (S':=V5 ..) Z (Q5 (Q1 (wP Z (QR 6 0 Z Z Z Zq Z Z Z (cs:=V5 ..) Z QQ Q1z Z Z ?_))))))))))
 obtain ⟨⟨b0,d5,d6,d7⟩,e4,hm⟩:=Q6 hm
 try dsimp only at hm
 refine wC [1,2,3,4] [0,5,6,7,8,9] Z fn_209 Z (Q69 N aY aR aS aT l0 aU aV aW l1 aN aO aP l2 a3 d3 d4 bJ bK aX bL aL aM b2 false _ _ _ _ e4) (asK [0] Z) Z (H':=V6 ..) Z ?_
 rintro _ _ _ ⟨bW,bX,eG,d8,d9,dA,rfl,rfl,rfl⟩
 refine wF Z QaN (wS 5 2 Z tS_60 (all':=V10 ..) Z (H':=V11 ..) Z (Q3 (Q4 (Q2 [8,6,4] (S':=V3 ..) Z (Q1 (wF Z Q62 (wD 8 3 Z Q9z tA_49 Z (QR 5 0 Z Z Z Zq Z Z Z (cs:=V10 ..) Z Q4A Q9t Z Z (Qy Z Z Z Zq Z Q8u Q4A Q9B Z (zs:=[.int .u8 0,.int .i64 0,V1,.int .u8 0,.int .u8 0,.int .i64 0,.string ((⟨#[]⟩ : ByteArray)),.int .i64 0,.int .u8 0,V1]) (by kernel_rfl) Z (out:=V10 ..) Z (fun eY=>(Q15 1 Z (fun c6 _=>?_))))))))))))
 subst c6
 refine Q2w 1 Z (H':=V11 ..) Z (Q3f (.sli 5 Q2x bW bX b0) (fun F w hφ=>Q1K (hφ _ (Q10 (k:=0) Z))) ?_)
 obtain ⟨cP,hm⟩:=Qu hm
 refine Q1S ([(⟨2,b4,b0,(⟨0,(⟨0,0,(⟨#[]⟩ : ByteArray)⟩ : V),0,0,[]⟩ : Qo)⟩ : QN)]) 9 0 Z Z Z Zq Z Z Z Z Z (fun F w hφ=>⟨[.int .u8 2,.int .i64 b4,.slice bW b0.length bX,.int .u8 0,.int .u8 0,.int .i64 0,.string ((⟨#[]⟩ : ByteArray)),.int .i64 0,.int .u8 0,V1],[],Z,Z,⟨((bW,bX),(none,0)),Z,(QS (hφ _ (Q10 (k:=0) Z)) (QS Q3Q Qr))⟩,Z⟩) Q8u tR_67 Z Z (Nat.le_trans cP (by decide)) (Nat.le_trans (Nat.mul_le_mul_right _ cP) (by decide)) (H2:=fun dB dC=>[_,_,_,_,_,_,_,_,_,.own 67 10 QZ (.slice dB ((l9 ++ ([(⟨2,b4,b0,(⟨0,(⟨0,0,(⟨#[]⟩ : ByteArray)⟩ : V),0,0,[]⟩ : Qo)⟩ : QN)])).length) dC) (l9 ++ ([(⟨2,b4,b0,(⟨0,(⟨0,0,(⟨#[]⟩ : ByteArray)⟩ : V),0,0,[]⟩ : Qo)⟩ : QN)])),_]) (fun _ _=>Z) (fun dB dC=>(Q2s 0 Z (H':=V10 ..) Z (wF Z Q62 (wS 7 3 Z Q9z (all':=V5 ..) Z (H':=V10 ..) Z (Q3 (Qh ?_))))))
 have hE:=(Zi hm).symm
 refine Qs [5,7,8,9,0,1,2,3] Z (H':=V8 ..) Z ?_
 refine Q9 ((l9 ++ ([(⟨2,b4,b0,(⟨0,(⟨0,0,(⟨#[]⟩ : ByteArray)⟩ : V),0,0,[]⟩ : Qo)⟩ : QN)])),aK,d5,a3,d6,d7,dB,dC,((l9 ++ ([(⟨2,b4,b0,(⟨0,(⟨0,0,(⟨#[]⟩ : ByteArray)⟩ : V),0,0,[]⟩ : Qo)⟩ : QN)])).length),bG,bI,bH,d8,d9,dA) hE [6,4] Z (asK [] Z) Z
 replace hm:=Qz hm c5
 refine Q2 [13,6,5,4,0] (S':=V5 ..) Z (Q5 (Q1 (wP Z (wP Z (Q3 (Q4 (Q2 [59,13,6,5,4,0] (S':=V6 ..) Z ?_)))))))
 refine Qj Z (fun c7=>?_) (fun c7=>?_)
 replace hm:=QA hm c7
 refine Q2 [6,5,4,0] (S':=V4 ..) Z (Q5 (Q1 (wP Z (wF Z Q1s (wD 1 4 Z Q1U Q2b Z ?_)))))
 obtain ⟨c8,e5,hm⟩:=Q6 hm
 refine Q1F 0 0 Z Z Z Zq Z Z Z Z Z e5 Q1Q QQ (fun eZ f0 eU eH=>(Q22 Q1t 1 Z (fun e6 e7 _=>?_)))
 subst e7
 refine Q21 1 0 Z Z Z Zq Z Z Z (cs:=V5 ..) Z QQ Q1z Z Z ?_
 obtain ⟨⟨b5,b6,b7,b8,b9,bA,bB,dD,dE⟩,e8,hm⟩:=Q6 hm
 try dsimp only at hm
 refine wC [3,4,5,6] [0,1,2,7,8] Z fn_210 Z (Q6a N aY aR aS aT l0 aU aV aW l1 aN aO aP l2 a3 a4 a5 c8.kind c8.text c8.num c8.at_ e6.1 e6.2 c8.kids _ _ _ _ _ _ _ _ _ e8) (asK [0] Z) Z (H':=V5 ..) Z ?_
 rintro _ _ _ ⟨c9,cA,rfl,rfl,rfl⟩
 refine QE Z Z Z Zq Z tZ_65 Z (fun g9=>(wS 0 0 Z Q2S (all':=V7 ..) Z (H':=V10 ..) Z (Q3 (Q4 (Q2 [9,6,4] (S':=V3 ..) Z (Q1 (wF Z Q62 (wD 7 3 Z Q9z tA_49 Z (QR 0 0 Z Z Z Zq Z Z Z (cs:=V7 ..) Z Q2S Q5J Z Z (Q13 Z Z Z Zq Z Q9B tP_67 Z (out:=V10 ..) Z (Qy Z Z Z Zq Z Q8u Q4A Q9B Z (zs:=[.int .u8 0,.int .i64 0,V1,.int .u8 0,.int .u8 0,.int .i64 0,.string ((⟨#[]⟩ : ByteArray)),.int .i64 0,.int .u8 0,V1]) (by kernel_rfl) Z (out:=V10 ..) Z (fun f1=>?_))))))))))))
 obtain ⟨cQ,hm⟩:=Qu hm
 refine Q1S ([(⟨3,0,[],(⟨(((b5:Nat):Int)),(⟨(((b6:Nat):Int)),b7,b8⟩ : V),b9,bA,bB⟩ : Qo)⟩ : QN)]) 9 0 Z Z Z Zq Z Z Z Z Z (fun F w hφ=>⟨[.int .u8 3,.int .i64 0,V1,.int .u8 ((b5:Nat):Int),.int .u8 ((b6:Nat):Int),.int .i64 b7,.string b8,.int .i64 b9,.int .u8 bA,.slice c9 bB.length cA],[],Z,Z,⟨((none,0),(c9,cA)),Z,(QS Q3Q (QS (hφ _ (Q10 (k:=0) Z)) Qr))⟩,Z⟩) Q8u tR_67 Z Z (Nat.le_trans cQ (by decide)) (Nat.le_trans (Nat.mul_le_mul_right _ cQ) (by decide)) (H2:=fun dF dG=>[_,_,_,_,_,_,_,_,_,.own 67 10 QZ (.slice dF ((l9 ++ ([(⟨3,0,[],(⟨(((b5:Nat):Int)),(⟨(((b6:Nat):Int)),b7,b8⟩ : V),b9,bA,bB⟩ : Qo)⟩ : QN)])).length) dG) (l9 ++ ([(⟨3,0,[],(⟨(((b5:Nat):Int)),(⟨(((b6:Nat):Int)),b7,b8⟩ : V),b9,bA,bB⟩ : Qo)⟩ : QN)])),_]) (fun _ _=>Z) (fun dF dG=>(Q2s 0 Z (H':=V10 ..) Z (wF Z Q62 (wS 7 3 Z Q9z (all':=V5 ..) Z (H':=V10 ..) Z (Q3 (Qh ?_))))))
 have hE:=(Zi hm).symm
 refine Qs [5,7,8,9,1,2,3,4] Z (H':=V8 ..) Z ?_
 refine Q9 ((l9 ++ ([(⟨3,0,[],(⟨(((b5:Nat):Int)),(⟨(((b6:Nat):Int)),b7,b8⟩ : V),b9,bA,bB⟩ : Qo)⟩ : QN)])),aK,l2,a3,dD,dE,dF,dG,((l9 ++ ([(⟨3,0,[],(⟨(((b5:Nat):Int)),(⟨(((b6:Nat):Int)),b7,b8⟩ : V),b9,bA,bB⟩ : Qo)⟩ : QN)])).length),bG,bI,bH,aN,aP,aO) hE [6,4] Z (asK [] Z) Z
 replace hm:=Qz hm c7
 refine Q2 [13,6,5,4,0] (S':=V5 ..) Z (Q5 (Q1 (wP Z (wP Z (Q3 (Q4 (Q2 [74,13,6,5,4,0] (S':=V6 ..) Z ?_)))))))
 refine Qj Z (fun cB=>?_) (fun cB=>?_)
 replace hm:=QA hm cB
 refine Q2 [6,5,4,0] (S':=V4 ..) Z (Q5 (Q1 (wP Z (QR 1 0 Z Z Z Zq Z Z Z (cs:=V5 ..) Z QQ Q1z Z Z ?_))))
 obtain ⟨⟨bC,dH,dI⟩,e9,hm⟩:=Q6 hm
 try dsimp only at hm
 refine wC [3,4,5,6] [0,1,2,7,8] Z fn_208 Z (Q3S N aY aR aS aT l0 aU aV aW l1 aN aO aP l2 a3 a4 a5 bJ bK aX bL aL aM b2 _ _ _ e9) (asK [0] Z) Z (H':=V5 ..) Z ?_
 rintro _ _ _ ⟨rfl,rfl,rfl⟩
 refine Q13 Z Z Z Zq Z tZ_81 tP_81 Z (out:=V4 ..) Z (QE Z Z Z Zq Z tZ_81 Z (fun f2=>(wS 0 0 Z tS_81 (all':=V4 ..) Z (H':=V10 ..) Z (Q3 (Q4 (Q2 [10,6,5,4,0] (S':=V5 ..) Z (Q5 (Q1 (wP Z (wF Z Q1s (wD 6 4 Z Q1U Q2b Z ?_)))))))))))
 obtain ⟨⟨b1,dJ,dK⟩,eA,hm⟩:=Q6 hm
 try dsimp only at hm
 refine wC [1,2,3,4] [0,5,6,7,8,9] Z fn_211 Z (Q5L N aY aR aS aT l0 aU aV aW l1 aN aO aP l2 a3 dH dI aL aM b2 _ _ _ eA) (asK [0] Z) Z (H':=V6 ..) Z ?_
 rintro _ _ _ ⟨bY,bZ,eI,rfl,rfl,rfl⟩
 refine wF Z Q98 (wS 5 3 Z Q92 (all':=V4 ..) Z (H':=V11 ..) Z (Q3 (Q4 (Q2 [10,6,4] (S':=V3 ..) Z (Q1 (wF Z Q8l (wD 8 4 Z tS_50 tA_50 Z (QR 5 0 Z Z Z Zq Z Z Z (cs:=V4 ..) Z tS_81 tA_81 Z Z (Qy Z Z Z Zq Z tE_50 tS_81 tZ_81 Z (zs:=[.int .u8 0,.int .i64 0,.int .i64 0,V1]) (by kernel_rfl) Z (out:=V4 ..) Z (fun f3=>(Q15 1 Z (fun cC _=>?_))))))))))))
 subst cC
 refine Q2w 1 Z (H':=V11 ..) Z (Q3f (.sli 7 QB bY bZ b1) (fun F w hφ=>Q1K (hφ _ (Q10 (k:=0) Z))) ?_)
 obtain ⟨cR,hm⟩:=Qu hm
 refine Q1S ([(⟨1,bC,0,b1⟩ : Q1c)]) 10 0 Z Z Z Zq Z Z Z Z Z (fun F w hφ=>⟨[.int .u8 1,.int .i64 bC,.int .i64 0,.slice bY b1.length bZ],[],Z,Z,⟨(bY,bZ),Z,(QS (hφ _ (Q10 (k:=0) Z)) Qr)⟩,Z⟩) tE_50 tR_81 Z Z (Nat.le_trans cR (by decide)) (Nat.le_trans (Nat.mul_le_mul_right _ cR) (by decide)) (H2:=fun dL dM=>[_,_,_,_,_,_,_,_,_,_,.own 81 4 Q1n (.slice dL ((aK ++ ([(⟨1,bC,0,b1⟩ : Q1c)])).length) dM) (aK ++ ([(⟨1,bC,0,b1⟩ : Q1c)]))]) (fun _ _=>Z) (fun dL dM=>(Q2s 0 Z (H':=V10 ..) Z (wF Z Q8l (wS 7 4 Z tS_50 (all':=V5 ..) Z (H':=V10 ..) Z (Q3 (Qh ?_))))))
 have hE:=(Zi hm).symm
 refine Qs [5,7,8,9,0,1,2,3] Z (H':=V8 ..) Z ?_
 refine Q9 (l9,(aK ++ ([(⟨1,bC,0,b1⟩ : Q1c)])),l2,a3,dJ,dK,bD,bF,bE,dL,dM,((aK ++ ([(⟨1,bC,0,b1⟩ : Q1c)])).length),aN,aP,aO) hE [6,4] Z (asK [] Z) Z
 replace hm:=Qz hm cB
 refine Q2 [13,6,5,4,0] (S':=V5 ..) Z (Q5 (Q1 (wP Z (wP Z (Q3 (Q4 (Q2 [91,13,6,5,4,0] (S':=V6 ..) Z ?_)))))))
 refine Qj Z (fun cD=>?_) (fun cD=>?_)
 replace hm:=QA hm cD
 refine Q2 [6,5,4,0] (S':=V4 ..) Z (Q5 ?_)
 obtain ⟨eB,hm,hLj_2⟩:=Q6 hm
 refine QI (σ:=Int × Int) (fun (aD,aE)=>eB = (aD,aE)) (fun (aD,aE)=>[(6,.pointer (some ⟨g6,0,none⟩)),(5,.pointer (some ⟨g5,0,none⟩)),(4,.pointer (some ⟨g4,0,none⟩))]) (fun (aD,aE)=>[.sli 5 Qi aL aM b2]) (fun (aD,aE)=>[.blk g6 [.string ((⟨#[]⟩ : ByteArray)),.int .i64 0,.int .i64 0,V1,V1] 52,.blk g5 [.int .u8 bJ,.string bK,.int .i64 aX,.int .i64 bL,.slice aL b2.length aM] 159,.blk g4 [.string a6,.int .i64 a7,.int .i64 a8,.slice bD bE bF,.slice bG bH bI] 52,.own 67 10 QZ (.slice bD bE bF) l9,.own 81 4 Q1n (.slice bG bH bI) aK,.blk aY [.slice aR aS aT,.slice aU aV aW,.slice aN aO aP,.int .i64 a3,.int .i64 aD,.int .i64 aE] 206,.own 69 2 Qf (.slice aR aS aT) l0,.own 52 5 Qe (.slice aU aV aW) l1,.own 9 1 Q1y (.slice aN aO aP) l2]) ?_ ?_
 rcases QG hm with ⟨cE,hm⟩ | ⟨cE,hm⟩
 obtain ⟨⟨bN,bO⟩,c0,hm⟩:=Q6 hm
 try dsimp only at hm
 refine Q18 [0,1,2,3,4,5,6,7,8,9,11,12,13] Z Z (fun hok=>(xP hok 0 Z (Q8 hok 1 Z Z Z Zq Z Z Z Q4q (Qm hok 2 1 2 Z Z Z Zq Z Z Z Z (cs:=[_]) Z Q1A Q1N Z Z (xP hok 3 Z (xP hok 4 Z (Q1D (d:=97) (v':=.bool true) (S':=V8 ..) Z Z (Q1l cE) (xO hok 5 Z (xO hok 6 Z (xO hok 7 Z (xO hok 8 Z (xO hok 9 Z (Qm hok 13 1 0 Z Z Z Zq Z Z Z Z (cs:=V5 ..) Z QQ Q1z Z Z (xS hok 10 Z ?_))))))))))))))
 refine wO Z (Q3 (QV [0] [1,1] Z Z (xO hok 11 Z (xP hok 12 Z (xS hok 14 Z (wC [3,4,5,6] [0,1,2,7,8] Z Q6y Z (Q19 N aY aR aS aT l0 aU aV aW l1 aN aO aP l2 a3 a4 a5 true 214 bJ bK aX bL aL aM b2 _ _ c0) (asK [0] Z) Z (H':=V5 ..) Z ?_))))))
 rintro _ _ _ ⟨rfl,rfl,rfl⟩
 refine Q3 (QV [0] [5] Z Z (Q11 hok Z ?_))
 have hE:=(Zi hm).symm
 refine Qs [4,5,6,7,8,0,1,2,3] Z (H':=V9 ..) Z ?_
 refine Q9 (bN,bO) hE [6,5,4] Z (asK [0] Z) Z
 obtain ⟨⟨bN,bO⟩,c0,hm⟩:=Q6 hm
 try dsimp only at hm
 refine Q18 [0,1,2,3,4,5,6,7,8,9,11,12,13] Z Z (fun hok=>(xP hok 0 Z (Q8 hok 1 Z Z Z Zq Z Z Z Q4q (Qm hok 2 1 2 Z Z Z Zq Z Z Z Z (cs:=[_]) Z Q1A Q1N Z Z (xP hok 3 Z (xP hok 4 Z (Q1D (d:=97) (v':=.bool false) (S':=V8 ..) Z Z (Q1l cE) (Q8 hok 5 Z Z Z Zq Z Z Z Q4q (Qm hok 6 1 2 Z Z Z Zq Z Z Z Z (cs:=[_]) Z Q1A Q1N Z Z (xP hok 7 Z (xP hok 8 Z (Q8 hok 9 Z Z Z Zq Z Z Z tF_206_2 (Qm hok 13 1 0 Z Z Z Zq Z Z Z Z (cs:=V5 ..) Z QQ Q1z Z Z (xS hok 10 Z ?_))))))))))))))
 refine wD 3 3 Z Q1A Q1N Z (Q3 (QV [0] [1,1,1] Z Z (xP hok 11 Z (xP hok 12 Z (xS hok 14 Z (wC [3,4,5,6] [0,1,2,7,8] Z Q6y Z (Q19 N aY aR aS aT l0 aU aV aW l1 aN aO aP l2 a3 a4 a5 (decide (aX > a3)) 214 bJ bK aX bL aL aM b2 _ _ c0) (asK [0] Z) Z (H':=V5 ..) Z ?_))))))
 rintro _ _ _ ⟨rfl,rfl,rfl⟩
 refine Q3 (QV [0] [5,5] Z Z (Q11 hok Z ?_))
 have hE:=(Zi hm).symm
 refine Qs [4,5,6,7,8,0,1,2,3] Z (H':=V9 ..) Z ?_
 refine Q9 (bN,bO) hE [6,5,4] Z (asK [0] Z) Z
 rintro ⟨aD,aE⟩ hE
 try dsimp only
 have hm:=hLj_2
 rw [hE] at hm
 try dsimp only at hm
 refine Q1 (wF Z Q8l (wD 2 4 Z tS_50 tA_50 Z (wF Z Q4q (wD 1 2 Z Q1A Q1N Z (wP Z ?_)))))
 obtain ⟨dN,hm⟩:=Qu hm
 refine QH (d:=112) (v':=.int .i64 (aX - 1)) (S':=V7 ..) Z Z (i64_in dN) (Q13 Z Z Z Zq Z tZ_81 tP_81 Z (out:=V4 ..) Z (Qy Z Z Z Zq Z tE_50 tS_81 tZ_81 Z (zs:=[.int .u8 0,.int .i64 0,.int .i64 0,V1]) (by kernel_rfl) Z (out:=V4 ..) Z (fun eV=>?_)))
 obtain ⟨cF,hm⟩:=Qu hm
 refine Q1S ([(⟨2,0,aX - 1,[]⟩ : Q1c)]) 5 0 Z Z Z Zq Z Z Z Z Z (fun F w hφ=>⟨[.int .u8 2,.int .i64 0,.int .i64 (aX - 1),V1],[],Z,Z,⟨(none,0),Z,(QS Q3Q Qr)⟩,Z⟩) tE_50 tR_81 Z Z (Nat.le_trans cF (by decide)) (Nat.le_trans (Nat.mul_le_mul_right _ cF) (by decide)) (H2:=fun cG cH=>[_,_,_,_,_,.own 81 4 Q1n (.slice cG ((aK ++ ([(⟨2,0,aX - 1,[]⟩ : Q1c)])).length) cH) (aK ++ ([(⟨2,0,aX - 1,[]⟩ : Q1c)])),_,_,_,_]) (fun _ _=>Z) (fun cG cH=>(Q2s 0 Z (H':=V9 ..) Z (wF Z Q8l (wS 2 4 Z tS_50 (all':=V5 ..) Z (H':=V9 ..) Z (Q3 (Qh ?_))))))
 have hE:=(Zi hm).symm
 refine Qs [0,2,3,4,5,6,7,8] Z (H':=V8 ..) Z ?_
 refine Q9 (l9,(aK ++ ([(⟨2,0,aX - 1,[]⟩ : Q1c)])),l2,a3,aD,aE,bD,bF,bE,cG,cH,((aK ++ ([(⟨2,0,aX - 1,[]⟩ : Q1c)])).length),aN,aP,aO) hE [6,4] Z (asK [] Z) Z
 replace hm:=Qz hm cD
 refine Q2 [13,6,5,4,0] (S':=V5 ..) Z (Q5 (Q1 (wP Z (wP Z (Q3 (Q4 (Q2 [117,6,5,4,0] (S':=V5 ..) Z ?_)))))))
 refine Qj Z (fun c1=>?_) (fun c1=>?_)
 replace hm:=QA hm c1
 refine Q2 [6,5,4,0] (S':=V4 ..) Z (Q5 (Q1 (wP Z (wF Z Q1s (wD 1 4 Z Q1U Q2b Z ?_)))))
 obtain ⟨⟨aQ,cM,cN⟩,dO,hm⟩:=Q6 hm
 try dsimp only at hm
 refine wC [3,4,5,6] [0,1,2,7,8] Z fn_211 Z (Q5L N aY aR aS aT l0 aU aV aW l1 aN aO aP l2 a3 a4 a5 aL aM b2 _ _ _ dO) (asK [0] Z) Z (H':=V5 ..) Z ?_
 rintro _ _ _ ⟨bP,bQ,eE,rfl,rfl,rfl⟩
 refine wP Z (Q3 (Q4 (Q2 [11,6,4] (S':=V3 ..) Z (Q1 (wF Z Q8l (wD 7 4 Z tS_50 tA_50 Z (wP Z (Q13 Z Z Z Zq Z tZ_81 tP_81 Z (out:=V4 ..) Z (Qy Z Z Z Zq Z tE_50 tS_81 tZ_81 Z (zs:=[.int .u8 0,.int .i64 0,.int .i64 0,V1]) (by kernel_rfl) Z (out:=V4 ..) Z (fun eW=>(Q15 1 Z (fun c2 _=>?_))))))))))))
 subst c2
 refine Q2w 1 Z (H':=V10 ..) Z (Q3f (.sli 7 QB bP bQ aQ) (fun F w hφ=>Q1K (hφ _ (Q10 (k:=0) Z))) ?_)
 obtain ⟨cI,hm⟩:=Qu hm
 refine Q1S ([(⟨3,0,0,aQ⟩ : Q1c)]) 9 0 Z Z Z Zq Z Z Z Z Z (fun F w hφ=>⟨[.int .u8 3,.int .i64 0,.int .i64 0,.slice bP aQ.length bQ],[],Z,Z,⟨(bP,bQ),Z,(QS (hφ _ (Q10 (k:=0) Z)) Qr)⟩,Z⟩) tE_50 tR_81 Z Z (Nat.le_trans cI (by decide)) (Nat.le_trans (Nat.mul_le_mul_right _ cI) (by decide)) (H2:=fun cJ cK=>[_,_,_,_,_,_,_,_,_,.own 81 4 Q1n (.slice cJ ((aK ++ ([(⟨3,0,0,aQ⟩ : Q1c)])).length) cK) (aK ++ ([(⟨3,0,0,aQ⟩ : Q1c)]))]) (fun _ _=>Z) (fun cJ cK=>(Q2s 0 Z (H':=V9 ..) Z (wF Z Q8l (wS 6 4 Z tS_50 (all':=V5 ..) Z (H':=V9 ..) Z (Q3 (Qh ?_))))))
 have hE:=(Zi hm).symm
 refine Qs [4,6,7,8,0,1,2,3] Z (H':=V8 ..) Z ?_
 refine Q9 (l9,(aK ++ ([(⟨3,0,0,aQ⟩ : Q1c)])),l2,a3,cM,cN,bD,bF,bE,cJ,cK,((aK ++ ([(⟨3,0,0,aQ⟩ : Q1c)])).length),aN,aP,aO) hE [6,4] Z (asK [] Z) Z
 replace hm:=Qz hm c1
 refine Q2 [6,4] (S':=[_,_]) Z (Q1 (wF Z Q8l (wD 2 4 Z tS_50 tA_50 Z (Q13 Z Z Z Zq Z tZ_81 tP_81 Z (out:=V4 ..) Z (Qy Z Z Z Zq Z tE_50 tS_81 tZ_81 Z (zs:=[.int .u8 0,.int .i64 0,.int .i64 0,V1]) (by kernel_rfl) Z (out:=V4 ..) Z (fun f4=>?_))))))
 obtain ⟨cS,hm⟩:=Qu hm
 refine Q1S ([(⟨4,0,0,[]⟩ : Q1c)]) 9 0 Z Z Z Zq Z Z Z Z Z (fun F w hφ=>⟨[.int .u8 4,.int .i64 0,.int .i64 0,V1],[],Z,Z,⟨(none,0),Z,(QS Q3Q Qr)⟩,Z⟩) tE_50 tR_81 Z Z (Nat.le_trans cS (by decide)) (Nat.le_trans (Nat.mul_le_mul_right _ cS) (by decide)) (H2:=fun dP dQ=>[_,_,_,_,_,_,_,_,_,.own 81 4 Q1n (.slice dP ((aK ++ ([(⟨4,0,0,[]⟩ : Q1c)])).length) dQ) (aK ++ ([(⟨4,0,0,[]⟩ : Q1c)]))]) (fun _ _=>Z) (fun dP dQ=>(Q2s 0 Z (H':=V9 ..) Z (wF Z Q8l (wS 2 4 Z tS_50 (all':=V5 ..) Z (H':=V9 ..) Z (Q3 (Qh ?_))))))
 have hE:=(Zi hm).symm
 refine Qs [0,2,7,8,3,4,5,6] Z (H':=V8 ..) Z ?_
 refine Q9 (l9,(aK ++ ([(⟨4,0,0,[]⟩ : Q1c)])),l2,a3,a4,a5,bD,bF,bE,dP,dQ,((aK ++ ([(⟨4,0,0,[]⟩ : Q1c)])).length),aN,aP,aO) hE [6,4] Z (asK [] Z) Z
 rintro ⟨aF,aG,aC,aH,aI,aJ,z,a0,a1,a9,aA,aB,j,q,s⟩ hE
 try dsimp only
 have hm:=hLj_1
 rw [hE] at hm
 try dsimp only at hm
 refine Q5 (Q1 (QR 1 0 Z Z Z Zq Z Z Z (cs:=V5 ..) Z Q4W tA_52 Z Z (wS 0 0 Z Q4W (all':=V5 ..) Z (H':=V8 ..) Z (Q3 (Q4 (Q2 [6] (S':=[_]) Z (Qb ?_)))))))
 have hE:=(Zi hm).symm
 obtain ⟨hE0,hF1⟩:=Prod.mk.inj hE
 obtain ⟨hE1,hF2⟩:=Prod.mk.inj hF1
 obtain ⟨hE2,hF3⟩:=Prod.mk.inj hF2
 obtain ⟨hE3,hF4⟩:=Prod.mk.inj hF3
 obtain ⟨hE4,hE5⟩:=Prod.mk.inj hF4
 clear hE hF1 hF2 hF3 hF4
 replace hE0:=hE0.symm
 subst hE0
 replace hE1:=hE1.symm
 subst hE1
 replace hE2:=hE2.symm
 subst hE2
 replace hE3:=hE3.symm
 subst hE3
 replace hE4:=hE4.symm
 subst hE4
 replace hE5:=hE5.symm
 subst hE5
 refine Ql (Hr:=V6 ..) [2,3,4,5,6,7] Tryz.results175 (QW 0 Z Z Q4W tA_52 Z Z) ⟨z,a0,a1,a9,aA,aB,j,q,s,Z,Z,Z⟩ (asK [] Z) Z Z (.inl Z)
end Go.Proofs.YtbgodclhmgmcgaaGreatDoor
