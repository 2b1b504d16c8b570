import Derived.Test.YtbgodclhmgmcgaaGreatDoorXW7
namespace Go.Proofs.YtbgodclhmgmcgaaGreatDoor
open Go.RowKit
set_option maxRecDepth 100000
set_option maxHeartbeats 4000000
theorem w_naive_Vars_s (N:Nat) (bF:OA) (bG:Nat) (l0:List Ql) (bH:OA) (bI:Nat) (l1:List Qi) (a2:Int) (b2:OA) (b3:Nat) (l3:List Int) (aZ:OA) (b0:Nat) (l4:List Qz) (o2:List V) (o4:Bool) (hm:Qbu N l0 l1 a2 l3 l4 = some (o2,o4)):Q17 Tryz.prog 18 [.agg #[.slice bF l0.length bG,.slice bH l1.length bI],.agg #[.int .i64 a2,.slice b2 l3.length b3],.slice aZ l4.length b0] [.sli 2 Qb bF bG l0,.sli 5 Qa bH bI l1,.sli 1 Q20 b2 b3 l3,.sli 3 QP aZ b0 l4] [] (fun v Φr Hr=>∃ (o0:OA) (o1:Nat) (o3:Nat),v = .tuple #[.slice o0 o3 o1,.bool o4] ∧ Φr = [] ∧ Hr = [.own 57 3 R_V (.slice o0 o3 o1) o2]):=by
 unfold Qbu at hm
 refine QC Tryz.func18 Z Tryz.ntmps18 Z (S:=V3 ..) Z (fun C=>(Q5 (Q1 (wB Z (fun g3=>(wB Z (fun g4=>(wP Z (wP Z (Q4 (Q3 (Q2 [4,3,2] (S':=V3 ..) Z (Q5 (Q5 ?_))))))))))))))
 obtain ⟨cJ,hm,hLj_1⟩:=Q6 hm
 unfold QbX at hm
 refine QM (σ:=Bool) (fun aY=>cJ = aY) (fun aY=>[(4,.pointer (some ⟨g4,0,none⟩)),(3,.pointer (some ⟨g3,0,none⟩)),(2,.slice aZ l4.length b0),(38,.bool aY)]) (fun aY=>[.sli 1 Q20 b2 b3 l3,.sli 2 Qb bF bG l0,.sli 5 Qa bH bI l1,.sli 3 QP aZ b0 l4]) (fun aY=>[.blk g4 [.int .i64 a2,.slice b2 l3.length b3] 41,.blk g3 [.slice bF l0.length bG,.slice bH l1.length bI] 25]) ?_ ?_
 refine Q1 (QO 1 0 Z Z Z Zq Z Z Z (cs:=[_,_]) Z Q8M QaE Z Z ?_)
 obtain ⟨dP,cK,hm⟩:=Q6 hm
 refine wC [] [0,1] Z fn_30 Z (QbZ N bF bG l0 bH bI l1 _ cK) (asK [0,1] Z) Z (H':=[_,_]) Z ?_
 rintro _ _ _ ⟨rfl,rfl,rfl⟩
 refine wP Z (wP Z ?_)
 refine QG (d:=20) (S':=V6 ..) Z Z (fun bJ=>?_) (fun bJ=>?_)
 replace hm:=QI hm bJ
 refine wO Z (wO Z (wO Z (wO Z (wP Z (wP Z (wO Z (wO Z (wO Z (wP Z (wP Z (wO Z (wO Z (wO Z ?_)))))))))))))
 refine wO Z (wO Z (wO Z (wP Z (Q4 ?_))))
 have hE:=(Zi hm).symm
 refine Qh true hE [4,3,2,38] Z (asK [2,0,1,3] Z) Z
 replace hm:=QH hm bJ
 refine QO 1 0 Z Z Z Zq Z Z Z (cs:=[_,_]) Z Q8M QaE Z Z (wP Z ?_)
 obtain ⟨dQ,cL,hm⟩:=Q6 hm
 refine wC [] [0,1] Z fn_31 Z (Qc1 N bF bG l0 bH bI l1 aZ b0 l4 _ cL) (asK [0,1,3] Z) Z (H':=[_,_]) Z ?_
 rintro _ _ _ ⟨rfl,rfl,rfl⟩
 refine wP Z (wP Z (wP Z ?_))
 refine QG (d:=26) (S':=V12 ..) Z Z (fun bK=>?_) (fun bK=>?_)
 replace hm:=QI hm bK
 refine wO Z (wO Z (wO Z (wP Z (wP Z (wO Z (wO Z (wO Z (wO Z (wO Z (wO Z (wP Z (Q4 ?_))))))))))))
 have hE:=(Zi hm).symm
 refine Qh true hE [4,3,2,38] Z (asK [2,0,1,3] Z) Z
 replace hm:=QH hm bK
 refine wF Z tF_41_0 (wD 0 0 Z Q1m Q1H Z (wP Z (wP Z (wP Z ?_))))
 refine QG (d:=31) (S':=V17 ..) Z Z (fun bL=>?_) (fun bL=>?_)
 replace hm:=QI hm bL
 refine wO Z (wO Z (wO Z (wO Z (wO Z (wO Z (wP Z (Q4 ?_)))))))
 have hE:=(Zi hm).symm
 refine Qh true hE [4,3,2,38] Z (asK [2,0,1,3] Z) Z
 replace hm:=QH hm bL
 refine wF Z tF_41_0 (wD 0 0 Z Q1m Q1H Z (wF Z Q6Z (wD 1 1 Z Qai QaD Z (wN Z Q8x (wP Z (wP Z (Q4 ?_)))))))
 have hE:=(Zi hm).symm
 refine Qh (decide (a2 ≥ ((l1.length:Nat):Int))) hE [4,3,2,38] Z (asK [2,0,1,3] Z) Z
 rintro aY hE
 try dsimp only
 have hm:=hLj_1
 try rw [hE] at hm
 refine Qt Z (fun bM=>?_) (fun bM=>?_)
 replace hm:=QI hm bM
 refine Q2 [] (S':=[]) Z (Q5 (Q1 (wP Z (wP Z (Q4 (Q3 (Qo (Q9 ?_))))))))
 have hE:=(Zi hm).symm
 obtain ⟨hE0,hE1⟩:=Prod.mk.inj hE
 clear hE
 replace hE0:=hE0.symm
 subst hE0
 replace hE1:=hE1.symm
 subst hE1
 refine Q3r 57 3 R_V ?_
 refine Q1D (Hr:=[_]) [0] Tryz.results18 (Qg Z) (Qg Z) ⟨none,0,0,Z,Z,Z⟩ (asK [] Z) Z Z (.inl Z)
 replace hm:=QH hm bM
 refine Q2 [4,3,2] (S':=V3 ..) Z (Qr (Q3 (Q5 (Q1 (wF Z Q6Z (wD 1 1 Z Qai QaD Z (wF Z tF_41_0 (wD 0 0 Z Q1m Q1H Z ?_))))))))
 obtain ⟨cM,hm⟩:=Qd hm
 obtain ⟨b1,cN,hm⟩:=Q6 hm
 refine Q1a 2 a2.toNat Z Z Z Zq Z Z Z Z (Q1d cM) cN Q8x Q5X (fun dR dS dK d5=>(Q1G Q3D 1 Z (fun b4 cO _=>?_)))
 subst cO
 refine Q1F 2 0 Z Z Z Zq Z Z Z (cs:=V5 ..) Z Q5X tA_52 Z Z (QK Z Z Z Zq Z tZ_52 Z (fun g8=>(wS 0 0 Z Q5X (all':=V5 ..) Z (H':=V3 ..) Z (Q4 (Q3 (Q2 [8,4,2] (S':=V3 ..) Z (Q5 (Q1 (wF Z QbE (wD 0 2 Z Q1m Q1H Z ?_))))))))))
 obtain ⟨⟨bY,bZ⟩,cP,hm⟩:=Q6 hm
 try dsimp only at hm
 refine wC [] [0,1,2] Z fn_43 Z (Q9B N b1.vars _ _ cP) (asK [] Z) Z (H':=V3 ..) Z ?_
 rintro _ _ _ ⟨c0,c1,c2,c3,c4,c5,rfl,rfl,rfl⟩
 refine QK Z Z Z Zq Z Q8z Z (fun g9=>(wS 0 0 Z Q2B (all':=[_,_]) Z (H':=V6 ..) Z (wP Z (Q4 (Q3 (Q2 [10,9,8,4,2] (S':=V5 ..) Z (Q5 ?_)))))))
 obtain ⟨bW,hm,hLj_2⟩:=Q1o hm
 refine QM (σ:=Nat × (List Bool) × (List V) × OA × Nat × Nat × OA × Nat × Nat) (fun (aU,aN,aO,aP,aQ,aR,a9,aA,aB)=>bW = .inl (aU,aN,aO)) (fun (aU,aN,aO,aP,aQ,aR,a9,aA,aB)=>[(10,.int .i64 ((aU:Nat):Int)),(9,.pointer (some ⟨g9,0,none⟩)),(4,.pointer (some ⟨g4,0,none⟩))]) (fun (aU,aN,aO,aP,aQ,aR,a9,aA,aB)=>[.sli 1 Q20 b2 b3 l3]) (fun (aU,aN,aO,aP,aQ,aR,a9,aA,aB)=>[.blk g9 [.slice aP aR aQ,.slice a9 aB aA] 100,.own 4 1 Q1n (.slice aP aR aQ) aN,.own 57 3 R_V (.slice a9 aB aA) aO,.blk g4 [.int .i64 a2,.slice b2 l3.length b3] 41]) ?_ ?_
 refine Q5 (Q1 (wF Z Q7o (wD 3 3 Z QaI tA_49 Z (wN Z Q9j (wP Z (Q4 (Q3 (Q2 [51,50,49,10,9,4,2] (S':=V7 ..) Z (Qw (Q7M [0,1,2,4] Z (H':=V4 ..) Z (Q1j (σ:=Nat × Nat × Nat × (List Bool) × (List V) × OA × Nat × Nat × OA × Nat × Nat) (fun (b8,aM,aC,a5,z,a6,a7,a8,a0,a1,aD)=>Q1h (Q9A N b1 l4 l3) b8 (aM,aC,a5,z) = some bW) (fun (b8,aM,aC,a5,z,a6,a7,a8,a0,a1,aD)=>b8) (fun (b8,aM,aC,a5,z,a6,a7,a8,a0,a1,aD)=>[(51,.int .i64 ((aM:Nat):Int)),(50,.int .i64 ((b1.conds.length:Nat):Int)),(49,.slice b4.1.1 b1.conds.length b4.1.2),(10,.int .i64 ((aC:Nat):Int)),(9,.pointer (some ⟨g9,0,none⟩)),(4,.pointer (some ⟨g4,0,none⟩)),(2,.slice aZ l4.length b0)]) (fun (b8,aM,aC,a5,z,a6,a7,a8,a0,a1,aD)=>[.sli 10 QR b4.1.1 b4.1.2 b1.conds,.sli 1 Q20 b2 b3 l3,.sli 3 QP aZ b0 l4]) (fun (b8,aM,aC,a5,z,a6,a7,a8,a0,a1,aD)=>[.blk g9 [.slice a6 a8 a7,.slice a0 aD a1] 100,.own 4 1 Q1n (.slice a6 a8 a7) a5,.own 57 3 R_V (.slice a0 aD a1) z,.blk g4 [.int .i64 a2,.slice b2 l3.length b3] 41]) (N,0,0,bY,bZ,c0,c1,c2,c3,c4,c5) hm [51,50,49,10,9,4,2] Z (asK [0,4,7] Z) Z (fun s_ hm=>?_))))))))))))
 obtain ⟨b8,aM,aC,a5,z,a6,a7,a8,a0,a1,aD⟩:=s_
 try dsimp only at hm ⊢
 obtain ⟨dT,dU,cQ,hq,hLu1⟩:=QV hm
 clear hm
 subst cQ
 replace hm:=hq
 clear hq
 unfold Q9A at hm
 try dsimp only at hm
 refine Q5 (Q1 (wP Z (Qs (d:=52) (v':=.bool (decide (aM < b1.conds.length))) (S':=V7 ..) Z Z (Q2l (a:=aM) (b:=b1.conds.length)) (Q4 (Q3 (Q5 ?_))))))
 refine Qt Z (fun bN=>?_) (fun bN=>?_)
 replace hm:=QI hm bN
 refine Q2 [51,50,49,10,9,4,2] (S':=V7 ..) Z (Qr (Q3 (Q5 ?_)))
 obtain ⟨cR,hm,hLj_3⟩:=Q1o hm
 unfold QbY at hm
 refine QM (σ:=Nat × (List Bool) × (List V) × OA × Nat × Nat × OA × Nat × Nat) (fun (aW,aE,aF,aG,aH,aI,aJ,aK,aL)=>cR = .inl (aW,aE,aF)) (fun (aW,aE,aF,aG,aH,aI,aJ,aK,aL)=>[(51,.int .i64 ((aM:Nat):Int)),(50,.int .i64 ((b1.conds.length:Nat):Int)),(49,.slice b4.1.1 b1.conds.length b4.1.2),(10,.int .i64 ((aW:Nat):Int)),(9,.pointer (some ⟨g9,0,none⟩)),(4,.pointer (some ⟨g4,0,none⟩)),(2,.slice aZ l4.length b0)]) (fun (aW,aE,aF,aG,aH,aI,aJ,aK,aL)=>[.sli 10 QR b4.1.1 b4.1.2 b1.conds,.sli 1 Q20 b2 b3 l3,.sli 3 QP aZ b0 l4]) (fun (aW,aE,aF,aG,aH,aI,aJ,aK,aL)=>[.blk g9 [.slice aG aI aH,.slice aJ aL aK] 100,.own 4 1 Q1n (.slice aG aI aH) aE,.own 57 3 R_V (.slice aJ aL aK) aF,.blk g4 [.int .i64 a2,.slice b2 l3.length b3] 41]) ?_ ?_
 refine Qw (Q5 (Q1 ?_))
 obtain ⟨aT,cS,hm⟩:=Q6 hm
 refine Q1a 0 aM Z Z Z Zq Z Z Z Z Z cS Q9j Q6E (fun dV dW dL d6=>(Q1G Q3C 1 Z (fun b5 cT _=>?_)))
 subst cT
 refine Q1F 2 0 Z Z Z Zq Z Z Z (cs:=V10 ..) Z Q6E tA_67 Z Z (QK Z Z Z Zq Z tZ_67 Z (fun dX=>(wS 0 0 Z Q6E (all':=V10 ..) Z (H':=V5 ..) Z (Q4 (Q3 (Q2 [12,51,50,49,10,9,4,2] (S':=V8 ..) Z (Q5 (Q1 (wF Z Q9T (wD 0 0 Z tS_53 tA_53 Z (Q4 (Q3 (Q2 [56,12,51,50,49,10,9,4,2] (S':=V9 ..) Z (Qw ?_))))))))))))))
 refine Q5 (Q1 (wP Z (wP Z (Q4 (Q3 (Q2 [88,56,12,51,50,49,10,9,4,2] (S':=V10 ..) Z ?_))))))
 refine Qt Z (fun bO=>?_) (fun bO=>?_)
 replace hm:=QI hm bO
 refine Q2 [12,51,50,49,10,9,4,2] (S':=V8 ..) Z (Q5 (Q1 (wF Z QbG (QO 0 3 Z Z Z Zq Z Z Z (cs:=V7 ..) Z Q57 Q7Z Z Z (wF Z Q7D (wD 1 1 Z Q7p Q7n Z (QQ 3 Z (fun aS _=>?_))))))))
 subst aS
 obtain ⟨⟨d7,c6,d8,bP⟩,cU,hm⟩:=Q6 hm
 try dsimp only at hm
 refine Q53 [] [0,1,2,3,4] [3] Z Z Z Zq Z Z fn_44 Z (Q81 N aT.test.kind aT.test.value.k aT.test.value.n aT.test.value.s aT.test.var aT.test.op b5.2.1 b5.2.2 aT.test.kids a0 a1 z _ _ _ _ cU) (fun F w hφ hh=>(Q14 (hφ _ (Q12 (k:=1) Z)) (Q14 (Q1A (hh _ (Q12 (k:=0) Z))) Qu))) (fun _ _ _ hR=>by obtain ⟨rfl,rfl,rfl⟩:=hR; exact ⟨Z,(fun _ h=>Q3G h)⟩) Z Z (H':=V5 ..) Z ?_
 rintro _ _ _ ⟨rfl,rfl,rfl⟩
 refine wP Z (wP Z (wP Z (QK Z Z Z Zq Z Q3A Z (fun dY=>(wS 0 0 Z Q1C (all':=V3 ..) Z (H':=V6 ..) Z (wP Z (Q4 (Q3 (Q2 [14,13,51,50,49,10,9,4,2] (S':=V9 ..) Z (Q5 ?_))))))))))
 obtain ⟨cV,hm,hLj_4⟩:=Q6 hm
 refine QM (σ:=Bool) (fun aV=>cV = aV) (fun aV=>[(51,.int .i64 ((aM:Nat):Int)),(50,.int .i64 ((b1.conds.length:Nat):Int)),(49,.slice b4.1.1 b1.conds.length b4.1.2),(10,.int .i64 ((aC:Nat):Int)),(9,.pointer (some ⟨g9,0,none⟩)),(4,.pointer (some ⟨g4,0,none⟩)),(2,.slice aZ l4.length b0),(109,.bool aV)]) (fun aV=>[.sli 10 QR b4.1.1 b4.1.2 b1.conds,.sli 1 Q20 b2 b3 l3,.sli 3 QP aZ b0 l4]) (fun aV=>[.blk g9 [.slice a6 a8 a7,.slice a0 z.length a1] 100,.own 4 1 Q1n (.slice a6 a8 a7) a5,.own 57 3 R_V (.slice a0 z.length a1) z,.blk g4 [.int .i64 a2,.slice b2 l3.length b3] 41]) ?_ ?_
 refine Q1 (wP Z (wP Z (Qs (d:=99) (v':=.bool (bP != 0)) (S':=V10 ..) Z Z (natne (a:=bP) (b:=0)) (wP Z ?_))))
 refine QG (d:=100) (S':=V11 ..) Z Z (fun b9=>?_) (fun b9=>?_)
 replace hm:=QI hm b9
 refine wO Z (wO Z (wO Z (wP Z (wP Z (wO Z (wO Z (wO Z (wP Z (Q4 ?_)))))))))
 have hE:=(Zi hm).symm
 refine QE [2,3,4,5] Z (H':=V4 ..) Z ?_
 refine Qh true hE [51,50,49,10,9,4,2,109] Z (asK [4,5,6] Z) Z
 replace hm:=QH hm b9
 refine wF Z tF_57_0 (wD 0 0 Z tS_55 tA_55 Z (wP Z (wP Z (wP Z ?_))))
 refine QG (d:=105) (S':=V16 ..) Z Z (fun bA=>?_) (fun bA=>?_)
 replace hm:=QI hm bA
 refine wO Z (wO Z (wO Z (wP Z (Q4 ?_))))
 have hE:=(Zi hm).symm
 refine QE [2,3,4,5] Z (H':=V4 ..) Z ?_
 refine Qh true hE [51,50,49,10,9,4,2,109] Z (asK [4,5,6] Z) Z
 replace hm:=QH hm bA
 refine wF Z Q3y (wD 0 1 Z tS_2 tA_2 Z (wP Z (wP Z (Q4 ?_))))
 have hE:=(Zi hm).symm
 refine QE [2,3,4,5] Z (H':=V4 ..) Z ?_
 refine Qh (c6 == 0) hE [51,50,49,10,9,4,2,109] Z (asK [4,5,6] Z) Z
 rintro aV hE
 try dsimp only
 have hm:=hLj_4
 try rw [hE] at hm
 refine Qt Z (fun bB=>?_) (fun bB=>?_)
 replace hm:=QI hm bB
 refine Q2 [] (S':=[]) Z (Q5 (Q1 (wP Z (wP Z (Q4 (Q3 (Qo (Qk (Qk (Q9 (Q9 (Qk (Q9 ?_)))))))))))))
 have hE:=(Zi hm).symm
 replace hE:=Qx hLj_3 hE
 replace hE:=Qx hLu1 hE
 replace hE:=Qx hLj_2 hE
 obtain ⟨hE0,hE1⟩:=Prod.mk.inj hE
 clear hE
 replace hE0:=hE0.symm
 subst hE0
 replace hE1:=hE1.symm
 subst hE1
 refine Q3r 57 3 R_V ?_
 refine Q1D (Hr:=[_]) [0] Tryz.results18 (Qg Z) (Qg Z) ⟨none,0,0,Z,Z,Z⟩ (asK [] Z) Z Z (.inl Z)
 replace hm:=QH hm bB
 refine Q2 [51,50,49,10,9,4,2] (S':=V7 ..) Z (Qr (Qf (Qf ?_)))
 have hE:=(Zi hm).symm
 refine Qh (aC,a5,z,a6,a7,a8,a0,a1,z.length) hE [51,50,49,10,9,4,2] Z (asK [0,1,2] Z) Z
 replace hm:=QH hm bO
 refine Q2 [56,12,51,50,49,10,9,4,2] (S':=V9 ..) Z (Q5 (Q1 (wP Z (wP Z (Q4 (Q3 (Q2 [110,12,51,50,49,10,9,4,2] (S':=V9 ..) Z ?_)))))))
 refine Qt Z (fun bC=>?_) (fun bC=>?_)
 replace hm:=QI hm bC
 refine Q2 [12,51,50,49,10,9,4,2] (S':=V8 ..) Z (Q5 (Q1 (QO 0 0 Z Z Z Zq Z Z Z (cs:=V10 ..) Z Q6E tA_67 Z Z (QO 1 0 Z Z Z Zq Z Z Z (cs:=[_,_]) Z Q2B Q65 Z Z (wP Z (QQ 2 Z (fun aX _=>?_)))))))
 subst aX
 refine QQ 3 Z (fun aS _=>?_)
 subst aS
 obtain ⟨dM,c7,hm⟩:=Q6 hm
 refine Q53 [] [0,1,2,3,4] [2,3] Z Z Z Zq Z Z fn_45 Z (Q91 N aT.kind aT.type b5.1.1 b5.1.2 aT.args aT.test.kind aT.test.value.k aT.test.value.n aT.test.value.s aT.test.var aT.test.op b5.2.1 b5.2.2 aT.test.kids a6 a7 a5 a0 a1 z aZ b0 l4 _ c7) (fun F w hφ hh=>(Q14 (hφ _ (Q12 (k:=0) Z)) (Q14 (hφ _ (Q12 (k:=1) Z)) (Q14 (Q1A (hh _ (Q12 (k:=0) Z))) (Q14 (Q1A (hh _ (Q12 (k:=1) Z))) (Q14 (hφ _ (Q12 (k:=6) Z)) Qu)))))) (fun _ _ _ hR=>by obtain ⟨rfl,rfl,rfl⟩:=hR; exact ⟨Z,(fun _ h=>Q3G h)⟩) Z Z (H':=V5 ..) Z ?_
 rintro _ _ _ ⟨rfl,rfl,rfl⟩
 refine Q4 (Q3 (Q2 [115,51,50,49,10,9,4,2] (S':=V8 ..) Z ?_))
 refine Qt Z (fun bD=>?_) (fun bD=>?_)
 replace hm:=QI hm bD
 refine Q2 [] (S':=[]) Z (Q5 (Q1 (wP Z (wP Z (Q4 (Q3 (Qo (Qk (Qk (Q9 (Q9 (Qk (Q9 ?_)))))))))))))
 have hE:=(Zi hm).symm
 replace hE:=Qx hLj_3 hE
 replace hE:=Qx hLu1 hE
 replace hE:=Qx hLj_2 hE
 obtain ⟨hE0,hE1⟩:=Prod.mk.inj hE
 clear hE
 replace hE0:=hE0.symm
 subst hE0
 replace hE1:=hE1.symm
 subst hE1
 refine Q3r 57 3 R_V ?_
 refine Q1D (Hr:=[_]) [0] Tryz.results18 (Qg Z) (Qg Z) ⟨none,0,0,Z,Z,Z⟩ (asK [] Z) Z Z (.inl Z)
 replace hm:=QH hm bD
 refine Q2 [51,50,49,10,9,4,2] (S':=V7 ..) Z (Qr (Qf (Qf ?_)))
 have hE:=(Zi hm).symm
 refine QE [1,2,3,4] Z (H':=V4 ..) Z ?_
 refine Qh (aC,a5,z,a6,a7,a5.length,a0,a1,z.length) hE [51,50,49,10,9,4,2] Z (asK [4,5,6] Z) Z
 replace hm:=QH hm bC
 refine Q2 [12,51,50,49,10,9,4,2] (S':=V8 ..) Z (Q5 (Q5 (Q1 (wP Z (wF Z Q9Q (wD 4 1 Z Q9n tA_39 Z (wN Z Q5V (wP Z (Qs (d:=61) (v':=.bool (decide (l3.length ≤ aC))) (S':=V12 ..) Z Z (natge (a:=aC) (b:=l3.length)) (Q4 (Q3 (Q2 [61,12,51,50,49,10,9,4,2] (S':=V9 ..) Z ?_))))))))))))
 refine Qt Z (fun bQ=>?_) (fun bQ=>?_)
 replace hm:=QI hm bQ
 refine Q2 [] (S':=[]) Z (Q5 (Q1 (wP Z (wP Z (Q4 (Q3 (Qo (Q9 (Qk (Qk (Q9 (Q9 (Qk ?_)))))))))))))
 refine Q9 ?_
 have hE:=(Zi hm).symm
 replace hE:=Qx hLj_3 hE
 replace hE:=Qx hLu1 hE
 replace hE:=Qx hLj_2 hE
 obtain ⟨hE0,hE1⟩:=Prod.mk.inj hE
 clear hE
 replace hE0:=hE0.symm
 subst hE0
 replace hE1:=hE1.symm
 subst hE1
 refine Q3r 57 3 R_V ?_
 refine Q1D (Hr:=[_]) [0] Tryz.results18 (Qg Z) (Qg Z) ⟨none,0,0,Z,Z,Z⟩ (asK [] Z) Z Z (.inl Z)
 replace hm:=QH hm bQ
 refine Q2 [12,51,50,49,10,9,4,2] (S':=V8 ..) Z (Qr (Q3 (Q5 (Q1 (wP Z (wF Z Q9Q (wD 4 1 Z Q9n tA_39 Z (wP Z ?_))))))))
 obtain ⟨d9,cW,hm⟩:=Q6 hm
 refine Q1a 5 aC Z Z Z Zq Z Z Z Z Z cW Q5V Q1m (fun dZ e0 dN dA=>(Q1G Q9a 1 Z (fun e1 cX _=>?_)))
 subst cX
 refine Q1F 0 0 Z Z Z Zq Z Z Z (cs:=[_]) Z Q1m Q1H Z Z ?_
 obtain ⟨⟨c8,dB⟩,cY,hm⟩:=Q6 hm
 try dsimp only at hm
 refine wC [] [0,1,2,3,4] Z fn_46 Z (Q8K N aZ b0 l4 d9 _ _ cY) (asK [8] Z) Z (H':=V5 ..) Z ?_
 rintro _ _ _ ⟨rfl,rfl,rfl⟩
 refine wP Z (wP Z (wP Z (wP Z (wP Z (Q4 (Q3 (Q2 [16,15,12,51,50,49,10,9,4,2] (S':=V10 ..) Z (Q5 (Q5 (Q1 (wP Z (wP Z (Q4 ?_)))))))))))))
 refine Q3 (Q2 [73,15,12,51,50,49,10,9,4,2] (S':=V10 ..) Z ?_)
 refine Qt Z (fun bR=>?_) (fun bR=>?_)
 replace hm:=QI hm bR
 refine Q2 [] (S':=[]) Z (Q5 (Q1 (wP Z (wP Z (Q4 (Q3 (Qo (Q9 (Qk (Qk (Q9 (Q9 (Qk ?_)))))))))))))
 refine Q9 ?_
 have hE:=(Zi hm).symm
 replace hE:=Qx hLj_3 hE
 replace hE:=Qx hLu1 hE
 replace hE:=Qx hLj_2 hE
 obtain ⟨hE0,hE1⟩:=Prod.mk.inj hE
 clear hE
 replace hE0:=hE0.symm
 subst hE0
 replace hE1:=hE1.symm
 subst hE1
 refine Q3r 57 3 R_V ?_
 refine Q1D (Hr:=[_]) [0] Tryz.results18 (Qg Z) (Qg Z) ⟨none,0,0,Z,Z,Z⟩ (asK [] Z) Z Z (.inl Z)
 replace hm:=QH hm bR
 refine Q2 [15,12,51,50,49,10,9,4,2] (S':=V9 ..) Z (Qr (Q3 (Q5 (Q5 ?_))))
 obtain ⟨cZ,hm⟩:=Qd hm
 obtain ⟨c9,d0,hm⟩:=Q6 hm
 obtain ⟨⟨cA,cB,dC⟩,d1,hm⟩:=Q6 hm
 try dsimp only at hm
 refine QW [0,1,2,3,4,5,7,8,9] Z Z (fun hok=>(Qn hok 0 0 0 Z Z Z Zq Z Z Z Z (cs:=V10 ..) Z Q6E tA_67 Z Z (xP hok 1 Z (xP hok 2 Z (Q2P hok 3 8 c8.toNat Z Z Z Zq Z Z Z Z Z (Q1d cZ) d0 Q2y Q2N (fun e2 e3 dO dD=>(Q3s Q3c 1 Z (fun d2 d3 _=>?_))))))))
 subst d3
 refine Q4N hok 4 1 0 Z Z Z Zq Z Z Z Z (cs:=V3 ..) Z Q2N tA_71 Z Z (Qn hok 5 1 0 Z Z Z Zq Z Z Z Z (cs:=[_,_]) Z Q2B Q65 Z Z (xS hok 6 Z (QQ 2 Z (fun aX _=>?_))))
 subst aX
 refine QQ 3 Z (fun aS _=>?_)
 subst aS
 refine Q53 [] [0,1,2,3,4] [2,3] Z Z Z Zq Z Z fn_49 Z (Q7q N aT.kind aT.type b5.1.1 b5.1.2 aT.args aT.test.kind aT.test.value.k aT.test.value.n aT.test.value.s aT.test.var aT.test.op b5.2.1 b5.2.2 aT.test.kids c9.id c9.ty d2.1 d2.2 c9.args a6 a7 a5 a0 a1 z _ _ _ d1) (fun F w hφ hh=>(Q14 (hφ _ (Q12 (k:=5) Z)) (Q14 (hφ _ (Q12 (k:=6) Z)) (Q14 (hφ _ (Q12 (k:=0) Z)) (Q14 (Q1A (hh _ (Q12 (k:=0) Z))) (Q14 (Q1A (hh _ (Q12 (k:=1) Z))) Qu)))))) (fun _ _ _ hR=>by obtain ⟨_,_,_,_,_,_,rfl,rfl,rfl⟩:=hR; exact ⟨Z,(free_cons (own_free mkRep_free) (free_cons (own_free mkRep_free) (fun _ h=>Q3G h)))⟩) Z Z (H':=V5 ..) Z ?_
 rintro _ _ _ ⟨cC,cD,cE,cF,cG,cH,rfl,rfl,rfl⟩
 refine Q4 (QJ [0,1,2,3,4,5,6,7,8,9,10,11] [] Z Z (xP hok 7 Z (xP hok 8 Z (xP hok 9 Z (xS hok 10 Z (wS 3 0 Z Q2B (all':=[_,_]) Z (H':=V7 ..) Z (Q4 (QJ [0,1,2,3,4,5,6,7,8,9,10,11] [] Z Z (xS hok 11 Z (wP Z (Q4 (QJ [0,1,2,3,4,5,6,7,8,9,10,11] [] Z Z (QS hok Z ?_)))))))))))))
 refine Q3 (Q2 [16,51,50,49,10,9,4,2] (S':=V8 ..) Z (Q5 (Q1 (wP Z (wP Z (Q4 (Q3 (Q2 [85,51,50,49,10,9,4,2] (S':=V8 ..) Z ?_))))))))
 refine Qt Z (fun bS=>?_) (fun bS=>?_)
 replace hm:=QI hm bS
 refine Q2 [] (S':=[]) Z (Q5 (Q1 (wP Z (wP Z (Q4 (Q3 (Qo (Q9 (Qk (Qk (Q9 (Q9 (Qk ?_)))))))))))))
 refine Q9 ?_
 have hE:=(Zi hm).symm
 replace hE:=Qx hLj_3 hE
 replace hE:=Qx hLu1 hE
 replace hE:=Qx hLj_2 hE
 obtain ⟨hE0,hE1⟩:=Prod.mk.inj hE
 clear hE
 replace hE0:=hE0.symm
 subst hE0
 replace hE1:=hE1.symm
 subst hE1
 refine Q3r 57 3 R_V ?_
 refine Q1D (Hr:=[_]) [0] Tryz.results18 (Qg Z) (Qg Z) ⟨none,0,0,Z,Z,Z⟩ (asK [] Z) Z Z (.inl Z)
 replace hm:=QH hm bS
 refine Q2 [51,50,49,10,9,4,2] (S':=V7 ..) Z (Qr (Q3 (Q1 (wP Z (wP Z ?_)))))
 obtain ⟨d4,hm⟩:=Qd hm
 refine Qs (d:=87) (v':=.int .i64 ((aC + 1:Nat):Int)) (S':=V8 ..) Z Z (Q1r (a:=aC) (b:=1) d4) (QT (S':=V8 ..) Z Z Z Z Z (Q4 (Qf (Qf ?_))))
 have hE:=(Zi hm).symm
 refine QE [3,0,1,6] Z (H':=V4 ..) Z ?_
 refine Qh (aC + 1,cA,cB,cC,cD,cE,cF,cG,cH) hE [51,50,49,10,9,4,2] Z (asK [9,10,11] Z) Z
 rintro ⟨aW,aE,aF,aG,aH,aI,aJ,aK,aL⟩ hE
 try dsimp only
 have hm:=QF hLj_3 hE
 try dsimp only at hm
 refine Q1 (wP Z ?_)
 obtain ⟨cI,hm⟩:=Qd hm
 refine Qs (d:=116) (v':=.int .i64 ((aM + 1:Nat):Int)) (S':=V7 ..) Z Z (Q1r (a:=aM) (b:=1) cI) (QT (S':=V7 ..) Z Z Z Z Z (Q4 ?_))
 have hE:=(Zi hm).symm
 replace hE:=QF hLu1 hE
 refine QU (_,aM + 1,aW,aE,aF,aG,aH,aI,aJ,aK,aL) (Nat.lt_succ_self _) hE [51,50,49,10,9,4,2] Z (asK [0,1,2] Z) Z
 replace hm:=QH hm bN
 refine Q2 [10,9,4] (S':=V3 ..) Z (Q1g (Qj (Qj (QD ?_))))
 have hE:=(Zi hm).symm
 replace hE:=Qx hLu1 hE
 refine Qh (aC,a5,z,a6,a7,a8,a0,a1,aD) hE [10,9,4] Z (asK [1] Z) Z
 rintro ⟨aU,aN,aO,aP,aQ,aR,a9,aA,aB⟩ hE
 try dsimp only
 have hm:=QF hLj_2 hE
 try dsimp only at hm
 refine Q5 (Q5 (Q1 (wP Z (wF Z Q9Q (wD 3 1 Z Q9n tA_39 Z (wN Z Q5V (wP Z (Qs (d:=121) (v':=.bool (decide (aU < l3.length))) (S':=V7 ..) Z Z (Q2l (a:=aU) (b:=l3.length)) (Q4 (Q3 (Q2 [121,9] (S':=[_,_]) Z ?_)))))))))))
 refine Qt Z (fun bE=>?_) (fun bE=>?_)
 replace hm:=QI hm bE
 refine Q2 [] (S':=[]) Z (Q5 (Q1 (wP Z (wP Z (Q4 (Q3 (Qo (Q9 ?_))))))))
 have hE:=(Zi hm).symm
 obtain ⟨hE0,hE1⟩:=Prod.mk.inj hE
 clear hE
 replace hE0:=hE0.symm
 subst hE0
 replace hE1:=hE1.symm
 subst hE1
 refine Q3r 57 3 R_V ?_
 refine Q1D (Hr:=[_]) [0] Tryz.results18 (Qg Z) (Qg Z) ⟨none,0,0,Z,Z,Z⟩ (asK [] Z) Z Z (.inl Z)
 replace hm:=QH hm bE
 refine Q2 [9] (S':=[_]) Z (Qr (Q3 (Q5 (Q1 (wF Z Q7D (wD 0 1 Z Q7p Q7n Z (wP Z (wP Z (Q4 (Q3 (Q2 [7,6] (S':=[_,_]) Z (Qo ?_))))))))))))
 have hE:=(Zi hm).symm
 obtain ⟨hE0,hE1⟩:=Prod.mk.inj hE
 clear hE
 replace hE0:=hE0.symm
 subst hE0
 replace hE1:=hE1.symm
 subst hE1
 refine Q1D (Hr:=[_]) [2] Tryz.results18 (Qg Z) (Qg Z) ⟨a9,aA,aB,Z,Z,Z⟩ (asK [] Z) Z Z (.inl Z)
theorem Qbd (N:Nat)  (o0:Bool) (hm:Q5u N = some o0):Q17 Tryz.prog 8 [] [] [] (fun v Φr Hr=>v = .bool o0 ∧ Φr = [] ∧ Hr = []):=by
 unfold Q5u at hm
 refine QC Tryz.func8 Z Tryz.ntmps8 Z (S:=[]) Z (fun C=>(Q5 (Q1 (wP Z (Q4 (Q3 (Q2 [] (S':=[]) Z (Q5 (Q1 ?_)))))))))
 obtain ⟨⟨aS,aT⟩,bW,hm⟩:=Q6 hm
 try dsimp only at hm
 refine wC [] [] Z fn_24 Z (Q5B N _ _ bW) (asK [] Z) Z (H':=[]) Z ?_
 rintro _ _ _ ⟨aU,aV,c4,aW,aX,c5,rfl,rfl,rfl⟩
 obtain ⟨_,bX,hm⟩:=Q6 hm
 try dsimp only at hm
 refine wC [] [0,1] Z fn_21 Z (Q23 N 1 1 1 bX) (asK [] Z) Z (H':=[_,_]) Z ?_
 rintro _ _ _ ⟨aH,rfl,rfl,rfl⟩
 obtain ⟨_,bY,hm⟩:=Q6 hm
 try dsimp only at hm
 refine wC [] [0,1,2] Z fn_21 Z (Q23 N 2 1 2 bY) (asK [] Z) Z (H':=V3 ..) Z ?_
 rintro _ _ _ ⟨aJ,rfl,rfl,rfl⟩
 refine QB Z Z Z Zq Z Q2y Q2N Q9N Z (zs:=[.int .i64 0,.int .i64 0,V1,.int .i64 0,.int .i64 0,V1]) (by kernel_rfl) Z (out:=V6 ..) Z (fun g9=>(Q1Z (sz:=3) (m:=2) R_V ([(⟨1,1,(⟨#[]⟩ : ByteArray)⟩ : V),(⟨1,1,(⟨#[]⟩ : ByteArray)⟩ : V)]) 2 Z (fun F w hφ=>⟨[.int .u8 1,.int .i64 1,.string ((⟨#[]⟩ : ByteArray))],[.int .u8 1,.int .i64 1,.string ((⟨#[]⟩ : ByteArray))],Z,Z,⟨(),Z,Qu⟩,⟨[.int .u8 1,.int .i64 1,.string ((⟨#[]⟩ : ByteArray))],[],Z,Z,⟨(),Z,Qu⟩,Z⟩⟩) Z (by decide) (H':=V5 ..) Z (Q1Z (sz:=3) (m:=2) R_V ([(⟨1,1,(⟨#[]⟩ : ByteArray)⟩ : V),(⟨1,2,(⟨#[]⟩ : ByteArray)⟩ : V)]) 1 Z (fun F w hφ=>⟨[.int .u8 1,.int .i64 1,.string ((⟨#[]⟩ : ByteArray))],[.int .u8 1,.int .i64 2,.string ((⟨#[]⟩ : ByteArray))],Z,Z,⟨(),Z,Qu⟩,⟨[.int .u8 1,.int .i64 2,.string ((⟨#[]⟩ : ByteArray))],[],Z,Z,⟨(),Z,Qu⟩,Z⟩⟩) Z (by decide) (H':=V5 ..) Z (Q1Z (sz:=3) (m:=2) Q11.pair ([((⟨1,0,[(⟨1,1,(⟨#[]⟩ : ByteArray)⟩ : V),(⟨1,1,(⟨#[]⟩ : ByteArray)⟩ : V)]⟩ : Qz),(some (⟨aH,0,none⟩ : Addr),2)),((⟨2,0,[(⟨1,1,(⟨#[]⟩ : ByteArray)⟩ : V),(⟨1,2,(⟨#[]⟩ : ByteArray)⟩ : V)]⟩ : Qz),(some (⟨aJ,0,none⟩ : Addr),2))]) 0 Z (fun F w hφ=>⟨[.int .i64 1,.int .i64 0,.slice (some ⟨aH,0,none⟩) 2 2],[.int .i64 2,.int .i64 0,.slice (some ⟨aJ,0,none⟩) 2 2],Z,Z,Z,⟨[.int .i64 2,.int .i64 0,.slice (some ⟨aJ,0,none⟩) 2 2],[],Z,Z,Z,Z⟩⟩) Z (by decide) (H':=V5 ..) Z (Q27 [Q4i Q11 [] none,_,_,_,_,_] (fun _ h=>h.bagNil Q11) (Q5y [3,0,1,2,4,5] Z (H':=V6 ..) Z (Q27 [Q4i Q11 ([((⟨1,0,[(⟨1,1,(⟨#[]⟩ : ByteArray)⟩ : V),(⟨1,1,(⟨#[]⟩ : ByteArray)⟩ : V)]⟩ : Qz),(some (⟨aH,0,none⟩ : Addr),2))]) none,_,_,_,_] (fun _ h=>Q16.bagPush (T:=Q11) (x:=(⟨1,0,[(⟨1,1,(⟨#[]⟩ : ByteArray)⟩ : V),(⟨1,1,(⟨#[]⟩ : ByteArray)⟩ : V)]⟩ : Qz)) (r:=(some (⟨aH,0,none⟩ : Addr),2)) (zs:=[]) (H:=V5 ..) h 0 Z) (Q5y [2,0,1,3,4] Z (H':=V5 ..) Z (Q27 [Q4i Q11 (([((⟨1,0,[(⟨1,1,(⟨#[]⟩ : ByteArray)⟩ : V),(⟨1,1,(⟨#[]⟩ : ByteArray)⟩ : V)]⟩ : Qz),(some (⟨aH,0,none⟩ : Addr),2))]) ++ [((⟨2,0,[(⟨1,1,(⟨#[]⟩ : ByteArray)⟩ : V),(⟨1,2,(⟨#[]⟩ : ByteArray)⟩ : V)]⟩ : Qz),(some (⟨aJ,0,none⟩ : Addr),2))]) none,_,_,_] (fun _ h=>Q16.bagPush (T:=Q11) (x:=(⟨2,0,[(⟨1,1,(⟨#[]⟩ : ByteArray)⟩ : V),(⟨1,2,(⟨#[]⟩ : ByteArray)⟩ : V)]⟩ : Qz)) (r:=(some (⟨aJ,0,none⟩ : Addr),2)) (zs:=[((⟨1,0,[(⟨1,1,(⟨#[]⟩ : ByteArray)⟩ : V),(⟨1,1,(⟨#[]⟩ : ByteArray)⟩ : V)]⟩ : Qz),(some (⟨aH,0,none⟩ : Addr),2))]) (H:=V4 ..) h 0 Z) (Qb0 0 (φ':=Q4i Q11 ([((⟨1,0,[(⟨1,1,(⟨#[]⟩ : ByteArray)⟩ : V),(⟨1,1,(⟨#[]⟩ : ByteArray)⟩ : V)]⟩ : Qz),(some (⟨aH,0,none⟩ : Addr),2)),((⟨2,0,[(⟨1,1,(⟨#[]⟩ : ByteArray)⟩ : V),(⟨1,2,(⟨#[]⟩ : ByteArray)⟩ : V)]⟩ : Qz),(some (⟨aJ,0,none⟩ : Addr),2))]) none) Z Z (H':=V4 ..) Z (Q27 [Q21 Q11 71 3 (.slice (some ⟨g9,0,none⟩) 2 2) ([(⟨1,0,[(⟨1,1,(⟨#[]⟩ : ByteArray)⟩ : V),(⟨1,1,(⟨#[]⟩ : ByteArray)⟩ : V)]⟩ : Qz),(⟨2,0,[(⟨1,1,(⟨#[]⟩ : ByteArray)⟩ : V),(⟨1,2,(⟨#[]⟩ : ByteArray)⟩ : V)]⟩ : Qz)]),_,_] (fun _ h=>h.treeIn 1 0 Z Z Z Z) (QQ 1 Z (fun aQ _=>?_)))))))))))))
 subst aQ
 refine Q1P 1 Z (H':=[_,_]) Z (Q2n (.sli 2 Qb aU aV aS) (fun F w hφ=>Q1A (hφ _ (Q12 (k:=0) Z))) (QQ 1 Z (fun aR _=>?_)))
 subst aR
 refine Q1P 1 Z (H':=[_]) Z (Q2n (.sli 5 Qa aW aX aT) (fun F w hφ=>Q1A (hφ _ (Q12 (k:=0) Z))) (Q27 [.own 71 3 QP (.slice (some ⟨g9,0,none⟩) 2 2) ([(⟨1,0,[(⟨1,1,(⟨#[]⟩ : ByteArray)⟩ : V),(⟨1,1,(⟨#[]⟩ : ByteArray)⟩ : V)]⟩ : Qz),(⟨2,0,[(⟨1,1,(⟨#[]⟩ : ByteArray)⟩ : V),(⟨1,2,(⟨#[]⟩ : ByteArray)⟩ : V)]⟩ : Qz)])] (fun _ h=>h.letgo Q2X 0 Z) (QQ 0 Z (fun bN _=>(wl_at 0 (v':=.slice (some ⟨g9,0,none⟩) ([(⟨1,0,[(⟨1,1,(⟨#[]⟩ : ByteArray)⟩ : V),(⟨1,1,(⟨#[]⟩ : ByteArray)⟩ : V)]⟩ : Qz),(⟨2,0,[(⟨1,1,(⟨#[]⟩ : ByteArray)⟩ : V),(⟨1,2,(⟨#[]⟩ : ByteArray)⟩ : V)]⟩ : Qz)].length) 2) Z (by first | rfl | (rw [bN]; done) | simp) (Qb0 0 (φ':=.own 71 3 QP (.slice (some ⟨g9,0,none⟩) ([(⟨1,0,[(⟨1,1,(⟨#[]⟩ : ByteArray)⟩ : V),(⟨1,1,(⟨#[]⟩ : ByteArray)⟩ : V)]⟩ : Qz),(⟨2,0,[(⟨1,1,(⟨#[]⟩ : ByteArray)⟩ : V),(⟨1,2,(⟨#[]⟩ : ByteArray)⟩ : V)]⟩ : Qz)].length) 2) ([(⟨1,0,[(⟨1,1,(⟨#[]⟩ : ByteArray)⟩ : V),(⟨1,1,(⟨#[]⟩ : ByteArray)⟩ : V)]⟩ : Qz),(⟨2,0,[(⟨1,1,(⟨#[]⟩ : ByteArray)⟩ : V),(⟨1,2,(⟨#[]⟩ : ByteArray)⟩ : V)]⟩ : Qz)])) Z (by first | rfl | (rw [bN]; done) | simp) (H':=[_]) Z (Q1P 0 Z (H':=[]) Z (Q2n (.sli 3 QP (some ⟨g9,0,none⟩) 2 ([(⟨1,0,[(⟨1,1,(⟨#[]⟩ : ByteArray)⟩ : V),(⟨1,1,(⟨#[]⟩ : ByteArray)⟩ : V)]⟩ : Qz),(⟨2,0,[(⟨1,1,(⟨#[]⟩ : ByteArray)⟩ : V),(⟨1,2,(⟨#[]⟩ : ByteArray)⟩ : V)]⟩ : Qz)])) (fun F w hφ=>Q1A (hφ _ (Q12 (k:=0) Z))) ?_))))))))
 obtain ⟨⟨aL,aO⟩,bO,hm⟩:=Q6 hm
 try dsimp only at hm
 refine wC [] [] Z fn_12 Z (Q90 N aU aV aS aW aX aT (some ⟨g9,0,none⟩) 2 [(⟨1,0,[(⟨1,1,(⟨#[]⟩ : ByteArray)⟩ : V),(⟨1,1,(⟨#[]⟩ : ByteArray)⟩ : V)]⟩ : Qz),(⟨2,0,[(⟨1,1,(⟨#[]⟩ : ByteArray)⟩ : V),(⟨1,2,(⟨#[]⟩ : ByteArray)⟩ : V)]⟩ : Qz)] _ _ bO) (asK [4,2,0] Z) Z (H':=[]) Z ?_
 rintro _ _ _ ⟨b3,b4,b5,rfl,rfl,rfl⟩
 refine Q27 [.own 41 2 Q1x (.slice b3 b5 b4) aL] (fun _ h=>h.letgo Q8m 0 Z) (wP Z (wP Z (wP Z (wP Z (wP Z (Q4 (Q3 (Q2 [2,1] (S':=[_,_]) Z (Q5 (Q5 (Q1 (wP Z (wP Z ?_)))))))))))))
 refine Qs (d:=14) (v':=.bool (aO != 0)) (S':=V3 ..) Z Z (natne (a:=aO) (b:=0)) (wP Z ?_)
 obtain ⟨b6,hm⟩:=Qd hm
 refine Qs (d:=15) (v':=.bool false) (S':=V4 ..) Z Z (Qy b6) (wP Z (QQ 0 Z (fun bP _=>(wN Z Q9i (Qs (d:=17) (v':=.int .i64 ((aL.length:Nat):Int)) (S':=V6 ..) Z Z (Q7a bP) (wP Z (Qs (d:=18) (v':=.bool (aL.length != 2)) (S':=V7 ..) Z Z (natne (a:=aL.length) (b:=2)) (wP Z (wP Z ?_)))))))))
 obtain ⟨b7,hm⟩:=Qd hm
 refine Qs (d:=20) (v':=.bool false) (S':=V9 ..) Z Z (Qy b7) (wP Z ?_)
 obtain ⟨b8,aY,hm⟩:=Q6 hm
 refine Q7N 0 1 Z Z Z Zq Z Z Z Z Z (Q2Y aY) Q9i Q8f (fun c7 bQ=>?_)
 subst bQ
 refine wF Z Q9Q (Q29 Q1T 0 1 1 Z Z Z Zq Z Z Z aY Q9n tA_39 (v:=fun b9=>.slice b9.1 b8.ids.length b9.2) (fun _=>Z) (fun _=>Z) (fun b9 _=>(wN Z Q5V (wP Z (Qs (d:=26) (v':=.bool (b8.ids.length != 2)) (S':=V15 ..) Z Z (natne (a:=b8.ids.length) (b:=2)) (wP Z (wP Z ?_)))))))
 obtain ⟨bA,hm⟩:=Qd hm
 refine Qs (d:=28) (v':=.bool false) (S':=V17 ..) Z Z (Qy bA) (wP Z ?_)
 obtain ⟨bZ,aZ,hm⟩:=Q6 hm
 refine Q8j 0 1 Z Z Z Zq Z Z Z Z Z (Q2Y aZ) Q9i Q8f (wF Z Q9Q (Q29 Q1T 0 1 1 Z Z Z Zq Z Z Z aZ Q9n tA_39 (v:=fun bB=>.slice bB.1 bZ.ids.length bB.2) (fun _=>Z) (fun _=>Z) (fun bB _=>?_)))
 obtain ⟨c8,bR,hm⟩:=Q6 hm
 refine Q1a 0 1 Z Z Z Zq Z Z Z Z Z bR Q5V Q1m (fun c9 cA c6 c0=>(Q1G Q9a 1 Z (fun cB bS _=>?_)))
 subst bS
 refine Q1F 0 0 Z Z Z Zq Z Z Z (cs:=[_]) Z Q1m Q1H Z Z (wP Z (wP Z ?_))
 obtain ⟨bC,hm⟩:=Qd hm
 refine Qs (d:=36) (v':=.bool false) (S':=V25 ..) Z Z (Qy bC) (Q4 (Q3 (Q2 [36,1] (S':=[_,_]) Z (Q1l Z (Q2 [1] (S':=[_]) Z (Qr (Q3 (Q5 ?_))))))))
 obtain ⟨⟨aE,aF⟩,b0,hm⟩:=Q6 hm
 try dsimp only at hm
 obtain ⟨aG,aK,hm⟩:=Q6 hm
 obtain ⟨_,aP,hm⟩:=Q6 hm
 try dsimp only at hm
 obtain ⟨_,aN,hm⟩:=Q6 hm
 try dsimp only at hm
 obtain ⟨⟨aM,bD⟩,bT,hm⟩:=Q6 hm
 try dsimp only at hm
 refine QM (σ:=OA × Nat × Nat) (fun _=>True) (fun (a7,a8,a9)=>[(4,.bool bD),(3,.slice a7 a9 a8)]) (fun (a7,a8,a9)=>[]) (fun (a7,a8,a9)=>[.own 57 3 R_V (.slice a7 a9 a8) aM]) ?_ ?_
 ·
  refine QW [1,2,8,9,10] Z Z (fun hok=>(xP hok 1 Z (wx_indexK hok 2 0 1 Z Z Z Zq Z Z Z Z Z Z (Q2Y aK) Q9i Q8f ?_)))
  refine Q34 hok 0 3 Z Z Z Z Z Z ?_ ?_
  rotate_left
  focus
   refine Q29 Q1T 0 1 0 Z Z Z Zq Z Z Z aK Q8f tA_41 (v:=fun a6=>.agg #[.int .i64 (aG.rule),.slice a6.1 aG.ids.length a6.2]) (fun _=>Z) (fun _=>Z) (fun a6 _=>(Q4 (QJ [1,2,3,4,5,6,7,8,9,10] [] Z Z (xS hok 0 Z (wC [] [0] Z fn_24 Z (Q5B N _ _ b0) (asK [] Z) Z (H':=[_]) Z ?_)))))
   rintro _ _ _ ⟨aA,aB,bE,aC,aD,bF,rfl,rfl,rfl⟩
   refine Q4 (QJ [0,1,2,3,4,5,6,7,8,9,10] [] Z Z (xS hok 4 Z (wC [] [0,1,2] Z fn_21 Z (Q23 N 1 1 1 aP) (asK [] Z) Z (H':=V3 ..) Z ?_)))
   rintro _ _ _ ⟨s,rfl,rfl,rfl⟩
   refine Q4 (QJ [0,1,2,3,4,5,6,7,8,9,10] [] Z Z (xS hok 5 Z (wC [] [0,1,2,3] Z fn_21 Z (Q23 N 2 1 2 aN) (asK [] Z) Z (H':=V4 ..) Z ?_)))
   rintro _ _ _ ⟨z,rfl,rfl,rfl⟩
   refine Q4 (QJ [0,1,2,3,4,5,6,7,8,9,10] [] Z Z (xS hok 6 Z (QB Z Z Z Zq Z Q2y Q2N Q9N Z (zs:=[.int .i64 0,.int .i64 0,V1,.int .i64 0,.int .i64 0,V1]) (by kernel_rfl) Z (out:=V6 ..) Z (fun a5=>(Q4 (QJ [0,1,2,3,4,5,6,7,8,9,10] [] Z Z (xS hok 7 Z (Q1Z (sz:=3) (m:=2) R_V ([(⟨1,1,(⟨#[]⟩ : ByteArray)⟩ : V),(⟨1,1,(⟨#[]⟩ : ByteArray)⟩ : V)]) 2 Z (fun F w hφ=>⟨[.int .u8 1,.int .i64 1,.string ((⟨#[]⟩ : ByteArray))],[.int .u8 1,.int .i64 1,.string ((⟨#[]⟩ : ByteArray))],Z,Z,⟨(),Z,Qu⟩,⟨[.int .u8 1,.int .i64 1,.string ((⟨#[]⟩ : ByteArray))],[],Z,Z,⟨(),Z,Qu⟩,Z⟩⟩) Z (by decide) (H':=V6 ..) Z (Q1Z (sz:=3) (m:=2) R_V ([(⟨1,1,(⟨#[]⟩ : ByteArray)⟩ : V),(⟨1,2,(⟨#[]⟩ : ByteArray)⟩ : V)]) 1 Z (fun F w hφ=>⟨[.int .u8 1,.int .i64 1,.string ((⟨#[]⟩ : ByteArray))],[.int .u8 1,.int .i64 2,.string ((⟨#[]⟩ : ByteArray))],Z,Z,⟨(),Z,Qu⟩,⟨[.int .u8 1,.int .i64 2,.string ((⟨#[]⟩ : ByteArray))],[],Z,Z,⟨(),Z,Qu⟩,Z⟩⟩) Z (by decide) (H':=V6 ..) Z (Q1Z (sz:=3) (m:=2) Q11.pair ([((⟨1,0,[(⟨1,1,(⟨#[]⟩ : ByteArray)⟩ : V),(⟨1,1,(⟨#[]⟩ : ByteArray)⟩ : V)]⟩ : Qz),(some (⟨s,0,none⟩ : Addr),2)),((⟨2,0,[(⟨1,1,(⟨#[]⟩ : ByteArray)⟩ : V),(⟨1,2,(⟨#[]⟩ : ByteArray)⟩ : V)]⟩ : Qz),(some (⟨z,0,none⟩ : Addr),2))]) 0 Z (fun F w hφ=>⟨[.int .i64 1,.int .i64 0,.slice (some ⟨s,0,none⟩) 2 2],[.int .i64 2,.int .i64 0,.slice (some ⟨z,0,none⟩) 2 2],Z,Z,Z,⟨[.int .i64 2,.int .i64 0,.slice (some ⟨z,0,none⟩) 2 2],[],Z,Z,Z,Z⟩⟩) Z (by decide) (H':=V6 ..) Z (Q27 [Q4i Q11 [] none,_,_,_,_,_,_] (fun _ h=>h.bagNil Q11) (Q5y [3,0,1,2,4,5,6] Z (H':=V7 ..) Z (Q27 [Q4i Q11 ([((⟨1,0,[(⟨1,1,(⟨#[]⟩ : ByteArray)⟩ : V),(⟨1,1,(⟨#[]⟩ : ByteArray)⟩ : V)]⟩ : Qz),(some (⟨s,0,none⟩ : Addr),2))]) none,_,_,_,_,_] (fun _ h=>Q16.bagPush (T:=Q11) (x:=(⟨1,0,[(⟨1,1,(⟨#[]⟩ : ByteArray)⟩ : V),(⟨1,1,(⟨#[]⟩ : ByteArray)⟩ : V)]⟩ : Qz)) (r:=(some (⟨s,0,none⟩ : Addr),2)) (zs:=[]) (H:=V6 ..) h 0 Z) (Q5y [2,0,1,3,4,5] Z (H':=V6 ..) Z ?_))))))))))))))
   refine Q27 [Q4i Q11 (([((⟨1,0,[(⟨1,1,(⟨#[]⟩ : ByteArray)⟩ : V),(⟨1,1,(⟨#[]⟩ : ByteArray)⟩ : V)]⟩ : Qz),(some (⟨s,0,none⟩ : Addr),2))]) ++ [((⟨2,0,[(⟨1,1,(⟨#[]⟩ : ByteArray)⟩ : V),(⟨1,2,(⟨#[]⟩ : ByteArray)⟩ : V)]⟩ : Qz),(some (⟨z,0,none⟩ : Addr),2))]) none,_,_,_,_] (fun _ h=>Q16.bagPush (T:=Q11) (x:=(⟨2,0,[(⟨1,1,(⟨#[]⟩ : ByteArray)⟩ : V),(⟨1,2,(⟨#[]⟩ : ByteArray)⟩ : V)]⟩ : Qz)) (r:=(some (⟨z,0,none⟩ : Addr),2)) (zs:=[((⟨1,0,[(⟨1,1,(⟨#[]⟩ : ByteArray)⟩ : V),(⟨1,1,(⟨#[]⟩ : ByteArray)⟩ : V)]⟩ : Qz),(some (⟨s,0,none⟩ : Addr),2))]) (H:=V5 ..) h 0 Z) (Qb0 0 (φ':=Q4i Q11 ([((⟨1,0,[(⟨1,1,(⟨#[]⟩ : ByteArray)⟩ : V),(⟨1,1,(⟨#[]⟩ : ByteArray)⟩ : V)]⟩ : Qz),(some (⟨s,0,none⟩ : Addr),2)),((⟨2,0,[(⟨1,1,(⟨#[]⟩ : ByteArray)⟩ : V),(⟨1,2,(⟨#[]⟩ : ByteArray)⟩ : V)]⟩ : Qz),(some (⟨z,0,none⟩ : Addr),2))]) none) Z Z (H':=V5 ..) Z (Q27 [Q21 Q11 71 3 (.slice (some ⟨a5,0,none⟩) 2 2) ([(⟨1,0,[(⟨1,1,(⟨#[]⟩ : ByteArray)⟩ : V),(⟨1,1,(⟨#[]⟩ : ByteArray)⟩ : V)]⟩ : Qz),(⟨2,0,[(⟨1,1,(⟨#[]⟩ : ByteArray)⟩ : V),(⟨1,2,(⟨#[]⟩ : ByteArray)⟩ : V)]⟩ : Qz)]),_,_,_] (fun _ h=>h.treeIn 1 0 Z Z Z Z) (QQ 1 Z (fun a0 _=>?_))))
   subst a0
   refine Q1P 1 Z (H':=V3 ..) Z (Q2n (.sli 2 Qb aA aB aE) (fun F w hφ=>Q1A (hφ _ (Q12 (k:=0) Z))) (QQ 1 Z (fun a1 _=>?_)))
   subst a1
   refine Q1P 1 Z (H':=[_,_]) Z (Q2n (.sli 5 Qa aC aD aF) (fun F w hφ=>Q1A (hφ _ (Q12 (k:=0) Z))) (Q27 [.own 71 3 QP (.slice (some ⟨a5,0,none⟩) 2 2) ([(⟨1,0,[(⟨1,1,(⟨#[]⟩ : ByteArray)⟩ : V),(⟨1,1,(⟨#[]⟩ : ByteArray)⟩ : V)]⟩ : Qz),(⟨2,0,[(⟨1,1,(⟨#[]⟩ : ByteArray)⟩ : V),(⟨1,2,(⟨#[]⟩ : ByteArray)⟩ : V)]⟩ : Qz)]),_] (fun _ h=>h.letgo Q2X 0 Z) (QQ 0 Z (fun aI _=>(wl_at 0 (v':=.slice (some ⟨a5,0,none⟩) ([(⟨1,0,[(⟨1,1,(⟨#[]⟩ : ByteArray)⟩ : V),(⟨1,1,(⟨#[]⟩ : ByteArray)⟩ : V)]⟩ : Qz),(⟨2,0,[(⟨1,1,(⟨#[]⟩ : ByteArray)⟩ : V),(⟨1,2,(⟨#[]⟩ : ByteArray)⟩ : V)]⟩ : Qz)].length) 2) Z (by first | rfl | (rw [aI]; done) | simp) ?_)))))
  rotate_right
  focus
   refine wC [] [0] Z fn_24 Z (Q5B N _ _ b0) (asK [] Z) Z (H':=[_]) Z ?_
   rintro _ _ _ ⟨aA,aB,bE,aC,aD,bF,rfl,rfl,rfl⟩
   refine Q4 (QJ [0,1,2,3,4,5,6,7,8,9] [] Z Z ?_)
   refine Q34 hok 3 4 Z Z Z Z Z Z ?_ ?_
   rotate_left
   focus
    refine wC [] [0,1,2] Z fn_21 Z (Q23 N 1 1 1 aP) (asK [] Z) Z (H':=V3 ..) Z ?_
    rintro _ _ _ ⟨s,rfl,rfl,rfl⟩
    refine Q4 (QJ [0,1,2,3,4,5,6,7,8,9] [] Z Z ?_)
    refine Q34 hok 3 5 Z Z Z Z Z Z ?_ ?_
    rotate_left
    focus
     refine wC [] [0,1,2,3] Z fn_21 Z (Q23 N 2 1 2 aN) (asK [] Z) Z (H':=V4 ..) Z ?_
     rintro _ _ _ ⟨z,rfl,rfl,rfl⟩
     refine Q4 (QJ [0,1,2,3,4,5,6,7,8,9] [] Z Z ?_)
     refine Q34 hok 3 6 Z Z Z Z Z Z ?_ ?_
     rotate_left
     focus
      refine QB Z Z Z Zq Z Q2y Q2N Q9N Z (zs:=[.int .i64 0,.int .i64 0,V1,.int .i64 0,.int .i64 0,V1]) (by kernel_rfl) Z (out:=V6 ..) Z (fun a5=>(Q4 (QJ [0,1,2,3,4,5,6,7,8,9] [] Z Z (xS hok 3 Z (Q29 Q1T 5 1 0 Z Z Z Zq Z Z Z aK Q8f tA_41 (v:=fun a6=>.agg #[.int .i64 (aG.rule),.slice a6.1 aG.ids.length a6.2]) (fun _=>Z) (fun _=>Z) (fun a6 _=>(Q4 (QJ [1,2,3,4,5,6,7,8,9,10] [] Z Z (xS hok 7 Z (Q1Z (sz:=3) (m:=2) R_V ([(⟨1,1,(⟨#[]⟩ : ByteArray)⟩ : V),(⟨1,1,(⟨#[]⟩ : ByteArray)⟩ : V)]) 2 Z (fun F w hφ=>⟨[.int .u8 1,.int .i64 1,.string ((⟨#[]⟩ : ByteArray))],[.int .u8 1,.int .i64 1,.string ((⟨#[]⟩ : ByteArray))],Z,Z,⟨(),Z,Qu⟩,⟨[.int .u8 1,.int .i64 1,.string ((⟨#[]⟩ : ByteArray))],[],Z,Z,⟨(),Z,Qu⟩,Z⟩⟩) Z (by decide) (H':=V6 ..) Z (Q1Z (sz:=3) (m:=2) R_V ([(⟨1,1,(⟨#[]⟩ : ByteArray)⟩ : V),(⟨1,2,(⟨#[]⟩ : ByteArray)⟩ : V)]) 1 Z (fun F w hφ=>⟨[.int .u8 1,.int .i64 1,.string ((⟨#[]⟩ : ByteArray))],[.int .u8 1,.int .i64 2,.string ((⟨#[]⟩ : ByteArray))],Z,Z,⟨(),Z,Qu⟩,⟨[.int .u8 1,.int .i64 2,.string ((⟨#[]⟩ : ByteArray))],[],Z,Z,⟨(),Z,Qu⟩,Z⟩⟩) Z (by decide) (H':=V6 ..) Z (Q1Z (sz:=3) (m:=2) Q11.pair ([((⟨1,0,[(⟨1,1,(⟨#[]⟩ : ByteArray)⟩ : V),(⟨1,1,(⟨#[]⟩ : ByteArray)⟩ : V)]⟩ : Qz),(some (⟨s,0,none⟩ : Addr),2)),((⟨2,0,[(⟨1,1,(⟨#[]⟩ : ByteArray)⟩ : V),(⟨1,2,(⟨#[]⟩ : ByteArray)⟩ : V)]⟩ : Qz),(some (⟨z,0,none⟩ : Addr),2))]) 0 Z (fun F w hφ=>⟨[.int .i64 1,.int .i64 0,.slice (some ⟨s,0,none⟩) 2 2],[.int .i64 2,.int .i64 0,.slice (some ⟨z,0,none⟩) 2 2],Z,Z,Z,⟨[.int .i64 2,.int .i64 0,.slice (some ⟨z,0,none⟩) 2 2],[],Z,Z,Z,Z⟩⟩) Z (by decide) (H':=V6 ..) Z (Q27 [Q4i Q11 [] none,_,_,_,_,_,_] (fun _ h=>h.bagNil Q11) (Q5y [3,0,1,2,4,5,6] Z (H':=V7 ..) Z (Q27 [Q4i Q11 ([((⟨1,0,[(⟨1,1,(⟨#[]⟩ : ByteArray)⟩ : V),(⟨1,1,(⟨#[]⟩ : ByteArray)⟩ : V)]⟩ : Qz),(some (⟨s,0,none⟩ : Addr),2))]) none,_,_,_,_,_] (fun _ h=>Q16.bagPush (T:=Q11) (x:=(⟨1,0,[(⟨1,1,(⟨#[]⟩ : ByteArray)⟩ : V),(⟨1,1,(⟨#[]⟩ : ByteArray)⟩ : V)]⟩ : Qz)) (r:=(some (⟨s,0,none⟩ : Addr),2)) (zs:=[]) (H:=V6 ..) h 0 Z) ?_)))))))))))))))
      refine Q5y [2,0,1,3,4,5] Z (H':=V6 ..) Z (Q27 [Q4i Q11 (([((⟨1,0,[(⟨1,1,(⟨#[]⟩ : ByteArray)⟩ : V),(⟨1,1,(⟨#[]⟩ : ByteArray)⟩ : V)]⟩ : Qz),(some (⟨s,0,none⟩ : Addr),2))]) ++ [((⟨2,0,[(⟨1,1,(⟨#[]⟩ : ByteArray)⟩ : V),(⟨1,2,(⟨#[]⟩ : ByteArray)⟩ : V)]⟩ : Qz),(some (⟨z,0,none⟩ : Addr),2))]) none,_,_,_,_] (fun _ h=>Q16.bagPush (T:=Q11) (x:=(⟨2,0,[(⟨1,1,(⟨#[]⟩ : ByteArray)⟩ : V),(⟨1,2,(⟨#[]⟩ : ByteArray)⟩ : V)]⟩ : Qz)) (r:=(some (⟨z,0,none⟩ : Addr),2)) (zs:=[((⟨1,0,[(⟨1,1,(⟨#[]⟩ : ByteArray)⟩ : V),(⟨1,1,(⟨#[]⟩ : ByteArray)⟩ : V)]⟩ : Qz),(some (⟨s,0,none⟩ : Addr),2))]) (H:=V5 ..) h 0 Z) (Qb0 0 (φ':=Q4i Q11 ([((⟨1,0,[(⟨1,1,(⟨#[]⟩ : ByteArray)⟩ : V),(⟨1,1,(⟨#[]⟩ : ByteArray)⟩ : V)]⟩ : Qz),(some (⟨s,0,none⟩ : Addr),2)),((⟨2,0,[(⟨1,1,(⟨#[]⟩ : ByteArray)⟩ : V),(⟨1,2,(⟨#[]⟩ : ByteArray)⟩ : V)]⟩ : Qz),(some (⟨z,0,none⟩ : Addr),2))]) none) Z Z (H':=V5 ..) Z (Q27 [Q21 Q11 71 3 (.slice (some ⟨a5,0,none⟩) 2 2) ([(⟨1,0,[(⟨1,1,(⟨#[]⟩ : ByteArray)⟩ : V),(⟨1,1,(⟨#[]⟩ : ByteArray)⟩ : V)]⟩ : Qz),(⟨2,0,[(⟨1,1,(⟨#[]⟩ : ByteArray)⟩ : V),(⟨1,2,(⟨#[]⟩ : ByteArray)⟩ : V)]⟩ : Qz)]),_,_,_] (fun _ h=>h.treeIn 1 0 Z Z Z Z) (QQ 1 Z (fun a0 _=>?_)))))
      subst a0
      refine Q1P 1 Z (H':=V3 ..) Z (Q2n (.sli 2 Qb aA aB aE) (fun F w hφ=>Q1A (hφ _ (Q12 (k:=0) Z))) (QQ 1 Z (fun a1 _=>?_)))
      subst a1
      refine Q1P 1 Z (H':=[_,_]) Z (Q2n (.sli 5 Qa aC aD aF) (fun F w hφ=>Q1A (hφ _ (Q12 (k:=0) Z))) (Q27 [.own 71 3 QP (.slice (some ⟨a5,0,none⟩) 2 2) ([(⟨1,0,[(⟨1,1,(⟨#[]⟩ : ByteArray)⟩ : V),(⟨1,1,(⟨#[]⟩ : ByteArray)⟩ : V)]⟩ : Qz),(⟨2,0,[(⟨1,1,(⟨#[]⟩ : ByteArray)⟩ : V),(⟨1,2,(⟨#[]⟩ : ByteArray)⟩ : V)]⟩ : Qz)]),_] (fun _ h=>h.letgo Q2X 0 Z) (QQ 0 Z (fun aI _=>(wl_at 1 (v':=.slice (some ⟨a5,0,none⟩) ([(⟨1,0,[(⟨1,1,(⟨#[]⟩ : ByteArray)⟩ : V),(⟨1,1,(⟨#[]⟩ : ByteArray)⟩ : V)]⟩ : Qz),(⟨2,0,[(⟨1,1,(⟨#[]⟩ : ByteArray)⟩ : V),(⟨1,2,(⟨#[]⟩ : ByteArray)⟩ : V)]⟩ : Qz)].length) 2) Z (by first | rfl | (rw [aI]; done) | simp) ?_)))))
     rotate_right
     focus
      refine Q29 Q1T 4 1 0 Z Z Z Zq Z Z Z aK Q8f tA_41 (v:=fun a6=>.agg #[.int .i64 (aG.rule),.slice a6.1 aG.ids.length a6.2]) (fun _=>Z) (fun _=>Z) (fun a6 _=>(Q4 (QJ [1,2,3,4,5,6,7,8,9,10] [] Z Z (xS hok 6 Z (QB Z Z Z Zq Z Q2y Q2N Q9N Z (zs:=[.int .i64 0,.int .i64 0,V1,.int .i64 0,.int .i64 0,V1]) (by kernel_rfl) Z (out:=V6 ..) Z (fun a5=>(Q4 (QJ [0,1,2,3,4,5,6,7,8,9,10] [] Z Z (xS hok 7 Z (Q1Z (sz:=3) (m:=2) R_V ([(⟨1,1,(⟨#[]⟩ : ByteArray)⟩ : V),(⟨1,1,(⟨#[]⟩ : ByteArray)⟩ : V)]) 2 Z (fun F w hφ=>⟨[.int .u8 1,.int .i64 1,.string ((⟨#[]⟩ : ByteArray))],[.int .u8 1,.int .i64 1,.string ((⟨#[]⟩ : ByteArray))],Z,Z,⟨(),Z,Qu⟩,⟨[.int .u8 1,.int .i64 1,.string ((⟨#[]⟩ : ByteArray))],[],Z,Z,⟨(),Z,Qu⟩,Z⟩⟩) Z (by decide) (H':=V6 ..) Z (Q1Z (sz:=3) (m:=2) R_V ([(⟨1,1,(⟨#[]⟩ : ByteArray)⟩ : V),(⟨1,2,(⟨#[]⟩ : ByteArray)⟩ : V)]) 1 Z (fun F w hφ=>⟨[.int .u8 1,.int .i64 1,.string ((⟨#[]⟩ : ByteArray))],[.int .u8 1,.int .i64 2,.string ((⟨#[]⟩ : ByteArray))],Z,Z,⟨(),Z,Qu⟩,⟨[.int .u8 1,.int .i64 2,.string ((⟨#[]⟩ : ByteArray))],[],Z,Z,⟨(),Z,Qu⟩,Z⟩⟩) Z (by decide) (H':=V6 ..) Z (Q1Z (sz:=3) (m:=2) Q11.pair ([((⟨1,0,[(⟨1,1,(⟨#[]⟩ : ByteArray)⟩ : V),(⟨1,1,(⟨#[]⟩ : ByteArray)⟩ : V)]⟩ : Qz),(some (⟨s,0,none⟩ : Addr),2)),((⟨2,0,[(⟨1,1,(⟨#[]⟩ : ByteArray)⟩ : V),(⟨1,2,(⟨#[]⟩ : ByteArray)⟩ : V)]⟩ : Qz),(some (⟨z,0,none⟩ : Addr),2))]) 0 Z (fun F w hφ=>⟨[.int .i64 1,.int .i64 0,.slice (some ⟨s,0,none⟩) 2 2],[.int .i64 2,.int .i64 0,.slice (some ⟨z,0,none⟩) 2 2],Z,Z,Z,⟨[.int .i64 2,.int .i64 0,.slice (some ⟨z,0,none⟩) 2 2],[],Z,Z,Z,Z⟩⟩) Z (by decide) (H':=V6 ..) Z (Q27 [Q4i Q11 [] none,_,_,_,_,_,_] (fun _ h=>h.bagNil Q11) (Q5y [3,0,1,2,4,5,6] Z (H':=V7 ..) Z (Q27 [Q4i Q11 ([((⟨1,0,[(⟨1,1,(⟨#[]⟩ : ByteArray)⟩ : V),(⟨1,1,(⟨#[]⟩ : ByteArray)⟩ : V)]⟩ : Qz),(some (⟨s,0,none⟩ : Addr),2))]) none,_,_,_,_,_] (fun _ h=>Q16.bagPush (T:=Q11) (x:=(⟨1,0,[(⟨1,1,(⟨#[]⟩ : ByteArray)⟩ : V),(⟨1,1,(⟨#[]⟩ : ByteArray)⟩ : V)]⟩ : Qz)) (r:=(some (⟨s,0,none⟩ : Addr),2)) (zs:=[]) (H:=V6 ..) h 0 Z) ?_)))))))))))))))
      refine Q5y [2,0,1,3,4,5] Z (H':=V6 ..) Z (Q27 [Q4i Q11 (([((⟨1,0,[(⟨1,1,(⟨#[]⟩ : ByteArray)⟩ : V),(⟨1,1,(⟨#[]⟩ : ByteArray)⟩ : V)]⟩ : Qz),(some (⟨s,0,none⟩ : Addr),2))]) ++ [((⟨2,0,[(⟨1,1,(⟨#[]⟩ : ByteArray)⟩ : V),(⟨1,2,(⟨#[]⟩ : ByteArray)⟩ : V)]⟩ : Qz),(some (⟨z,0,none⟩ : Addr),2))]) none,_,_,_,_] (fun _ h=>Q16.bagPush (T:=Q11) (x:=(⟨2,0,[(⟨1,1,(⟨#[]⟩ : ByteArray)⟩ : V),(⟨1,2,(⟨#[]⟩ : ByteArray)⟩ : V)]⟩ : Qz)) (r:=(some (⟨z,0,none⟩ : Addr),2)) (zs:=[((⟨1,0,[(⟨1,1,(⟨#[]⟩ : ByteArray)⟩ : V),(⟨1,1,(⟨#[]⟩ : ByteArray)⟩ : V)]⟩ : Qz),(some (⟨s,0,none⟩ : Addr),2))]) (H:=V5 ..) h 0 Z) (Qb0 0 (φ':=Q4i Q11 ([((⟨1,0,[(⟨1,1,(⟨#[]⟩ : ByteArray)⟩ : V),(⟨1,1,(⟨#[]⟩ : ByteArray)⟩ : V)]⟩ : Qz),(some (⟨s,0,none⟩ : Addr),2)),((⟨2,0,[(⟨1,1,(⟨#[]⟩ : ByteArray)⟩ : V),(⟨1,2,(⟨#[]⟩ : ByteArray)⟩ : V)]⟩ : Qz),(some (⟨z,0,none⟩ : Addr),2))]) none) Z Z (H':=V5 ..) Z (Q27 [Q21 Q11 71 3 (.slice (some ⟨a5,0,none⟩) 2 2) ([(⟨1,0,[(⟨1,1,(⟨#[]⟩ : ByteArray)⟩ : V),(⟨1,1,(⟨#[]⟩ : ByteArray)⟩ : V)]⟩ : Qz),(⟨2,0,[(⟨1,1,(⟨#[]⟩ : ByteArray)⟩ : V),(⟨1,2,(⟨#[]⟩ : ByteArray)⟩ : V)]⟩ : Qz)]),_,_,_] (fun _ h=>h.treeIn 1 0 Z Z Z Z) (QQ 1 Z (fun a0 _=>?_)))))
      subst a0
      refine Q1P 1 Z (H':=V3 ..) Z (Q2n (.sli 2 Qb aA aB aE) (fun F w hφ=>Q1A (hφ _ (Q12 (k:=0) Z))) (QQ 1 Z (fun a1 _=>?_)))
      subst a1
      refine Q1P 1 Z (H':=[_,_]) Z (Q2n (.sli 5 Qa aC aD aF) (fun F w hφ=>Q1A (hφ _ (Q12 (k:=0) Z))) (Q27 [.own 71 3 QP (.slice (some ⟨a5,0,none⟩) 2 2) ([(⟨1,0,[(⟨1,1,(⟨#[]⟩ : ByteArray)⟩ : V),(⟨1,1,(⟨#[]⟩ : ByteArray)⟩ : V)]⟩ : Qz),(⟨2,0,[(⟨1,1,(⟨#[]⟩ : ByteArray)⟩ : V),(⟨1,2,(⟨#[]⟩ : ByteArray)⟩ : V)]⟩ : Qz)]),_] (fun _ h=>h.letgo Q2X 0 Z) (QQ 0 Z (fun aI _=>(wl_at 0 (v':=.slice (some ⟨a5,0,none⟩) ([(⟨1,0,[(⟨1,1,(⟨#[]⟩ : ByteArray)⟩ : V),(⟨1,1,(⟨#[]⟩ : ByteArray)⟩ : V)]⟩ : Qz),(⟨2,0,[(⟨1,1,(⟨#[]⟩ : ByteArray)⟩ : V),(⟨1,2,(⟨#[]⟩ : ByteArray)⟩ : V)]⟩ : Qz)].length) 2) Z (by first | rfl | (rw [aI]; done) | simp) ?_)))))
    rotate_right
    focus
     refine Q29 Q1T 3 1 0 Z Z Z Zq Z Z Z aK Q8f tA_41 (v:=fun a6=>.agg #[.int .i64 (aG.rule),.slice a6.1 aG.ids.length a6.2]) (fun _=>Z) (fun _=>Z) (fun a6 _=>(Q4 (QJ [1,2,3,4,5,6,7,8,9,10] [] Z Z (xS hok 5 Z (wC [] [0,1,2,3] Z fn_21 Z (Q23 N 2 1 2 aN) (asK [] Z) Z (H':=V4 ..) Z ?_)))))
     rintro _ _ _ ⟨z,rfl,rfl,rfl⟩
     refine Q4 (QJ [0,1,2,3,4,5,6,7,8,9,10] [] Z Z (xS hok 6 Z (QB Z Z Z Zq Z Q2y Q2N Q9N Z (zs:=[.int .i64 0,.int .i64 0,V1,.int .i64 0,.int .i64 0,V1]) (by kernel_rfl) Z (out:=V6 ..) Z (fun a5=>(Q4 (QJ [0,1,2,3,4,5,6,7,8,9,10] [] Z Z (xS hok 7 Z (Q1Z (sz:=3) (m:=2) R_V ([(⟨1,1,(⟨#[]⟩ : ByteArray)⟩ : V),(⟨1,1,(⟨#[]⟩ : ByteArray)⟩ : V)]) 2 Z (fun F w hφ=>⟨[.int .u8 1,.int .i64 1,.string ((⟨#[]⟩ : ByteArray))],[.int .u8 1,.int .i64 1,.string ((⟨#[]⟩ : ByteArray))],Z,Z,⟨(),Z,Qu⟩,⟨[.int .u8 1,.int .i64 1,.string ((⟨#[]⟩ : ByteArray))],[],Z,Z,⟨(),Z,Qu⟩,Z⟩⟩) Z (by decide) (H':=V6 ..) Z (Q1Z (sz:=3) (m:=2) R_V ([(⟨1,1,(⟨#[]⟩ : ByteArray)⟩ : V),(⟨1,2,(⟨#[]⟩ : ByteArray)⟩ : V)]) 1 Z (fun F w hφ=>⟨[.int .u8 1,.int .i64 1,.string ((⟨#[]⟩ : ByteArray))],[.int .u8 1,.int .i64 2,.string ((⟨#[]⟩ : ByteArray))],Z,Z,⟨(),Z,Qu⟩,⟨[.int .u8 1,.int .i64 2,.string ((⟨#[]⟩ : ByteArray))],[],Z,Z,⟨(),Z,Qu⟩,Z⟩⟩) Z (by decide) (H':=V6 ..) Z (Q1Z (sz:=3) (m:=2) Q11.pair ([((⟨1,0,[(⟨1,1,(⟨#[]⟩ : ByteArray)⟩ : V),(⟨1,1,(⟨#[]⟩ : ByteArray)⟩ : V)]⟩ : Qz),(some (⟨s,0,none⟩ : Addr),2)),((⟨2,0,[(⟨1,1,(⟨#[]⟩ : ByteArray)⟩ : V),(⟨1,2,(⟨#[]⟩ : ByteArray)⟩ : V)]⟩ : Qz),(some (⟨z,0,none⟩ : Addr),2))]) 0 Z (fun F w hφ=>⟨[.int .i64 1,.int .i64 0,.slice (some ⟨s,0,none⟩) 2 2],[.int .i64 2,.int .i64 0,.slice (some ⟨z,0,none⟩) 2 2],Z,Z,Z,⟨[.int .i64 2,.int .i64 0,.slice (some ⟨z,0,none⟩) 2 2],[],Z,Z,Z,Z⟩⟩) Z (by decide) (H':=V6 ..) Z (Q27 [Q4i Q11 [] none,_,_,_,_,_,_] (fun _ h=>h.bagNil Q11) (Q5y [3,0,1,2,4,5,6] Z (H':=V7 ..) Z (Q27 [Q4i Q11 ([((⟨1,0,[(⟨1,1,(⟨#[]⟩ : ByteArray)⟩ : V),(⟨1,1,(⟨#[]⟩ : ByteArray)⟩ : V)]⟩ : Qz),(some (⟨s,0,none⟩ : Addr),2))]) none,_,_,_,_,_] (fun _ h=>Q16.bagPush (T:=Q11) (x:=(⟨1,0,[(⟨1,1,(⟨#[]⟩ : ByteArray)⟩ : V),(⟨1,1,(⟨#[]⟩ : ByteArray)⟩ : V)]⟩ : Qz)) (r:=(some (⟨s,0,none⟩ : Addr),2)) (zs:=[]) (H:=V6 ..) h 0 Z) (Q5y [2,0,1,3,4,5] Z (H':=V6 ..) Z ?_))))))))))))))
     refine Q27 [Q4i Q11 (([((⟨1,0,[(⟨1,1,(⟨#[]⟩ : ByteArray)⟩ : V),(⟨1,1,(⟨#[]⟩ : ByteArray)⟩ : V)]⟩ : Qz),(some (⟨s,0,none⟩ : Addr),2))]) ++ [((⟨2,0,[(⟨1,1,(⟨#[]⟩ : ByteArray)⟩ : V),(⟨1,2,(⟨#[]⟩ : ByteArray)⟩ : V)]⟩ : Qz),(some (⟨z,0,none⟩ : Addr),2))]) none,_,_,_,_] (fun _ h=>Q16.bagPush (T:=Q11) (x:=(⟨2,0,[(⟨1,1,(⟨#[]⟩ : ByteArray)⟩ : V),(⟨1,2,(⟨#[]⟩ : ByteArray)⟩ : V)]⟩ : Qz)) (r:=(some (⟨z,0,none⟩ : Addr),2)) (zs:=[((⟨1,0,[(⟨1,1,(⟨#[]⟩ : ByteArray)⟩ : V),(⟨1,1,(⟨#[]⟩ : ByteArray)⟩ : V)]⟩ : Qz),(some (⟨s,0,none⟩ : Addr),2))]) (H:=V5 ..) h 0 Z) (Qb0 0 (φ':=Q4i Q11 ([((⟨1,0,[(⟨1,1,(⟨#[]⟩ : ByteArray)⟩ : V),(⟨1,1,(⟨#[]⟩ : ByteArray)⟩ : V)]⟩ : Qz),(some (⟨s,0,none⟩ : Addr),2)),((⟨2,0,[(⟨1,1,(⟨#[]⟩ : ByteArray)⟩ : V),(⟨1,2,(⟨#[]⟩ : ByteArray)⟩ : V)]⟩ : Qz),(some (⟨z,0,none⟩ : Addr),2))]) none) Z Z (H':=V5 ..) Z (Q27 [Q21 Q11 71 3 (.slice (some ⟨a5,0,none⟩) 2 2) ([(⟨1,0,[(⟨1,1,(⟨#[]⟩ : ByteArray)⟩ : V),(⟨1,1,(⟨#[]⟩ : ByteArray)⟩ : V)]⟩ : Qz),(⟨2,0,[(⟨1,1,(⟨#[]⟩ : ByteArray)⟩ : V),(⟨1,2,(⟨#[]⟩ : ByteArray)⟩ : V)]⟩ : Qz)]),_,_,_] (fun _ h=>h.treeIn 1 0 Z Z Z Z) (QQ 1 Z (fun a0 _=>?_))))
     subst a0
     refine Q1P 1 Z (H':=V3 ..) Z (Q2n (.sli 2 Qb aA aB aE) (fun F w hφ=>Q1A (hφ _ (Q12 (k:=0) Z))) (QQ 1 Z (fun a1 _=>?_)))
     subst a1
     refine Q1P 1 Z (H':=[_,_]) Z (Q2n (.sli 5 Qa aC aD aF) (fun F w hφ=>Q1A (hφ _ (Q12 (k:=0) Z))) (Q27 [.own 71 3 QP (.slice (some ⟨a5,0,none⟩) 2 2) ([(⟨1,0,[(⟨1,1,(⟨#[]⟩ : ByteArray)⟩ : V),(⟨1,1,(⟨#[]⟩ : ByteArray)⟩ : V)]⟩ : Qz),(⟨2,0,[(⟨1,1,(⟨#[]⟩ : ByteArray)⟩ : V),(⟨1,2,(⟨#[]⟩ : ByteArray)⟩ : V)]⟩ : Qz)]),_] (fun _ h=>h.letgo Q2X 0 Z) (QQ 0 Z (fun aI _=>(wl_at 0 (v':=.slice (some ⟨a5,0,none⟩) ([(⟨1,0,[(⟨1,1,(⟨#[]⟩ : ByteArray)⟩ : V),(⟨1,1,(⟨#[]⟩ : ByteArray)⟩ : V)]⟩ : Qz),(⟨2,0,[(⟨1,1,(⟨#[]⟩ : ByteArray)⟩ : V),(⟨1,2,(⟨#[]⟩ : ByteArray)⟩ : V)]⟩ : Qz)].length) 2) Z (by first | rfl | (rw [aI]; done) | simp) ?_)))))
   rotate_right
   focus
    refine Q29 Q1T 2 1 0 Z Z Z Zq Z Z Z aK Q8f tA_41 (v:=fun a6=>.agg #[.int .i64 (aG.rule),.slice a6.1 aG.ids.length a6.2]) (fun _=>Z) (fun _=>Z) (fun a6 _=>(Q4 (QJ [1,2,3,4,5,6,7,8,9,10] [] Z Z (xS hok 4 Z (wC [] [0,1,2] Z fn_21 Z (Q23 N 1 1 1 aP) (asK [] Z) Z (H':=V3 ..) Z ?_)))))
    rintro _ _ _ ⟨s,rfl,rfl,rfl⟩
    refine Q4 (QJ [0,1,2,3,4,5,6,7,8,9,10] [] Z Z (xS hok 5 Z (wC [] [0,1,2,3] Z fn_21 Z (Q23 N 2 1 2 aN) (asK [] Z) Z (H':=V4 ..) Z ?_)))
    rintro _ _ _ ⟨z,rfl,rfl,rfl⟩
    refine Q4 (QJ [0,1,2,3,4,5,6,7,8,9,10] [] Z Z (xS hok 6 Z (QB Z Z Z Zq Z Q2y Q2N Q9N Z (zs:=[.int .i64 0,.int .i64 0,V1,.int .i64 0,.int .i64 0,V1]) (by kernel_rfl) Z (out:=V6 ..) Z (fun a5=>(Q4 (QJ [0,1,2,3,4,5,6,7,8,9,10] [] Z Z (xS hok 7 Z (Q1Z (sz:=3) (m:=2) R_V ([(⟨1,1,(⟨#[]⟩ : ByteArray)⟩ : V),(⟨1,1,(⟨#[]⟩ : ByteArray)⟩ : V)]) 2 Z (fun F w hφ=>⟨[.int .u8 1,.int .i64 1,.string ((⟨#[]⟩ : ByteArray))],[.int .u8 1,.int .i64 1,.string ((⟨#[]⟩ : ByteArray))],Z,Z,⟨(),Z,Qu⟩,⟨[.int .u8 1,.int .i64 1,.string ((⟨#[]⟩ : ByteArray))],[],Z,Z,⟨(),Z,Qu⟩,Z⟩⟩) Z (by decide) (H':=V6 ..) Z (Q1Z (sz:=3) (m:=2) R_V ([(⟨1,1,(⟨#[]⟩ : ByteArray)⟩ : V),(⟨1,2,(⟨#[]⟩ : ByteArray)⟩ : V)]) 1 Z (fun F w hφ=>⟨[.int .u8 1,.int .i64 1,.string ((⟨#[]⟩ : ByteArray))],[.int .u8 1,.int .i64 2,.string ((⟨#[]⟩ : ByteArray))],Z,Z,⟨(),Z,Qu⟩,⟨[.int .u8 1,.int .i64 2,.string ((⟨#[]⟩ : ByteArray))],[],Z,Z,⟨(),Z,Qu⟩,Z⟩⟩) Z (by decide) (H':=V6 ..) Z (Q1Z (sz:=3) (m:=2) Q11.pair ([((⟨1,0,[(⟨1,1,(⟨#[]⟩ : ByteArray)⟩ : V),(⟨1,1,(⟨#[]⟩ : ByteArray)⟩ : V)]⟩ : Qz),(some (⟨s,0,none⟩ : Addr),2)),((⟨2,0,[(⟨1,1,(⟨#[]⟩ : ByteArray)⟩ : V),(⟨1,2,(⟨#[]⟩ : ByteArray)⟩ : V)]⟩ : Qz),(some (⟨z,0,none⟩ : Addr),2))]) 0 Z (fun F w hφ=>⟨[.int .i64 1,.int .i64 0,.slice (some ⟨s,0,none⟩) 2 2],[.int .i64 2,.int .i64 0,.slice (some ⟨z,0,none⟩) 2 2],Z,Z,Z,⟨[.int .i64 2,.int .i64 0,.slice (some ⟨z,0,none⟩) 2 2],[],Z,Z,Z,Z⟩⟩) Z (by decide) (H':=V6 ..) Z (Q27 [Q4i Q11 [] none,_,_,_,_,_,_] (fun _ h=>h.bagNil Q11) (Q5y [3,0,1,2,4,5,6] Z (H':=V7 ..) Z (Q27 [Q4i Q11 ([((⟨1,0,[(⟨1,1,(⟨#[]⟩ : ByteArray)⟩ : V),(⟨1,1,(⟨#[]⟩ : ByteArray)⟩ : V)]⟩ : Qz),(some (⟨s,0,none⟩ : Addr),2))]) none,_,_,_,_,_] (fun _ h=>Q16.bagPush (T:=Q11) (x:=(⟨1,0,[(⟨1,1,(⟨#[]⟩ : ByteArray)⟩ : V),(⟨1,1,(⟨#[]⟩ : ByteArray)⟩ : V)]⟩ : Qz)) (r:=(some (⟨s,0,none⟩ : Addr),2)) (zs:=[]) (H:=V6 ..) h 0 Z) (Q5y [2,0,1,3,4,5] Z (H':=V6 ..) Z ?_))))))))))))))
    refine Q27 [Q4i Q11 (([((⟨1,0,[(⟨1,1,(⟨#[]⟩ : ByteArray)⟩ : V),(⟨1,1,(⟨#[]⟩ : ByteArray)⟩ : V)]⟩ : Qz),(some (⟨s,0,none⟩ : Addr),2))]) ++ [((⟨2,0,[(⟨1,1,(⟨#[]⟩ : ByteArray)⟩ : V),(⟨1,2,(⟨#[]⟩ : ByteArray)⟩ : V)]⟩ : Qz),(some (⟨z,0,none⟩ : Addr),2))]) none,_,_,_,_] (fun _ h=>Q16.bagPush (T:=Q11) (x:=(⟨2,0,[(⟨1,1,(⟨#[]⟩ : ByteArray)⟩ : V),(⟨1,2,(⟨#[]⟩ : ByteArray)⟩ : V)]⟩ : Qz)) (r:=(some (⟨z,0,none⟩ : Addr),2)) (zs:=[((⟨1,0,[(⟨1,1,(⟨#[]⟩ : ByteArray)⟩ : V),(⟨1,1,(⟨#[]⟩ : ByteArray)⟩ : V)]⟩ : Qz),(some (⟨s,0,none⟩ : Addr),2))]) (H:=V5 ..) h 0 Z) (Qb0 0 (φ':=Q4i Q11 ([((⟨1,0,[(⟨1,1,(⟨#[]⟩ : ByteArray)⟩ : V),(⟨1,1,(⟨#[]⟩ : ByteArray)⟩ : V)]⟩ : Qz),(some (⟨s,0,none⟩ : Addr),2)),((⟨2,0,[(⟨1,1,(⟨#[]⟩ : ByteArray)⟩ : V),(⟨1,2,(⟨#[]⟩ : ByteArray)⟩ : V)]⟩ : Qz),(some (⟨z,0,none⟩ : Addr),2))]) none) Z Z (H':=V5 ..) Z (Q27 [Q21 Q11 71 3 (.slice (some ⟨a5,0,none⟩) 2 2) ([(⟨1,0,[(⟨1,1,(⟨#[]⟩ : ByteArray)⟩ : V),(⟨1,1,(⟨#[]⟩ : ByteArray)⟩ : V)]⟩ : Qz),(⟨2,0,[(⟨1,1,(⟨#[]⟩ : ByteArray)⟩ : V),(⟨1,2,(⟨#[]⟩ : ByteArray)⟩ : V)]⟩ : Qz)]),_,_,_] (fun _ h=>h.treeIn 1 0 Z Z Z Z) (QQ 1 Z (fun a0 _=>?_))))
    subst a0
    refine Q1P 1 Z (H':=V3 ..) Z (Q2n (.sli 2 Qb aA aB aE) (fun F w hφ=>Q1A (hφ _ (Q12 (k:=0) Z))) (QQ 1 Z (fun a1 _=>?_)))
    subst a1
    refine Q1P 1 Z (H':=[_,_]) Z (Q2n (.sli 5 Qa aC aD aF) (fun F w hφ=>Q1A (hφ _ (Q12 (k:=0) Z))) (Q27 [.own 71 3 QP (.slice (some ⟨a5,0,none⟩) 2 2) ([(⟨1,0,[(⟨1,1,(⟨#[]⟩ : ByteArray)⟩ : V),(⟨1,1,(⟨#[]⟩ : ByteArray)⟩ : V)]⟩ : Qz),(⟨2,0,[(⟨1,1,(⟨#[]⟩ : ByteArray)⟩ : V),(⟨1,2,(⟨#[]⟩ : ByteArray)⟩ : V)]⟩ : Qz)]),_] (fun _ h=>h.letgo Q2X 0 Z) (QQ 0 Z (fun aI _=>(wl_at 0 (v':=.slice (some ⟨a5,0,none⟩) ([(⟨1,0,[(⟨1,1,(⟨#[]⟩ : ByteArray)⟩ : V),(⟨1,1,(⟨#[]⟩ : ByteArray)⟩ : V)]⟩ : Qz),(⟨2,0,[(⟨1,1,(⟨#[]⟩ : ByteArray)⟩ : V),(⟨1,2,(⟨#[]⟩ : ByteArray)⟩ : V)]⟩ : Qz)].length) 2) Z (by first | rfl | (rw [aI]; done) | simp) ?_)))))
  all_goals
   refine Qb0 0 (φ':=.own 71 3 QP (.slice (some ⟨a5,0,none⟩) ([(⟨1,0,[(⟨1,1,(⟨#[]⟩ : ByteArray)⟩ : V),(⟨1,1,(⟨#[]⟩ : ByteArray)⟩ : V)]⟩ : Qz),(⟨2,0,[(⟨1,1,(⟨#[]⟩ : ByteArray)⟩ : V),(⟨1,2,(⟨#[]⟩ : ByteArray)⟩ : V)]⟩ : Qz)].length) 2) ([(⟨1,0,[(⟨1,1,(⟨#[]⟩ : ByteArray)⟩ : V),(⟨1,1,(⟨#[]⟩ : ByteArray)⟩ : V)]⟩ : Qz),(⟨2,0,[(⟨1,1,(⟨#[]⟩ : ByteArray)⟩ : V),(⟨1,2,(⟨#[]⟩ : ByteArray)⟩ : V)]⟩ : Qz)])) Z (by first | rfl | (rw [aI]; done) | simp) (H':=[_,_]) Z (Q1P 0 Z (H':=[_]) Z (Q2n (.sli 3 QP (some ⟨a5,0,none⟩) 2 ([(⟨1,0,[(⟨1,1,(⟨#[]⟩ : ByteArray)⟩ : V),(⟨1,1,(⟨#[]⟩ : ByteArray)⟩ : V)]⟩ : Qz),(⟨2,0,[(⟨1,1,(⟨#[]⟩ : ByteArray)⟩ : V),(⟨1,2,(⟨#[]⟩ : ByteArray)⟩ : V)]⟩ : Qz)])) (fun F w hφ=>Q1A (hφ _ (Q12 (k:=0) Z))) (wC [] [0] Z fn_18 Z (w_naive_Vars_s N aA aB aE aC aD aF aG.rule a6.1 a6.2 aG.ids (some ⟨a5,0,none⟩) 2 [(⟨1,0,[(⟨1,1,(⟨#[]⟩ : ByteArray)⟩ : V),(⟨1,1,(⟨#[]⟩ : ByteArray)⟩ : V)]⟩ : Qz),(⟨2,0,[(⟨1,1,(⟨#[]⟩ : ByteArray)⟩ : V),(⟨1,2,(⟨#[]⟩ : ByteArray)⟩ : V)]⟩ : Qz)] _ _ bT) (asK [4,2,6,0] Z) Z (H':=[_]) Z ?_)))
   rintro _ _ _ ⟨bG,bH,bI,rfl,rfl,rfl⟩
   refine Q4 (QJ [6,7,8,9,10,11,12,13,14,15,16] [] Z Z (xP hok 8 Z (xP hok 9 Z (xP hok 10 Z (xS hok 11 Z (wP Z (Q4 (QJ [0,1,2,3,4,5,6,7,8,9,10,11,12,13,14,15,16] [] Z Z (xS hok 12 Z (wP Z (Q4 (QJ [0,1,2,3,4,5,6,7,8,9,10,11,12,13,14,15,16] [] Z Z (QS hok Z ?_)))))))))))))
   refine QE [0] Z (H':=[_]) Z ?_
   refine Qh (bG,bH,bI) trivial [4,3] Z (asK [] Z) Z
 rintro ⟨a7,a8,a9⟩ _
 try dsimp only
 refine Q5 (Q1 (wP Z (wP Z ?_)))
 obtain ⟨bJ,hm⟩:=Qd hm
 refine Qs (d:=49) (v':=.bool true) (S':=V3 ..) Z Z (Qy bJ) (wP Z (QQ 0 Z (fun bU _=>(wN Z Q5r (Qs (d:=51) (v':=.int .i64 ((aM.length:Nat):Int)) (S':=V5 ..) Z Z (Q7a bU) (wP Z (Qs (d:=52) (v':=.bool (aM.length == 2)) (S':=V6 ..) Z Z (Q4J (a:=aM.length) (b:=2)) (wP Z (wP Z ?_)))))))))
 obtain ⟨bK,hm⟩:=Qd hm
 refine Qs (d:=54) (v':=.bool true) (S':=V8 ..) Z Z (Qy bK) (wP Z ?_)
 obtain ⟨c1,b1,hm⟩:=Q6 hm
 refine Q7N 0 0 Z Z Z Zq Z Z Z Z Z (Q2Y b1) Q5r Q1C (fun cC bV=>?_)
 subst bV
 refine wF Z Q3y (Q29 Q6f 0 0 1 Z Z Z Zq Z Z Z b1 tS_2 tA_2 (v:=fun _=>.int .i64 (c1.n)) (fun _=>Z) (fun _=>Z) (fun _ _=>(wP Z (wP Z (wP Z ?_)))))
 obtain ⟨bL,hm⟩:=Qd hm
 refine Qs (d:=61) (v':=.bool true) (S':=V15 ..) Z Z (Qy bL) (wP Z ?_)
 obtain ⟨c2,b2,hm⟩:=Q6 hm
 refine Q8j 0 1 Z Z Z Zq Z Z Z Z Z (Q2Y b2) Q5r Q1C (wF Z Q3y (Q29 Q6f 0 1 1 Z Z Z Zq Z Z Z b2 tS_2 tA_2 (v:=fun _=>.int .i64 (c2.n)) (fun _=>Z) (fun _=>Z) (fun _ _=>(wP Z (wP Z (wP Z (Q4 (Q3 (Q2 [0] (S':=[_]) Z (Qo ?_))))))))))
 have hE:=(Zi hm).symm
 replace hE:=hE.symm
 subst hE
 refine Qp (Hr:=[]) [] Tryz.results8 (Qg Z) ⟨Z,Z,Z⟩ (asK [] Z) Z Z (.inl Z)
theorem Qam (N:Nat) (rc:(List Qm) → Int → Option (Int)) (ih : ∀ (a6:OA) (a7:Nat) (l0:List Qm) (a1:Int) (o0:Int),rc l0 a1 = some o0 → Q17 Tryz.prog 25 [.slice a6 l0.length a7,.int .i64 a1] [.sli 7 QA a6 a7 l0] [] (fun v Φr Hr=>v = .int .i64 o0 ∧ Φr = [] ∧ Hr = [])) (a6:OA) (a7:Nat) (l0:List Qm) (a1:Int) (o0:Int) (hm:Q2v N rc l0 a1 = some o0):Q17 Tryz.prog 25 [.slice a6 l0.length a7,.int .i64 a1] [.sli 7 QA a6 a7 l0] [] (fun v Φr Hr=>v = .int .i64 o0 ∧ Φr = [] ∧ Hr = []):=by
 unfold Q2v at hm
 refine QC Tryz.func25 Z Tryz.ntmps25 Z (S:=[_,_]) Z (fun C=>(Q5 (Q1 (wP Z (Q4 (Q3 (Q2 [0,1] (S':=[_,_]) Z (Q5 (Q1 (wP Z (Q4 (Q3 (Q5 ?_)))))))))))))
 obtain ⟨aD,hm,hLj_1⟩:=Q6 hm
 refine QM (σ:=Int) (fun a5=>aD = a5) (fun a5=>[(1,.int .i64 a1),(5,.int .i64 a5)]) (fun a5=>[]) (fun a5=>[]) ?_ ?_
 refine Q5 (Q1 (wP Z (Q4 (Q3 (Qw (Q1j (σ:=Nat × Nat × Int) (fun (a8,z,s)=>Q1h (Q25 N l0 a1 rc) a8 (z,s) = some aD) (fun (a8,z,s)=>a8) (fun (a8,z,s)=>[(6,.int .i64 ((z:Nat):Int)),(5,.int .i64 s),(0,.slice a6 l0.length a7),(1,.int .i64 a1)]) (fun (a8,z,s)=>[.sli 7 QA a6 a7 l0]) (fun (a8,z,s)=>[]) (N,0,0) hm [6,5,0,1] Z (asK [0] Z) Z (fun s_ hm=>?_)))))))
 obtain ⟨a8,z,s⟩:=s_
 try dsimp only at hm ⊢
 obtain ⟨aV,aW,aF,hq,hLu1⟩:=QV hm
 clear hm
 subst aF
 replace hm:=hq
 clear hq
 unfold Q25 at hm
 try dsimp only at hm
 refine Q5 (Q5 ?_)
 obtain ⟨aG,hm,hLj_2⟩:=Q6 hm
 refine QM (σ:=Bool) (fun a0=>aG = a0) (fun a0=>[(6,.int .i64 ((z:Nat):Int)),(5,.int .i64 s),(0,.slice a6 l0.length a7),(1,.int .i64 a1),(15,.bool a0)]) (fun a0=>[.sli 7 QA a6 a7 l0]) (fun a0=>[]) ?_ ?_
 refine Q1 (wP Z (wP Z (wN Z Q7O (wP Z (Qs (d:=10) (v':=.bool (decide (z < l0.length))) (S':=V7 ..) Z Z (Q2l (a:=z) (b:=l0.length)) (wP Z ?_))))))
 refine QG (d:=11) (S':=V8 ..) Z Z (fun aB=>?_) (fun aB=>?_)
 replace hm:=QI hm aB
 refine wP Z (wP Z (wP Z (wP Z (Q4 ?_))))
 have hE:=(Zi hm).symm
 refine Qh (decide (s ≤ a1)) hE [6,5,0,1,15] Z (asK [0] Z) Z
 replace hm:=QH hm aB
 refine wO Z (wO Z (wO Z (wP Z (Q4 ?_))))
 have hE:=(Zi hm).symm
 refine Qh false hE [6,5,0,1,15] Z (asK [0] Z) Z
 rintro a0 hE
 try dsimp only
 have hm:=hLj_2
 try rw [hE] at hm
 refine Qt Z (fun aC=>?_) (fun aC=>?_)
 replace hm:=QI hm aC
 refine Q2 [6,5,0,1] (S':=V4 ..) Z (Qr (Q3 (Q5 (Qw (Q1 (wP Z (wP Z ?_)))))))
 obtain ⟨aH,hm⟩:=Qd hm
 refine Qs (d:=19) (v':=.int .i64 (s + 1)) (S':=V5 ..) Z Z (i64_in aH) (wP Z (wP Z ?_))
 obtain ⟨aS,aI,hm⟩:=Q6 hm
 refine Q1a 0 z Z Z Z Zq Z Z Z Z Z aI Q7O Q57 (fun aX aY aU aT=>(Q1G Q5F 1 Z (fun aJ aK _=>?_)))
 subst aK
 refine wF Z QaG (Q1F 1 6 Z Z Z Zq Z Z Z (cs:=[_]) Z Q8N Q9h Z Z (wP Z (wP Z (wP Z ?_))))
 obtain ⟨aL,hm⟩:=Qd hm
 refine Qs (d:=27) (v':=.int .i64 (a1 - s)) (S':=V13 ..) Z Z (i64_in aL) (wP Z ?_)
 obtain ⟨aM,hm⟩:=Qd hm
 refine Qs (d:=28) (v':=.int .i64 ((a1 - s) - 1)) (S':=V14 ..) Z Z (i64_in aM) ?_
 obtain ⟨aN,aO,hm⟩:=Q6 hm
 refine wC [] [] Z fn_25 Z (ih aJ.1 aJ.2 aS.kids ((a1 - s) - 1) _ aO) (asK [0] Z) Z (H':=[]) Z ?_
 rintro _ _ _ ⟨rfl,rfl,rfl⟩
 refine wP Z ?_
 obtain ⟨aP,hm⟩:=Qd hm
 refine Qs (d:=30) (v':=.int .i64 ((s + 1) + aN)) (S':=V16 ..) Z Z (i64_in aP) (QT (S':=V16 ..) Z Z Z Z Z (Q4 (Qf (Q3 (Q2 [5,6,0,1] (S':=V4 ..) Z (Q1 (wP Z (wP Z ?_))))))))
 obtain ⟨aQ,hm⟩:=Qd hm
 refine Qs (d:=17) (v':=.int .i64 ((z + 1:Nat):Int)) (S':=V5 ..) Z Z (Q1r (a:=z) (b:=1) aQ) (QT (S':=V5 ..) Z Z Z Z Z (Q4 ?_))
 have hE:=(Zi hm).symm
 replace hE:=QF hLu1 hE
 refine QU (_,z + 1,(s + 1) + aN) (Nat.lt_succ_self _) hE [6,5,0,1] Z (asK [3] Z) Z
 replace hm:=QH hm aC
 refine Q2 [5,1] (S':=[_,_]) Z (Q1g (Qj (Qj (QD ?_))))
 have hE:=(Zi hm).symm
 replace hE:=Qx hLu1 hE
 refine Qh s hE [1,5] Z (asK [] Z) Z
 rintro a5 hE
 try dsimp only
 have hm:=hLj_1
 try rw [hE] at hm
 refine Q5 (Q1 (wP Z (wP Z (wP Z ?_))))
 obtain ⟨aR,hm⟩:=Qd hm
 refine Qs (d:=33) (v':=.int .i64 (a1 + 1)) (S':=V4 ..) Z Z (i64_in aR) (Q1w Z Z Z Zq (rk_min Z Z Z) (wP Z (Q4 (Q3 (Q2 [4] (S':=[_]) Z (Qo ?_))))))
 have hE:=(Zi hm).symm
 replace hE:=hE.symm
 subst hE
 refine Qp (Hr:=[]) [] Tryz.results25 (Qg Z) ⟨Z,Z,Z⟩ (asK [] Z) Z Z (.inl Z)
theorem Q8g : ∀ (N:Nat),∀ (qp0:OA) (qc1:Nat) (l0:List Qm) (a1:Int) (o0:Int),Q1R N l0 a1 = some o0 → Q17 Tryz.prog 25 [.slice qp0 l0.length qc1,.int .i64 a1] [.sli 7 QA qp0 qc1 l0] [] (fun v Φr Hr=>v = .int .i64 o0 ∧ Φr = [] ∧ Hr = []):=by
 intro N
 induction N with
 | zero=>intro qp0 qc1 l0 a1 o0 hm; cases hm
 | succ N ih=>intro qp0 qc1 l0 a1 o0 hm; exact Qam N (Q1R N) ih qp0 qc1 l0 a1 o0 hm
theorem Qbe (N:Nat) (aF:OA) (aG:Nat) (l0:List Ql) (aH:OA) (aI:Nat) (l1:List Qi) (a6:OA) (a7:Nat) (l2:List Qz) (o0:Bool) (hm:Q42 N l0 l1 l2 = some o0):Q17 Tryz.prog 9 [.agg #[.slice aF l0.length aG,.slice aH l1.length aI],.slice a6 l2.length a7] [.sli 2 Qb aF aG l0,.sli 5 Qa aH aI l1,.sli 3 QP a6 a7 l2] [] (fun v Φr Hr=>v = .bool o0 ∧ Φr = [] ∧ Hr = []):=by
 unfold Q42 at hm
 refine QC Tryz.func9 Z Tryz.ntmps9 Z (S:=[_,_]) Z (fun C=>(Q5 (Q1 (wB Z (fun g2=>(wP Z (Q4 (Q3 (Q2 [2,1] (S':=[_,_]) Z (Q5 (Q1 (wF Z Q5W (wD 0 0 Z Q9m Q9L Z (wN Z Q8w (wF Z Q6Z ?_)))))))))))))))
 refine wD 0 1 Z Qai QaD Z (wN Z Q8x (wP Z ?_))
 obtain ⟨bT,hm⟩:=Qd hm
 refine Qs (d:=18) (v':=.int .i64 ((l0.length + l1.length:Nat):Int)) (S':=V8 ..) Z Z (Q1r (a:=l0.length) (b:=l1.length) bT) (wP Z (Q4 (Q3 (Q2 [5,2,1] (S':=V3 ..) Z (Q5 ?_)))))
 obtain ⟨bB,hm,hLj_1⟩:=Q6 hm
 refine QM (σ:=Int) (fun aB=>bB = aB) (fun aB=>[(5,.int .i64 aB),(1,.slice a6 l2.length a7)]) (fun aB=>[.sli 3 QP a6 a7 l2]) (fun aB=>[]) ?_ ?_
 refine Q5 (Q1 (wP Z (Q4 (Q3 (Qw (Q1j (σ:=Nat × Nat × Int) (fun (aT,a5,aC)=>Q1h (Q2C N l1) aT (a5,aC) = some bB) (fun (aT,a5,aC)=>aT) (fun (aT,a5,aC)=>[(6,.int .i64 ((a5:Nat):Int)),(5,.int .i64 aC),(2,.pointer (some ⟨g2,0,none⟩)),(1,.slice a6 l2.length a7)]) (fun (aT,a5,aC)=>[.sli 2 Qb aF aG l0,.sli 5 Qa aH aI l1,.sli 3 QP a6 a7 l2]) (fun (aT,a5,aC)=>[.blk g2 [.slice aF l0.length aG,.slice aH l1.length aI] 25]) (N,0,((l0.length + l1.length:Nat):Int)) hm [6,5,2,1] Z (asK [0,1,2] Z) Z (fun s_ hm=>?_)))))))
 obtain ⟨aT,a5,aC⟩:=s_
 try dsimp only at hm ⊢
 obtain ⟨dK,dL,bU,hq,hLu1⟩:=QV hm
 clear hm
 subst bU
 replace hm:=hq
 clear hq
 unfold Q2C at hm
 try dsimp only at hm
 refine Q5 (Q5 ?_)
 obtain ⟨bV,hm,hLj_2⟩:=Q6 hm
 refine QM (σ:=Bool) (fun aK=>bV = aK) (fun aK=>[(6,.int .i64 ((a5:Nat):Int)),(5,.int .i64 aC),(2,.pointer (some ⟨g2,0,none⟩)),(1,.slice a6 l2.length a7),(27,.bool aK)]) (fun aK=>[.sli 2 Qb aF aG l0,.sli 5 Qa aH aI l1,.sli 3 QP a6 a7 l2]) (fun aK=>[.blk g2 [.slice aF l0.length aG,.slice aH l1.length aI] 25]) ?_ ?_
 refine Q1 (wP Z (wF Z Q6Z (wD 0 1 Z Qai QaD Z (wN Z Q8x (wP Z (Qs (d:=23) (v':=.bool (decide (a5 < l1.length))) (S':=V8 ..) Z Z (Q2l (a:=a5) (b:=l1.length)) (wP Z ?_)))))))
 refine QG (d:=24) (S':=V9 ..) Z Z (fun b2=>?_) (fun b2=>?_)
 replace hm:=QI hm b2
 refine wP Z (wP Z (wP Z (Q4 ?_)))
 have hE:=(Zi hm).symm
 refine Qh (decide (aC < 400)) hE [6,5,2,1,27] Z (asK [0,1,2] Z) Z
 replace hm:=QH hm b2
 refine wO Z (wO Z (wP Z (Q4 ?_)))
 have hE:=(Zi hm).symm
 refine Qh false hE [6,5,2,1,27] Z (asK [0,1,2] Z) Z
 rintro aK hE
 try dsimp only
 have hm:=hLj_2
 try rw [hE] at hm
 refine Qt Z (fun b3=>?_) (fun b3=>?_)
 replace hm:=QI hm b3
 refine Q2 [6,5,2,1] (S':=V4 ..) Z (Qr (Q3 (Q5 ?_)))
 obtain ⟨bC,hm,hLj_3⟩:=Q6 hm
 unfold Q5Y at hm
 refine QM (σ:=Int) (fun aN=>bC = aN) (fun aN=>[(6,.int .i64 ((a5:Nat):Int)),(5,.int .i64 aN),(2,.pointer (some ⟨g2,0,none⟩)),(1,.slice a6 l2.length a7)]) (fun aN=>[.sli 2 Qb aF aG l0,.sli 5 Qa aH aI l1,.sli 3 QP a6 a7 l2]) (fun aN=>[.blk g2 [.slice aF l0.length aG,.slice aH l1.length aI] 25]) ?_ ?_
 refine Qw (Q5 (Q1 (wF Z Q6Z (wD 0 1 Z Qai QaD Z (wP Z ?_)))))
 obtain ⟨z,bW,hm⟩:=Q6 hm
 refine Q1a 1 a5 Z Z Z Zq Z Z Z Z Z bW Q8x Q5X (fun dM dN d3 cS=>(Q1G Q3D 1 Z (fun a0 bX _=>?_)))
 subst bX
 refine Q1F 2 0 Z Z Z Zq Z Z Z (cs:=V5 ..) Z Q5X tA_52 Z Z (QK Z Z Z Zq Z tZ_52 Z (fun g7=>(wS 0 0 Z Q5X (all':=V5 ..) Z (H':=[_,_]) Z (Q4 (Q3 (Q2 [7,6,5,2,1] (S':=V5 ..) Z (Q5 (Q1 (wP Z (wF Z Q7o (wD 0 3 Z QaI tA_49 Z (wN Z Q9j (wP Z ?_)))))))))))))
 obtain ⟨bY,hm⟩:=Qd hm
 refine Qs (d:=39) (v':=.int .i64 (aC + ((z.conds.length:Nat):Int))) (S':=V9 ..) Z Z (i64_in bY) (wF Z Q9R (wD 0 4 Z tS_50 tA_50 Z (wN Z tE_50 (wP Z ?_))))
 obtain ⟨bZ,hm⟩:=Qd hm
 refine Qs (d:=43) (v':=.int .i64 ((aC + ((z.conds.length:Nat):Int)) + ((z.acts.length:Nat):Int))) (S':=V13 ..) Z Z (i64_in bZ) (QT (S':=V13 ..) Z Z Z Z Z (Q4 (Q3 (Q2 [5,7,6,2,1] (S':=V5 ..) Z (Q5 ?_)))))
 obtain ⟨bD,hm,hLj_4⟩:=Q6 hm
 refine QM (σ:=Int) (fun aO=>bD = aO) (fun aO=>[(5,.int .i64 aO),(7,.pointer (some ⟨g7,0,none⟩)),(6,.int .i64 ((a5:Nat):Int)),(2,.pointer (some ⟨g2,0,none⟩)),(1,.slice a6 l2.length a7)]) (fun aO=>[.sli 10 QR a0.1.1 a0.1.2 z.conds,.sli 4 QZ a0.2.1 a0.2.2 z.acts,.sli 2 Qb aF aG l0,.sli 5 Qa aH aI l1,.sli 3 QP a6 a7 l2]) (fun aO=>[.blk g7 [.string z.name,.int .i64 (z.salience),.int .i64 (z.vars),.slice a0.1.1 z.conds.length a0.1.2,.slice a0.2.1 z.acts.length a0.2.2] 52,.blk g2 [.slice aF l0.length aG,.slice aH l1.length aI] 25]) ?_ ?_
 refine Q5 (Q1 (wP Z (Q4 (Q3 (Qw (Q1j (σ:=Nat × Nat × Int) (fun (aU,a9,aD)=>Q1h (Q2D N z) aU (a9,aD) = some bD) (fun (aU,a9,aD)=>aU) (fun (aU,a9,aD)=>[(8,.int .i64 ((a9:Nat):Int)),(5,.int .i64 aD),(7,.pointer (some ⟨g7,0,none⟩)),(6,.int .i64 ((a5:Nat):Int)),(2,.pointer (some ⟨g2,0,none⟩)),(1,.slice a6 l2.length a7)]) (fun (aU,a9,aD)=>[.sli 10 QR a0.1.1 a0.1.2 z.conds,.sli 4 QZ a0.2.1 a0.2.2 z.acts,.sli 2 Qb aF aG l0,.sli 5 Qa aH aI l1,.sli 3 QP a6 a7 l2]) (fun (aU,a9,aD)=>[.blk g7 [.string z.name,.int .i64 (z.salience),.int .i64 (z.vars),.slice a0.1.1 z.conds.length a0.1.2,.slice a0.2.1 z.acts.length a0.2.2] 52,.blk g2 [.slice aF l0.length aG,.slice aH l1.length aI] 25]) (N,0,((aC + ((z.conds.length:Nat):Int)) + ((z.acts.length:Nat):Int))) hm [8,5,7,6,2,1] Z (asK [0,1,4,5,6] Z) Z (fun s_ hm=>?_)))))))
 obtain ⟨aU,a9,aD⟩:=s_
 try dsimp only at hm ⊢
 obtain ⟨dO,dP,c0,hq,hLu2⟩:=QV hm
 clear hm
 subst c0
 replace hm:=hq
 clear hq
 unfold Q2D at hm
 try dsimp only at hm
 refine Q5 (Q5 ?_)
 obtain ⟨c1,hm,hLj_5⟩:=Q6 hm
 refine QM (σ:=Bool) (fun aL=>c1 = aL) (fun aL=>[(8,.int .i64 ((a9:Nat):Int)),(5,.int .i64 aD),(7,.pointer (some ⟨g7,0,none⟩)),(6,.int .i64 ((a5:Nat):Int)),(2,.pointer (some ⟨g2,0,none⟩)),(1,.slice a6 l2.length a7),(52,.bool aL)]) (fun aL=>[.sli 10 QR a0.1.1 a0.1.2 z.conds,.sli 4 QZ a0.2.1 a0.2.2 z.acts,.sli 2 Qb aF aG l0,.sli 5 Qa aH aI l1,.sli 3 QP a6 a7 l2]) (fun aL=>[.blk g7 [.string z.name,.int .i64 (z.salience),.int .i64 (z.vars),.slice a0.1.1 z.conds.length a0.1.2,.slice a0.2.1 z.acts.length a0.2.2] 52,.blk g2 [.slice aF l0.length aG,.slice aH l1.length aI] 25]) ?_ ?_
 refine Q1 (wP Z (wF Z Q7o (wD 0 3 Z QaI tA_49 Z (wN Z Q9j (wP Z (Qs (d:=48) (v':=.bool (decide (a9 < z.conds.length))) (S':=V10 ..) Z Z (Q2l (a:=a9) (b:=z.conds.length)) (wP Z ?_)))))))
 refine QG (d:=49) (S':=V11 ..) Z Z (fun b4=>?_) (fun b4=>?_)
 replace hm:=QI hm b4
 refine wP Z (wP Z (wP Z (Q4 ?_)))
 have hE:=(Zi hm).symm
 refine Qh (decide (aD < 400)) hE [8,5,7,6,2,1,52] Z (asK [0,1,2,3,4] Z) Z
 replace hm:=QH hm b4
 refine wO Z (wO Z (wP Z (Q4 ?_)))
 have hE:=(Zi hm).symm
 refine Qh false hE [8,5,7,6,2,1,52] Z (asK [0,1,2,3,4] Z) Z
 rintro aL hE
 try dsimp only
 have hm:=hLj_5
 try rw [hE] at hm
 refine Qt Z (fun b5=>?_) (fun b5=>?_)
 replace hm:=QI hm b5
 refine Q2 [8,5,7,6,2,1] (S':=V6 ..) Z (Qr (Q3 (Q5 (Qw ?_))))
 obtain ⟨bJ,c2,hm⟩:=Q6 hm
 obtain ⟨c3,hm⟩:=Qd hm
 obtain ⟨aR,c4,hm⟩:=Q6 hm
 obtain ⟨c5,c6,hm⟩:=Q6 hm
 obtain ⟨c7,hm⟩:=Qd hm
 refine QW [0,1,2,3,4,5,6,7,8,9,10,11,12,13,14,17] Z Z (fun hok=>(xP hok 0 Z (Q8 hok 1 Z Z Z Zq Z Z Z Q7o (Qn hok 2 0 3 Z Z Z Zq Z Z Z Z (cs:=[_]) Z QaI tA_49 Z Z (xP hok 3 Z (Q2P hok 4 0 a9 Z Z Z Zq Z Z Z Z Z Z c2 Q9j Q6E (fun dQ dR d4 cT=>(Q3s Q3C 1 Z (fun dS c8 _=>?_)))))))))
 subst c8
 refine Q8 hok 5 Z Z Z Zq Z Z Z QbF (Q4N hok 6 2 2 Z Z Z Zq Z Z Z Z (cs:=[_]) Z tS_60 tA_60 Z Z (Q66 hok 7 Z Z Z Zq Z Z Z tE_60 (xP hok 8 Z (Q1z (d:=63) (v':=.int .i64 (aD + ((bJ.args.length:Nat):Int))) (S':=V14 ..) Z Z (i64_in c3) (Q8 hok 9 Z Z Z Zq Z Z Z Q7o (Qn hok 10 0 3 Z Z Z Zq Z Z Z Z (cs:=[_]) Z QaI tA_49 Z Z (xP hok 11 Z (Q2P hok 12 4 a9 Z Z Z Zq Z Z Z Z Z Z c4 Q9j Q6E (fun dT dU d5 cU=>(Q3s Q3C 1 Z (fun bA c9 _=>?_)))))))))))
 subst c9
 refine Q8 hok 13 Z Z Z Zq Z Z Z QbG (Q4N hok 14 2 3 Z Z Z Zq Z Z Z Z (cs:=V7 ..) Z Q57 Q7Z Z Z (xS hok 15 Z (QB Z Z Z Zq Z Q7O Q57 tZ_65 Z (zs:=[.int .u8 0,.int .u8 0,.int .i64 0,.string ((⟨#[]⟩ : ByteArray)),.int .i64 0,.int .u8 0,V1]) (by kernel_rfl) Z (out:=V7 ..) Z (fun cV=>(Q4 (QJ [0,1,2,3,4,5,6,7,8,9,10,11,12] [1,1] Z Z (xS hok 16 Z (Q1Z (sz:=7) (m:=1) QA [aR.test] 0 Z (fun F w hφ=>⟨[.int .u8 (aR.test.kind),.int .u8 (aR.test.value.k),.int .i64 (aR.test.value.n),.string aR.test.value.s,.int .i64 (aR.test.var),.int .u8 (aR.test.op),.slice bA.2.1 aR.test.kids.length bA.2.2],[],Z,Z,(Q7B (bA.2.1,bA.2.2) Z (Q14 (hφ _ (Q12 (k:=1) Z)) Qu)),Z⟩) Z (by decide) (H':=V3 ..) Z (Q53 [] [0,1,2] [0] Z Z Z Zq Z Z fn_25 Z (Q8g N (some ⟨cV,0,none⟩) 1 [aR.test] 400 _ c6) (fun F w hφ hh=>(Q14 (Q1A (hh _ (Q12 (k:=0) Z))) Qu)) (fun _ _ _ hR=>by obtain ⟨rfl,rfl,rfl⟩:=hR; exact ⟨Z,(fun _ h=>Q3G h)⟩) Z Z (H':=V3 ..) Z ?_)))))))))
 rintro _ _ _ ⟨rfl,rfl,rfl⟩
 refine Q4 (QJ [0,1,2,3,4,5,6,7,8,9,10,11,12] [1,1] Z Z (xP hok 17 Z (Q1z (d:=72) (v':=.int .i64 ((aD + ((bJ.args.length:Nat):Int)) + c5)) (S':=V23 ..) Z Z (i64_in c7) (xS hok 18 Z (QT (S':=V23 ..) Z Z Z Z Z (Q4 (QJ [0,1,2,3,4,5,6,7,8,9,10,11,12] [] Z Z (QS hok Z (Qf (Q3 (Q2 [5,8,7,6,2,1] (S':=V6 ..) Z (Q1 (wP Z ?_)))))))))))))
 refine wP Z ?_
 obtain ⟨cA,hm⟩:=Qd hm
 refine Qs (d:=54) (v':=.int .i64 ((a9 + 1:Nat):Int)) (S':=V7 ..) Z Z (Q1r (a:=a9) (b:=1) cA) (QT (S':=V7 ..) Z Z Z Z Z (Q4 ?_))
 have hE:=(Zi hm).symm
 replace hE:=QF hLu2 hE
 refine QE [1,2] Z (H':=[_,_]) Z ?_
 refine QU (_,a9 + 1,((aD + ((bJ.args.length:Nat):Int)) + c5)) (Nat.lt_succ_self _) hE [8,5,7,6,2,1] Z (asK [8,9,10,11,12] Z) Z
 replace hm:=QH hm b5
 refine Q2 [5,7,6,2,1] (S':=V5 ..) Z (Q1g (Qj (Qj (QD ?_))))
 have hE:=(Zi hm).symm
 replace hE:=Qx hLu2 hE
 refine Qh aD hE [5,7,6,2,1] Z (asK [0,1,2,3,4] Z) Z
 rintro aO hE
 try dsimp only
 have hm:=hLj_4
 try rw [hE] at hm
 refine Q5 (Q1 (wP Z (Q4 (Q3 (Qw (Q1j (σ:=Nat × Nat × Int) (fun (aV,aA,aE)=>Q1h (Q2E N z) aV (aA,aE) = some bC) (fun (aV,aA,aE)=>aV) (fun (aV,aA,aE)=>[(9,.int .i64 ((aA:Nat):Int)),(5,.int .i64 aE),(7,.pointer (some ⟨g7,0,none⟩)),(6,.int .i64 ((a5:Nat):Int)),(2,.pointer (some ⟨g2,0,none⟩)),(1,.slice a6 l2.length a7)]) (fun (aV,aA,aE)=>[.sli 10 QR a0.1.1 a0.1.2 z.conds,.sli 4 QZ a0.2.1 a0.2.2 z.acts,.sli 2 Qb aF aG l0,.sli 5 Qa aH aI l1,.sli 3 QP a6 a7 l2]) (fun (aV,aA,aE)=>[.blk g7 [.string z.name,.int .i64 (z.salience),.int .i64 (z.vars),.slice a0.1.1 z.conds.length a0.1.2,.slice a0.2.1 z.acts.length a0.2.2] 52,.blk g2 [.slice aF l0.length aG,.slice aH l1.length aI] 25]) (N,0,aO) hm [9,5,7,6,2,1] Z (asK [0,1,2,3,4] Z) Z (fun s_ hm=>?_)))))))
 obtain ⟨aV,aA,aE⟩:=s_
 try dsimp only at hm ⊢
 obtain ⟨dV,dW,cB,hq,hLu3⟩:=QV hm
 clear hm
 subst cB
 replace hm:=hq
 clear hq
 unfold Q2E at hm
 try dsimp only at hm
 refine Q5 (Q5 ?_)
 obtain ⟨cC,hm,hLj_6⟩:=Q6 hm
 refine QM (σ:=Bool) (fun aM=>cC = aM) (fun aM=>[(9,.int .i64 ((aA:Nat):Int)),(5,.int .i64 aE),(7,.pointer (some ⟨g7,0,none⟩)),(6,.int .i64 ((a5:Nat):Int)),(2,.pointer (some ⟨g2,0,none⟩)),(1,.slice a6 l2.length a7),(81,.bool aM)]) (fun aM=>[.sli 10 QR a0.1.1 a0.1.2 z.conds,.sli 4 QZ a0.2.1 a0.2.2 z.acts,.sli 2 Qb aF aG l0,.sli 5 Qa aH aI l1,.sli 3 QP a6 a7 l2]) (fun aM=>[.blk g7 [.string z.name,.int .i64 (z.salience),.int .i64 (z.vars),.slice a0.1.1 z.conds.length a0.1.2,.slice a0.2.1 z.acts.length a0.2.2] 52,.blk g2 [.slice aF l0.length aG,.slice aH l1.length aI] 25]) ?_ ?_
 refine Q1 (wP Z (wF Z Q9R (wD 0 4 Z tS_50 tA_50 Z (wN Z tE_50 (wP Z (Qs (d:=77) (v':=.bool (decide (aA < z.acts.length))) (S':=V10 ..) Z Z (Q2l (a:=aA) (b:=z.acts.length)) (wP Z ?_)))))))
 refine QG (d:=78) (S':=V11 ..) Z Z (fun b6=>?_) (fun b6=>?_)
 replace hm:=QI hm b6
 refine wP Z (wP Z (wP Z (Q4 ?_)))
 have hE:=(Zi hm).symm
 refine Qh (decide (aE < 400)) hE [9,5,7,6,2,1,81] Z (asK [0,1,2,3,4] Z) Z
 replace hm:=QH hm b6
 refine wO Z (wO Z (wP Z (Q4 ?_)))
 have hE:=(Zi hm).symm
 refine Qh false hE [9,5,7,6,2,1,81] Z (asK [0,1,2,3,4] Z) Z
 rintro aM hE
 try dsimp only
 have hm:=hLj_6
 try rw [hE] at hm
 refine Qt Z (fun b7=>?_) (fun b7=>?_)
 replace hm:=QI hm b7
 refine Q2 [9,5,7,6,2,1] (S':=V6 ..) Z (Qr (Q3 (Q5 (Qw (Q1 (wP Z (wF Z Q9R (wD 0 4 Z tS_50 tA_50 Z (wP Z ?_)))))))))
 obtain ⟨cW,cD,hm⟩:=Q6 hm
 refine Q1a 1 aA Z Z Z Zq Z Z Z Z Z cD tE_50 tS_81 (fun dX dY d6 cX=>(Q1G Qb2 1 Z (fun cE cF _=>?_)))
 subst cF
 refine wF Z Q99 (Q1F 1 3 Z Z Z Zq Z Z Z (cs:=[_]) Z Q8N Q9h Z Z ?_)
 obtain ⟨cG,cH,hm⟩:=Q6 hm
 refine wC [] [0,1] Z fn_25 Z (Q8g N cE.1 cE.2 cW.exprs 400 _ cH) (asK [0] Z) Z (H':=[_,_]) Z ?_
 rintro _ _ _ ⟨rfl,rfl,rfl⟩
 refine wP Z ?_
 obtain ⟨cI,hm⟩:=Qd hm
 refine Qs (d:=92) (v':=.int .i64 (aE + cG)) (S':=V14 ..) Z Z (i64_in cI) (QT (S':=V14 ..) Z Z Z Z Z (Q4 (Qf (Q3 (Q2 [5,9,7,6,2,1] (S':=V6 ..) Z (Q1 (wP Z (wP Z ?_))))))))
 obtain ⟨cJ,hm⟩:=Qd hm
 refine Qs (d:=83) (v':=.int .i64 ((aA + 1:Nat):Int)) (S':=V7 ..) Z Z (Q1r (a:=aA) (b:=1) cJ) (QT (S':=V7 ..) Z Z Z Z Z (Q4 ?_))
 have hE:=(Zi hm).symm
 replace hE:=QF hLu3 hE
 refine QU (_,aA + 1,aE + cG) (Nat.lt_succ_self _) hE [9,5,7,6,2,1] Z (asK [3,4,5,6,7] Z) Z
 replace hm:=QH hm b7
 refine Q2 [5,6,2,1] (S':=V4 ..) Z (Q1g (Qj (Qj (QD (Qf ?_)))))
 have hE:=(Zi hm).symm
 replace hE:=Qx hLu3 hE
 refine QE [1] Z (H':=[_]) Z ?_
 refine Qh aE hE [6,5,2,1] Z (asK [2,3,4] Z) Z
 rintro aN hE
 try dsimp only
 have hm:=hLj_3
 try rw [hE] at hm
 refine Q1 (wP Z (wP Z ?_))
 obtain ⟨cK,hm⟩:=Qd hm
 refine Qs (d:=29) (v':=.int .i64 ((a5 + 1:Nat):Int)) (S':=V5 ..) Z Z (Q1r (a:=a5) (b:=1) cK) (QT (S':=V5 ..) Z Z Z Z Z (Q4 ?_))
 have hE:=(Zi hm).symm
 replace hE:=QF hLu1 hE
 refine QU (_,a5 + 1,aN) (Nat.lt_succ_self _) hE [6,5,2,1] Z (asK [0,1,2] Z) Z
 replace hm:=QH hm b3
 refine Q2 [5,1] (S':=[_,_]) Z (Q1g (Qj (Qj (QD ?_))))
 have hE:=(Zi hm).symm
 replace hE:=Qx hLu1 hE
 refine QE [] Z (H':=[]) Z ?_
 refine Qh aC hE [5,1] Z (asK [2] Z) Z
 rintro aB hE
 try dsimp only
 have hm:=hLj_1
 try rw [hE] at hm
 refine Q5 ?_
 obtain ⟨bE,hm,hLj_7⟩:=Q1o hm
 refine QM (σ:=Unit) (fun _=>bE = .inl ()) (fun _=>[(5,.int .i64 aB),(1,.slice a6 l2.length a7)]) (fun _=>[.sli 3 QP a6 a7 l2]) (fun _=>[]) ?_ ?_
 refine Q5 (Q1 (wP Z (Q4 (Q3 (Qw (Q1j (σ:=Nat × Nat) (fun (aW,a1)=>Q1h (Q2F N l2) aW a1 = some bE) (fun (aW,a1)=>aW) (fun (aW,a1)=>[(10,.int .i64 ((a1:Nat):Int)),(5,.int .i64 aB),(1,.slice a6 l2.length a7)]) (fun (aW,a1)=>[.sli 3 QP a6 a7 l2]) (fun (aW,a1)=>[]) (N,0) hm [10,5,1] Z (asK [0] Z) Z (fun s_ hm=>?_)))))))
 obtain ⟨aW,a1⟩:=s_
 try dsimp only at hm ⊢
 obtain ⟨dZ,e0,cL,hq,hLu4⟩:=QV hm
 clear hm
 subst cL
 replace hm:=hq
 clear hq
 unfold Q2F at hm
 try dsimp only at hm
 refine Q5 (Q5 (Q1 (wP Z (wP Z (wN Z Q2y (wP Z (Qs (d:=96) (v':=.bool (decide (a1 < l2.length))) (S':=V6 ..) Z Z (Q2l (a:=a1) (b:=l2.length)) (Q4 (Q3 (Q2 [96,10,5,1] (S':=V4 ..) Z ?_))))))))))
 refine Qt Z (fun b8=>?_) (fun b8=>?_)
 replace hm:=QI hm b8
 refine Q2 [10,5,1] (S':=V3 ..) Z (Qr (Q3 (Q5 ?_)))
 obtain ⟨bF,hm,hLj_8⟩:=Q1o hm
 refine QM (σ:=Unit) (fun _=>bF = .inl ()) (fun _=>[(10,.int .i64 ((a1:Nat):Int)),(5,.int .i64 aB),(1,.slice a6 l2.length a7)]) (fun _=>[.sli 3 QP a6 a7 l2]) (fun _=>[]) ?_ ?_
 refine Qw (Q5 (Q5 (Q1 (wP Z (wP Z ?_)))))
 obtain ⟨bG,bK,hm⟩:=Q6 hm
 refine Q1a 0 a1 Z Z Z Zq Z Z Z Z Z bK Q2y Q2N (fun d7 d8 cY cO=>(Q1G Q3c 1 Z (fun d9 bL _=>?_)))
 subst bL
 refine wF Z QaH (Q1F 1 2 Z Z Z Zq Z Z Z (cs:=[_]) Z Q7p Q7n Z Z (wN Z Q5r (wP Z (Qs (d:=105) (v':=.bool (decide (20 < bG.args.length))) (S':=V9 ..) Z Z (natgt (a:=bG.args.length) (b:=20)) (Q4 (Q3 (Q2 [105,10,5,1] (S':=V4 ..) Z ?_)))))))
 refine Qt Z (fun aX=>?_) (fun aX=>?_)
 replace hm:=QI hm aX
 refine Q2 [] (S':=[]) Z (Q5 (Q1 (wP Z (Q4 (Q3 (Qo (Q9 (Qk (Q9 (Q9 (Qk (Q9 ?_))))))))))))
 have hE:=(Zi hm).symm
 replace hE:=Qx hLj_8 hE
 replace hE:=Qx hLu4 hE
 replace hE:=Qx hLj_7 hE
 replace hE:=hE.symm
 subst hE
 refine Qp (Hr:=[]) [] Tryz.results9 (Qg Z) ⟨Z,Z,Z⟩ (asK [] Z) Z Z (.inl Z)
 replace hm:=QH hm aX
 refine Q2 [10,5,1] (S':=V3 ..) Z (Qr (Q3 (Q5 (Q1 (wP Z (Q4 (Q3 (Qw (Q1j (σ:=Nat × Nat) (fun (aY,a8)=>Q1h (Q2G N l2 a1) aY a8 = some bF) (fun (aY,a8)=>aY) (fun (aY,a8)=>[(11,.int .i64 ((a8:Nat):Int)),(10,.int .i64 ((a1:Nat):Int)),(5,.int .i64 aB),(1,.slice a6 l2.length a7)]) (fun (aY,a8)=>[.sli 3 QP a6 a7 l2]) (fun (aY,a8)=>[]) (N,0) hm [11,10,5,1] Z (asK [3] Z) Z (fun s_ hm=>?_))))))))))
 obtain ⟨aY,a8⟩:=s_
 try dsimp only at hm ⊢
 obtain ⟨e1,e2,cM,hq,hLu5⟩:=QV hm
 clear hm
 subst cM
 replace hm:=hq
 clear hq
 unfold Q2G at hm
 try dsimp only at hm
 refine Q5 (Q5 (Q1 (wP Z (wP Z (wP Z ?_)))))
 obtain ⟨bH,bM,hm⟩:=Q6 hm
 refine Q1a 0 a1 Z Z Z Zq Z Z Z Z Z bM Q2y Q2N (fun dA dB cZ cP=>(Q1G Q3c 1 Z (fun dC bN _=>?_)))
 subst bN
 refine wF Z QaH (Q1F 1 2 Z Z Z Zq Z Z Z (cs:=[_]) Z Q7p Q7n Z Z (wN Z Q5r (wP Z (Qs (d:=113) (v':=.bool (decide (a8 < bH.args.length))) (S':=V11 ..) Z Z (Q2l (a:=a8) (b:=bH.args.length)) (Q4 (Q3 (Q2 [113,11,10,5,1] (S':=V5 ..) Z ?_)))))))
 refine Qt Z (fun aZ=>?_) (fun aZ=>?_)
 replace hm:=QI hm aZ
 refine Q2 [11,10,5,1] (S':=V4 ..) Z (Qr (Q3 (Q5 (Qw (Q5 (Q1 (wP Z (wP Z ?_))))))))
 obtain ⟨dD,bO,hm⟩:=Q6 hm
 refine Q1a 3 a1 Z Z Z Zq Z Z Z Z Z bO Q2y Q2N (fun dE dF d0 cQ=>(Q1G Q3c 1 Z (fun dG bP _=>?_)))
 subst bP
 refine wF Z QaH (Q1F 1 2 Z Z Z Zq Z Z Z (cs:=[_]) Z Q7p Q7n Z Z (wP Z ?_))
 obtain ⟨bI,bQ,hm⟩:=Q6 hm
 refine Q1a 0 a8 Z Z Z Zq Z Z Z Z Z bQ Q5r Q1C (fun dH dI d1 cR=>(Q1G Q6f 1 Z (fun dJ bR _=>?_)))
 subst bR
 refine wF Z tF_57_2 (Q1F 0 2 Z Z Z Zq Z Z Z (cs:=[_]) Z Q2e Q3O Z Z (Q1w Z Z Z Zq (Q4g Z Z Q7r) (wP Z (Qs (d:=126) (v':=.bool (decide (100 < bI.s.size))) (S':=V14 ..) Z Z (natgt (a:=bI.s.size) (b:=100)) (Q4 (Q3 (Q2 [126,11,10,5,1] (S':=V5 ..) Z ?_)))))))
 refine Qt Z (fun b0=>?_) (fun b0=>?_)
 replace hm:=QI hm b0
 refine Q2 [] (S':=[]) Z (Q5 (Q1 (wP Z (Q4 (Q3 (Qo (Qk (Q9 (Q9 (Qk (Qk (Q9 (Q9 ?_)))))))))))))
 refine Qk (Q9 ?_)
 have hE:=(Zi hm).symm
 replace hE:=Qx hLu5 hE
 replace hE:=Qx hLj_8 hE
 replace hE:=Qx hLu4 hE
 replace hE:=Qx hLj_7 hE
 replace hE:=hE.symm
 subst hE
 refine Qp (Hr:=[]) [] Tryz.results9 (Qg Z) ⟨Z,Z,Z⟩ (asK [] Z) Z Z (.inl Z)
 replace hm:=QH hm b0
 refine Q2 [11,10,5,1] (S':=V4 ..) Z (Qr (Qf (Q3 (Q1 (wP Z (wP Z ?_))))))
 obtain ⟨bS,hm⟩:=Qd hm
 refine Qs (d:=115) (v':=.int .i64 ((a8 + 1:Nat):Int)) (S':=V5 ..) Z Z (Q1r (a:=a8) (b:=1) bS) (QT (S':=V5 ..) Z Z Z Z Z (Q4 ?_))
 have hE:=(Zi hm).symm
 replace hE:=QF hLu5 hE
 refine QU (_,a8 + 1) (Nat.lt_succ_self _) hE [11,10,5,1] Z (asK [8] Z) Z
 replace hm:=QH hm aZ
 refine Q2 [10,5,1] (S':=V3 ..) Z (Q1g (Qj (Qj (QD (Qf ?_)))))
 have hE:=(Zi hm).symm
 replace hE:=Qx hLu5 hE
 refine Qh () hE [10,5,1] Z (asK [3] Z) Z
 rintro _ hE
 try dsimp only
 have hm:=QF hLj_8 hE
 try dsimp only at hm
 refine Q1 (wP Z (wP Z ?_))
 obtain ⟨cN,hm⟩:=Qd hm
 refine Qs (d:=98) (v':=.int .i64 ((a1 + 1:Nat):Int)) (S':=V4 ..) Z Z (Q1r (a:=a1) (b:=1) cN) (QT (S':=V4 ..) Z Z Z Z Z (Q4 ?_))
 have hE:=(Zi hm).symm
 replace hE:=QF hLu4 hE
 refine QU (_,a1 + 1) (Nat.lt_succ_self _) hE [10,5,1] Z (asK [0] Z) Z
 replace hm:=QH hm b8
 refine Q2 [5,1] (S':=[_,_]) Z (Q1g (Qj (Qj (QD ?_))))
 have hE:=(Zi hm).symm
 replace hE:=Qx hLu4 hE
 refine Qh () hE [5,1] Z (asK [0] Z) Z
 rintro _ hE
 try dsimp only
 have hm:=QF hLj_7 hE
 try dsimp only at hm
 refine Q5 (Q1 (wP Z (wP Z (wP Z ?_))))
 refine QG (d:=129) (S':=V4 ..) Z Z (fun b1=>?_) (fun b1=>?_)
 replace hm:=QI hm b1
 refine wP Z (wN Z Q2y (wP Z (Qs (d:=132) (v':=.bool (decide (l2.length ≤ 40))) (S':=V7 ..) Z Z (natle (a:=l2.length) (b:=40)) (wP Z (wP Z (Q4 (Q3 (Q2 [4] (S':=[_]) Z (Qo ?_)))))))))
 have hE:=(Zi hm).symm
 replace hE:=hE.symm
 subst hE
 refine Qp (Hr:=[]) [] Tryz.results9 (Qg Z) ⟨Z,Z,Z⟩ (asK [] Z) Z Z (.inl Z)
 replace hm:=QH hm b1
 refine wO Z (wO Z (wO Z (wP Z (wP Z (Q4 (Q3 (Q2 [4] (S':=[_]) Z (Qo ?_))))))))
 have hE:=(Zi hm).symm
 replace hE:=hE.symm
 subst hE
 refine Qp (Hr:=[]) [] Tryz.results9 (Qg Z) ⟨Z,Z,Z⟩ (asK [] Z) Z Z (.inl Z)
theorem Qci (N:Nat) (a0:Int) (a1:Int) (o0:Int) (hm:Q5j N a0 a1 = some o0):Q17 Tryz.prog 17 [.int .i64 a0,.int .i64 a1] [] [] (fun v Φr Hr=>v = .int .i64 o0 ∧ Φr = [] ∧ Hr = []):=by
 unfold Q5j at hm
 refine QC Tryz.func17 Z Tryz.ntmps17 Z (S:=[_,_]) Z (fun C=>(Q5 (Q1 (wP Z (Q4 (Q3 (Q2 [0,1] (S':=[_,_]) Z (Q5 (Q5 (Q1 (wP Z (wP Z (Q4 (Q3 ?_))))))))))))))
 refine Q2 [6,0,1] (S':=V3 ..) Z ?_
 refine Qt Z (fun hb6=>?_) (fun hb6=>?_)
 replace hm:=QI hm hb6
 refine Q2 [] (S':=[]) Z (Q5 (Q1 (wP Z (Q4 (Q3 (Qo (Q9 ?_)))))))
 have hE:=(Zi hm).symm
 replace hE:=hE.symm
 subst hE
 refine Qp (Hr:=[]) [] Tryz.results17 (Qg Z) ⟨Z,Z,Z⟩ (asK [] Z) Z Z (.inl Z)
 replace hm:=QH hm hb6
 refine Q2 [0,1] (S':=[_,_]) Z (Qr (Q3 (Q5 (Q1 (wP Z (wP Z ?_))))))
 obtain ⟨hg9,hm⟩:=Qd hm
 refine Q8E Z Z Z Zq Z Z Z (run_rem hg9) (QT (S':=V4 ..) Z Z Z Z Z (Q4 (Q3 (Q2 [0,1] (S':=[_,_]) Z (Q5 ?_)))))
 obtain ⟨bj_1,hm,hLj_1⟩:=Q6 hm
 refine QM (σ:=Int) (fun j_1_0=>bj_1 = j_1_0) (fun j_1_0=>[(0,.int .i64 j_1_0)]) (fun j_1_0=>[]) (fun j_1_0=>[]) ?_ ?_
 refine Q5 (Q1 (wP Z (wP Z (Q4 (Q3 (Q2 [11,0,1] (S':=V3 ..) Z ?_))))))
 refine Qt Z (fun hb11=>?_) (fun hb11=>?_)
 replace hm:=QI hm hb11
 refine Q2 [0,1] (S':=[_,_]) Z (Q1 (wP Z (wP Z (wP Z ?_))))
 obtain ⟨hg14,hm⟩:=Qd hm
 refine Qs (d:=14) (v':=.int .i64 ((Int.tmod a0 a1) + a1)) (S':=V4 ..) Z Z (i64_in hg14) (QT (S':=V4 ..) Z Z Z Z Z (Q4 ?_))
 have hE:=(Zi hm).symm
 refine Qh ((Int.tmod a0 a1) + a1) hE [0] Z (asK [] Z) Z
 replace hm:=QH hm hb11
 refine Q2 [0] (S':=[_]) Z (Qr ?_)
 have hE:=(Zi hm).symm
 refine Qh (Int.tmod a0 a1) hE [0] Z (asK [] Z) Z
 rintro j_1_0 hE
 try dsimp only
 have hm:=hLj_1
 try rw [hE] at hm
 refine Q5 (Q1 (wP Z (wP Z (Q4 (Q3 (Q2 [4] (S':=[_]) Z (Qo ?_)))))))
 have hE:=(Zi hm).symm
 replace hE:=hE.symm
 subst hE
 refine Qp (Hr:=[]) [] Tryz.results17 (Qg Z) ⟨Z,Z,Z⟩ (asK [] Z) Z Z (.inl Z)
theorem QaR (N:Nat) (a7:OA) (a8:Nat) (l0:List Int) (a9:OA) (aA:Nat) (l1:List Int) (o0:Bool) (hm:Q3I N l0 l1 = some o0):Q17 Tryz.prog 73 [.slice a7 l0.length a8,.slice a9 l1.length aA] [.sli 1 Q20 a7 a8 l0,.sli 1 Q20 a9 aA l1] [] (fun v Φr Hr=>v = .bool o0 ∧ Φr = [] ∧ Hr = []):=by
 unfold Q3I at hm
 refine QC Tryz.func73 Z Tryz.ntmps73 Z (S:=[_,_]) Z (fun C=>(Q5 (Q1 (wP Z (Q4 (Q3 (Q2 [0,1] (S':=[_,_]) Z (Q5 (Q5 (Q1 (wP Z (wN Z Q5V (wP Z (wN Z Q5V ?_))))))))))))))
 refine wP Z (Qs (d:=10) (v':=.bool (l0.length != l1.length)) (S':=V6 ..) Z Z (natne (a:=l0.length) (b:=l1.length)) (Q4 (Q3 (Q2 [10,0,1] (S':=V3 ..) Z ?_))))
 refine Qt Z (fun a0=>?_) (fun a0=>?_)
 replace hm:=QI hm a0
 refine Q2 [] (S':=[]) Z (Q5 (Q1 (wP Z (Q4 (Q3 (Qo (Q9 ?_)))))))
 have hE:=(Zi hm).symm
 replace hE:=hE.symm
 subst hE
 refine Qp (Hr:=[]) [] Tryz.results73 (Qg Z) ⟨Z,Z,Z⟩ (asK [] Z) Z Z (.inl Z)
 replace hm:=QH hm a0
 refine Q2 [0,1] (S':=[_,_]) Z (Qr (Q3 (Q5 ?_)))
 obtain ⟨aC,hm,hLj_1⟩:=Q1o hm
 refine QM (σ:=Unit) (fun _=>aC = .inl ()) (fun _=>[]) (fun _=>[]) (fun _=>[]) ?_ ?_
 refine Q5 (Q1 (wP Z (Q4 (Q3 (Qw (Q1j (σ:=Nat × Nat) (fun (z,s)=>Q1h (Q31 N l0 l1) z s = some aC) (fun (z,s)=>z) (fun (z,s)=>[(5,.int .i64 ((s:Nat):Int)),(0,.slice a7 l0.length a8),(1,.slice a9 l1.length aA)]) (fun (z,s)=>[.sli 1 Q20 a7 a8 l0,.sli 1 Q20 a9 aA l1]) (fun (z,s)=>[]) (N,0) hm [5,0,1] Z (asK [0,1] Z) Z (fun s_ hm=>?_)))))))
 obtain ⟨z,s⟩:=s_
 try dsimp only at hm ⊢
 obtain ⟨aO,aP,aD,hq,hLu1⟩:=QV hm
 clear hm
 subst aD
 replace hm:=hq
 clear hq
 unfold Q31 at hm
 try dsimp only at hm
 refine Q5 (Q5 (Q1 (wP Z (wP Z (wN Z Q5V (wP Z (Qs (d:=14) (v':=.bool (decide (s < l0.length))) (S':=V6 ..) Z Z (Q2l (a:=s) (b:=l0.length)) (Q4 (Q3 (Q2 [14,5,0,1] (S':=V4 ..) Z ?_))))))))))
 refine Qt Z (fun a1=>?_) (fun a1=>?_)
 replace hm:=QI hm a1
 refine Q2 [5,0,1] (S':=V3 ..) Z (Qr (Q3 (Q5 (Qw (Q5 ?_)))))
 obtain ⟨aQ,aE,hm⟩:=Q6 hm
 obtain ⟨aR,aF,hm⟩:=Q6 hm
 refine QW [0,1,2,3,4,5,6,7,8] Z Z (fun hok=>(xP hok 0 Z (xP hok 1 Z (Q2P hok 2 0 s Z Z Z Zq Z Z Z Z Z Z aE Q5V Q1m (fun aS aT aM aJ=>(Q3s Q9a 1 Z (fun aU aG _=>?_)))))))
 subst aG
 refine Q4N hok 3 0 0 Z Z Z Zq Z Z Z Z (cs:=[_]) Z Q1m Q1H Z Z (xP hok 4 Z (xP hok 5 Z (Q2P hok 6 3 s Z Z Z Zq Z Z Z Z Z Z aF Q5V Q1m (fun aV aW aN aK=>(Q3s Q9a 1 Z (fun aX aH _=>?_))))))
 subst aH
 refine Q4N hok 7 0 0 Z Z Z Zq Z Z Z Z (cs:=[_]) Z Q1m Q1H Z Z (xP hok 8 Z (QS hok Z (Q3 (Q2 [25,5,0,1] (S':=V4 ..) Z ?_))))
 refine Qt Z (fun a5=>?_) (fun a5=>?_)
 replace hm:=QI hm a5
 refine Q2 [] (S':=[]) Z (Q5 (Q1 (wP Z (Q4 (Q3 (Qo (Qk (Q9 (Q9 (Qk (Q9 ?_)))))))))))
 have hE:=(Zi hm).symm
 replace hE:=Qx hLu1 hE
 replace hE:=Qx hLj_1 hE
 replace hE:=hE.symm
 subst hE
 refine Qp (Hr:=[]) [] Tryz.results73 (Qg Z) ⟨Z,Z,Z⟩ (asK [] Z) Z Z (.inl Z)
 replace hm:=QH hm a5
 refine Q2 [5,0,1] (S':=V3 ..) Z (Qr (Qf (Q3 (Q1 (wP Z (wP Z ?_))))))
 obtain ⟨aI,hm⟩:=Qd hm
 refine Qs (d:=16) (v':=.int .i64 ((s + 1:Nat):Int)) (S':=V4 ..) Z Z (Q1r (a:=s) (b:=1) aI) (QT (S':=V4 ..) Z Z Z Z Z (Q4 ?_))
 have hE:=(Zi hm).symm
 replace hE:=QF hLu1 hE
 refine QU (_,s + 1) (Nat.lt_succ_self _) hE [5,0,1] Z (asK [4,5] Z) Z
 replace hm:=QH hm a1
 refine Q2 [] (S':=[]) Z (Q1g (Qj (Qj (QD ?_))))
 have hE:=(Zi hm).symm
 replace hE:=Qx hLu1 hE
 refine Qh () hE [] Z (asK [] Z) Z
 rintro _ hE
 try dsimp only
 have hm:=QF hLj_1 hE
 try dsimp only at hm
 refine Q5 (Q1 (wP Z (Q4 (Q3 (Qo ?_)))))
 have hE:=(Zi hm).symm
 replace hE:=hE.symm
 subst hE
 refine Qp (Hr:=[]) [] Tryz.results73 (Qg Z) ⟨Z,Z,Z⟩ (asK [] Z) Z Z (.inl Z)
theorem Qan (N:Nat) (a0:Int) (qp0:OA) (qc1:Nat) (l1:List Int) (a2:Int) (qp2:OA) (qc3:Nat) (l3:List Int) (o0:Bool) (hm:Q3m N a0 l1 a2 l3 = some o0):Q17 Tryz.prog 37 [.agg #[.int .i64 a0,.slice qp0 l1.length qc1],.agg #[.int .i64 a2,.slice qp2 l3.length qc3]] [.sli 1 Q20 qp0 qc1 l1,.sli 1 Q20 qp2 qc3 l3] [] (fun v Φr Hr=>v = .bool o0 ∧ Φr = [] ∧ Hr = []):=by
 unfold Q3m at hm
 refine QC Tryz.func37 Z Tryz.ntmps37 Z (S:=[_,_]) Z (fun C=>(Q5 (Q1 (wB Z (fun g2=>(wB Z (fun g3=>(wP Z (Q4 (Q3 (Q2 [3,2] (S':=[_,_]) Z (Q5 (Q1 (wF Z tF_41_0 (wD 1 0 Z Q1m Q1H Z (wF Z tF_41_0 ?_))))))))))))))))
 refine wD 0 0 Z Q1m Q1H Z (wP Z (wP Z ?_))
 refine QG (d:=10) (S':=V7 ..) Z Z (fun hs10=>?_) (fun hs10=>?_)
 replace hm:=QI hm hs10
 refine wF Z Q9Q (wD 1 1 Z Q9n tA_39 Z (wF Z Q9Q (wD 0 1 Z Q9n tA_39 Z ?_)))
 obtain ⟨v15,hc15,hm⟩:=Q6 hm
 refine wC [] [0,1] Z fn_73 Z (QaR N qp0 qc1 l1 qp2 qc3 l3 _ hc15) (asK [0,1] Z) Z (H':=[_,_]) Z ?_
 rintro _ _ _ ⟨rfl,rfl,rfl⟩
 refine wP Z (wP Z (Q4 (Q3 (Q2 [4] (S':=[_]) Z (Qo ?_)))))
 have hE:=(Zi hm).symm
 replace hE:=hE.symm
 subst hE
 refine Qp (Hr:=[]) [] Tryz.results37 (Qg Z) ⟨Z,Z,Z⟩ (asK [] Z) Z Z (.inl Z)
 replace hm:=QH hm hs10
 refine wO Z (wO Z (wO Z (wO Z (wO Z (wP Z (wP Z (Q4 (Q3 (Q2 [4] (S':=[_]) Z (Qo ?_))))))))))
 have hE:=(Zi hm).symm
 replace hE:=hE.symm
 subst hE
 refine Qp (Hr:=[]) [] Tryz.results37 (Qg Z) ⟨Z,Z,Z⟩ (asK [] Z) Z Z (.inl Z)
end Go.Proofs.YtbgodclhmgmcgaaGreatDoor
