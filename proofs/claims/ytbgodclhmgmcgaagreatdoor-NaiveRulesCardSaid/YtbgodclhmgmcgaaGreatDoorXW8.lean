import Derived.Test.YtbgodclhmgmcgaaGreatDoorXW7
namespace Go.Proofs.YtbgodclhmgmcgaaGreatDoor
open Go.RowKit
set_option maxRecDepth 100000
set_option maxHeartbeats 4000000
theorem w_naive_Vars_s (N:Nat) (bF:OA) (bG:Nat) (l0:List Qk) (bH:OA) (bI:Nat) (l1:List Qh) (a2:Int) (b2:OA) (b3:Nat) (l3:List Int) (aZ:OA) (b0:Nat) (l4:List QE) (o2:List V) (o4:Bool) (hm:Qbj N l0 l1 a2 l3 l4 = some (o2,o4)):Q14 Tryz.prog 18 [.agg #[.slice bF l0.length bG,.slice bH l1.length bI],.agg #[.int .i64 a2,.slice b2 l3.length b3],.slice aZ l4.length b0] [.sli 2 Qc bF bG l0,.sli 5 Qb bH bI l1,.sli 1 Q25 b2 b3 l3,.sli 3 Q19 aZ b0 l4] [] (fun v Φr Hr=>∃ (o0:OA) (o1:Nat) (o3:Nat),v = .tuple #[.slice o0 o3 o1,.bool o4] ∧ Φr = [] ∧ Hr = [.own 57 3 R_V (.slice o0 o3 o1) o2]):=by
 unfold Qbj at hm
 refine QB Tryz.func18 Z Tryz.ntmps18 Z (S:=V3 ..) Z (fun C=>(Q5 (Q1 (wB Z (fun g3=>(wB Z (fun g4=>(wP Z (wP Z (Q4 (Q3 (Q2 [4,3,2] (S':=V3 ..) Z (Q5 (Q5 ?_))))))))))))))
 obtain ⟨cJ,hm,hLj_1⟩:=Q6 hm
 unfold QbM at hm
 refine QL (σ:=Bool) (fun aY=>cJ = aY) (fun aY=>[(4,.pointer (some ⟨g4,0,none⟩)),(3,.pointer (some ⟨g3,0,none⟩)),(2,.slice aZ l4.length b0),(38,.bool aY)]) (fun aY=>[.sli 1 Q25 b2 b3 l3,.sli 2 Qc bF bG l0,.sli 5 Qb bH bI l1,.sli 3 Q19 aZ b0 l4]) (fun aY=>[.blk g4 [.int .i64 a2,.slice b2 l3.length b3] 41,.blk g3 [.slice bF l0.length bG,.slice bH l1.length bI] 25]) ?_ ?_
 refine Q1 (QN 1 0 Z Z Z Zq Z Z Z (cs:=[_,_]) Z Q9c tA_25 Z Z ?_)
 obtain ⟨dP,cK,hm⟩:=Q6 hm
 refine wC [] [0,1] Z fn_30 Z (QbO N bF bG l0 bH bI l1 _ cK) (asK [0,1] Z) Z (H':=[_,_]) Z ?_
 rintro _ _ _ ⟨rfl,rfl,rfl⟩
 refine wP Z (wP Z ?_)
 refine QF (d:=20) (S':=V6 ..) Z Z (fun bJ=>?_) (fun bJ=>?_)
 replace hm:=QH hm bJ
 refine wO Z (wO Z (wO Z (wO Z (wP Z (wP Z (wO Z (wO Z (wO Z (wP Z (wP Z (wO Z (wO Z (wO Z ?_)))))))))))))
 refine wO Z (wO Z (wO Z (wP Z (Q4 ?_))))
 have hE:=(Zi hm).symm
 refine Qi true hE [4,3,2,38] Z (asK [2,0,1,3] Z) Z
 replace hm:=QG hm bJ
 refine QN 1 0 Z Z Z Zq Z Z Z (cs:=[_,_]) Z Q9c tA_25 Z Z (wP Z ?_)
 obtain ⟨dQ,cL,hm⟩:=Q6 hm
 refine wC [] [0,1] Z fn_31 Z (QbQ N bF bG l0 bH bI l1 aZ b0 l4 _ cL) (asK [0,1,3] Z) Z (H':=[_,_]) Z ?_
 rintro _ _ _ ⟨rfl,rfl,rfl⟩
 refine wP Z (wP Z (wP Z ?_))
 refine QF (d:=26) (S':=V12 ..) Z Z (fun bK=>?_) (fun bK=>?_)
 replace hm:=QH hm bK
 refine wO Z (wO Z (wO Z (wP Z (wP Z (wO Z (wO Z (wO Z (wO Z (wO Z (wO Z (wP Z (Q4 ?_))))))))))))
 have hE:=(Zi hm).symm
 refine Qi true hE [4,3,2,38] Z (asK [2,0,1,3] Z) Z
 replace hm:=QG hm bK
 refine wF Z tF_41_0 (wD 0 0 Z Q1l Q1H Z (wP Z (wP Z (wP Z ?_))))
 refine QF (d:=31) (S':=V17 ..) Z Z (fun bL=>?_) (fun bL=>?_)
 replace hm:=QH hm bL
 refine wO Z (wO Z (wO Z (wO Z (wO Z (wO Z (wP Z (Q4 ?_)))))))
 have hE:=(Zi hm).symm
 refine Qi true hE [4,3,2,38] Z (asK [2,0,1,3] Z) Z
 replace hm:=QG hm bL
 refine wF Z tF_41_0 (wD 0 0 Z Q1l Q1H Z (wF Z Q5M (wD 1 1 Z Q9b Q9B Z (wN Z Q7F (wP Z (wP Z (Q4 ?_)))))))
 have hE:=(Zi hm).symm
 refine Qi (decide (a2 ≥ ((l1.length:Nat):Int))) hE [4,3,2,38] Z (asK [2,0,1,3] Z) Z
 rintro aY hE
 try dsimp only
 have hm:=hLj_1
 try rw [hE] at hm
 refine Qs Z (fun bM=>?_) (fun bM=>?_)
 replace hm:=QH hm bM
 refine Q2 [] (S':=[]) Z (Q5 (Q1 (wP Z (wP Z (Q4 (Q3 (Qo (Q9 ?_))))))))
 have hE:=(Zi hm).symm
 obtain ⟨hE0,hE1⟩:=Prod.mk.inj hE
 clear hE
 replace hE0:=hE0.symm
 subst hE0
 replace hE1:=hE1.symm
 subst hE1
 refine Q3j 57 3 R_V ?_
 refine Q1A (Hr:=[_]) [0] Tryz.results18 (Qf Z) (Qf Z) ⟨none,0,0,Z,Z,Z⟩ (asK [] Z) Z Z (.inl Z)
 replace hm:=QG hm bM
 refine Q2 [4,3,2] (S':=V3 ..) Z (Qr (Q3 (Q5 (Q1 (wF Z Q5M (wD 1 1 Z Q9b Q9B Z (wF Z tF_41_0 (wD 0 0 Z Q1l Q1H Z ?_))))))))
 obtain ⟨cM,hm⟩:=Qe hm
 obtain ⟨b1,cN,hm⟩:=Q6 hm
 refine Q1a 2 a2.toNat Z Z Z Zq Z Z Z Z (Q1t cM) cN Q7F Q5f (fun dR dS dK d5=>(Q1G Q3u 1 Z (fun b4 cO _=>?_)))
 subst cO
 refine Q1F 2 0 Z Z Z Zq Z Z Z (cs:=V5 ..) Z Q5f Qas Z Z (QJ Z Z Z Zq Z tZ_52 Z (fun g8=>(wS 0 0 Z Q5f (all':=V5 ..) Z (H':=V3 ..) Z (Q4 (Q3 (Q2 [8,4,2] (S':=V3 ..) Z (Q5 (Q1 (wF Z Qbt (wD 0 2 Z Q1l Q1H Z ?_))))))))))
 obtain ⟨⟨bY,bZ⟩,cP,hm⟩:=Q6 hm
 try dsimp only at hm
 refine wC [] [0,1,2] Z fn_43 Z (Q9q N b1.vars _ _ cP) (asK [] Z) Z (H':=V3 ..) Z ?_
 rintro _ _ _ ⟨c0,c1,c2,c3,c4,c5,rfl,rfl,rfl⟩
 refine QJ Z Z Z Zq Z Q8q Z (fun g9=>(wS 0 0 Z Q2w (all':=[_,_]) Z (H':=V6 ..) Z (wP Z (Q4 (Q3 (Q2 [10,9,8,4,2] (S':=V5 ..) Z (Q5 ?_)))))))
 obtain ⟨bW,hm,hLj_2⟩:=Q1o hm
 refine QL (σ:=Nat × (List Bool) × (List V) × OA × Nat × Nat × OA × Nat × Nat) (fun (aU,aN,aO,aP,aQ,aR,a9,aA,aB)=>bW = .inl (aU,aN,aO)) (fun (aU,aN,aO,aP,aQ,aR,a9,aA,aB)=>[(10,.int .i64 ((aU:Nat):Int)),(9,.pointer (some ⟨g9,0,none⟩)),(4,.pointer (some ⟨g4,0,none⟩))]) (fun (aU,aN,aO,aP,aQ,aR,a9,aA,aB)=>[.sli 1 Q25 b2 b3 l3]) (fun (aU,aN,aO,aP,aQ,aR,a9,aA,aB)=>[.blk g9 [.slice aP aR aQ,.slice a9 aB aA] 100,.own 4 1 Q1k (.slice aP aR aQ) aN,.own 57 3 R_V (.slice a9 aB aA) aO,.blk g4 [.int .i64 a2,.slice b2 l3.length b3] 41]) ?_ ?_
 refine Q5 (Q1 (wF Z Q7D (wD 3 3 Z tS_49 tA_49 Z (wN Z Qa1 (wP Z (Q4 (Q3 (Q2 [51,50,49,10,9,4,2] (S':=V7 ..) Z (Qx (Q7e [0,1,2,4] Z (H':=V4 ..) Z (Q1j (σ:=Nat × Nat × Nat × (List Bool) × (List V) × OA × Nat × Nat × OA × Nat × Nat) (fun (b8,aM,aC,a5,z,a6,a7,a8,a0,a1,aD)=>Q1g (Q9p N b1 l4 l3) b8 (aM,aC,a5,z) = some bW) (fun (b8,aM,aC,a5,z,a6,a7,a8,a0,a1,aD)=>b8) (fun (b8,aM,aC,a5,z,a6,a7,a8,a0,a1,aD)=>[(51,.int .i64 ((aM:Nat):Int)),(50,.int .i64 ((b1.conds.length:Nat):Int)),(49,.slice b4.1.1 b1.conds.length b4.1.2),(10,.int .i64 ((aC:Nat):Int)),(9,.pointer (some ⟨g9,0,none⟩)),(4,.pointer (some ⟨g4,0,none⟩)),(2,.slice aZ l4.length b0)]) (fun (b8,aM,aC,a5,z,a6,a7,a8,a0,a1,aD)=>[.sli 10 QQ b4.1.1 b4.1.2 b1.conds,.sli 1 Q25 b2 b3 l3,.sli 3 Q19 aZ b0 l4]) (fun (b8,aM,aC,a5,z,a6,a7,a8,a0,a1,aD)=>[.blk g9 [.slice a6 a8 a7,.slice a0 aD a1] 100,.own 4 1 Q1k (.slice a6 a8 a7) a5,.own 57 3 R_V (.slice a0 aD a1) z,.blk g4 [.int .i64 a2,.slice b2 l3.length b3] 41]) (N,0,0,bY,bZ,c0,c1,c2,c3,c4,c5) hm [51,50,49,10,9,4,2] Z (asK [0,4,7] Z) Z (fun s_ hm=>?_))))))))))))
 obtain ⟨b8,aM,aC,a5,z,a6,a7,a8,a0,a1,aD⟩:=s_
 try dsimp only at hm ⊢
 obtain ⟨dT,dU,cQ,hq,hLu1⟩:=QU hm
 clear hm
 subst cQ
 replace hm:=hq
 clear hq
 unfold Q9p at hm
 try dsimp only at hm
 refine Q5 (Q1 (wP Z (Qt (d:=52) (v':=.bool (decide (aM < b1.conds.length))) (S':=V7 ..) Z Z (Q2n (a:=aM) (b:=b1.conds.length)) (Q4 (Q3 (Q5 ?_))))))
 refine Qs Z (fun bN=>?_) (fun bN=>?_)
 replace hm:=QH hm bN
 refine Q2 [51,50,49,10,9,4,2] (S':=V7 ..) Z (Qr (Q3 (Q5 ?_)))
 obtain ⟨cR,hm,hLj_3⟩:=Q1o hm
 unfold QbN at hm
 refine QL (σ:=Nat × (List Bool) × (List V) × OA × Nat × Nat × OA × Nat × Nat) (fun (aW,aE,aF,aG,aH,aI,aJ,aK,aL)=>cR = .inl (aW,aE,aF)) (fun (aW,aE,aF,aG,aH,aI,aJ,aK,aL)=>[(51,.int .i64 ((aM:Nat):Int)),(50,.int .i64 ((b1.conds.length:Nat):Int)),(49,.slice b4.1.1 b1.conds.length b4.1.2),(10,.int .i64 ((aW:Nat):Int)),(9,.pointer (some ⟨g9,0,none⟩)),(4,.pointer (some ⟨g4,0,none⟩)),(2,.slice aZ l4.length b0)]) (fun (aW,aE,aF,aG,aH,aI,aJ,aK,aL)=>[.sli 10 QQ b4.1.1 b4.1.2 b1.conds,.sli 1 Q25 b2 b3 l3,.sli 3 Q19 aZ b0 l4]) (fun (aW,aE,aF,aG,aH,aI,aJ,aK,aL)=>[.blk g9 [.slice aG aI aH,.slice aJ aL aK] 100,.own 4 1 Q1k (.slice aG aI aH) aE,.own 57 3 R_V (.slice aJ aL aK) aF,.blk g4 [.int .i64 a2,.slice b2 l3.length b3] 41]) ?_ ?_
 refine Qx (Q5 (Q1 ?_))
 obtain ⟨aT,cS,hm⟩:=Q6 hm
 refine Q1a 0 aM Z Z Z Zq Z Z Z Z Z cS Qa1 Q6S (fun dV dW dL d6=>(Q1G Q4q 1 Z (fun b5 cT _=>?_)))
 subst cT
 refine Q1F 2 0 Z Z Z Zq Z Z Z (cs:=V10 ..) Z Q6S tA_67 Z Z (QJ Z Z Z Zq Z tZ_67 Z (fun dX=>(wS 0 0 Z Q6S (all':=V10 ..) Z (H':=V5 ..) Z (Q4 (Q3 (Q2 [12,51,50,49,10,9,4,2] (S':=V8 ..) Z (Q5 (Q1 (wF Z Qaw (wD 0 0 Z tS_53 tA_53 Z (Q4 (Q3 (Q2 [56,12,51,50,49,10,9,4,2] (S':=V9 ..) Z (Qx ?_))))))))))))))
 refine Q5 (Q1 (wP Z (wP Z (Q4 (Q3 (Q2 [88,56,12,51,50,49,10,9,4,2] (S':=V10 ..) Z ?_))))))
 refine Qs Z (fun bO=>?_) (fun bO=>?_)
 replace hm:=QH hm bO
 refine Q2 [12,51,50,49,10,9,4,2] (S':=V8 ..) Z (Q5 (Q1 (wF Z Qbv (QN 0 3 Z Z Z Zq Z Z Z (cs:=V7 ..) Z Q4V Q7Q Z Z (wF Z Q7t (wD 1 1 Z Q7c Q7b Z (QP 3 Z (fun aS _=>?_))))))))
 subst aS
 obtain ⟨⟨d7,c6,d8,bP⟩,cU,hm⟩:=Q6 hm
 try dsimp only at hm
 refine Q5o [] [0,1,2,3,4] [3] Z Z Z Zq Z Z fn_44 Z (Q7S N aT.test.kind aT.test.value.k aT.test.value.n aT.test.value.s aT.test.var aT.test.op b5.2.1 b5.2.2 aT.test.kids a0 a1 z _ _ _ _ cU) (fun F w hφ hh=>(QZ (hφ _ (Q12 (k:=1) Z)) (QZ (Q1x (hh _ (Q12 (k:=0) Z))) Qv))) (fun _ _ _ hR=>by obtain ⟨rfl,rfl,rfl⟩:=hR; exact ⟨Z,(fun _ h=>Q3N h)⟩) Z Z (H':=V5 ..) Z ?_
 rintro _ _ _ ⟨rfl,rfl,rfl⟩
 refine wP Z (wP Z (wP Z (QJ Z Z Z Zq Z Q3r Z (fun dY=>(wS 0 0 Z Q1z (all':=V3 ..) Z (H':=V6 ..) Z (wP Z (Q4 (Q3 (Q2 [14,13,51,50,49,10,9,4,2] (S':=V9 ..) Z (Q5 ?_))))))))))
 obtain ⟨cV,hm,hLj_4⟩:=Q6 hm
 refine QL (σ:=Bool) (fun aV=>cV = aV) (fun aV=>[(51,.int .i64 ((aM:Nat):Int)),(50,.int .i64 ((b1.conds.length:Nat):Int)),(49,.slice b4.1.1 b1.conds.length b4.1.2),(10,.int .i64 ((aC:Nat):Int)),(9,.pointer (some ⟨g9,0,none⟩)),(4,.pointer (some ⟨g4,0,none⟩)),(2,.slice aZ l4.length b0),(109,.bool aV)]) (fun aV=>[.sli 10 QQ b4.1.1 b4.1.2 b1.conds,.sli 1 Q25 b2 b3 l3,.sli 3 Q19 aZ b0 l4]) (fun aV=>[.blk g9 [.slice a6 a8 a7,.slice a0 z.length a1] 100,.own 4 1 Q1k (.slice a6 a8 a7) a5,.own 57 3 R_V (.slice a0 z.length a1) z,.blk g4 [.int .i64 a2,.slice b2 l3.length b3] 41]) ?_ ?_
 refine Q1 (wP Z (wP Z (Qt (d:=99) (v':=.bool (bP != 0)) (S':=V10 ..) Z Z (natne (a:=bP) (b:=0)) (wP Z ?_))))
 refine QF (d:=100) (S':=V11 ..) Z Z (fun b9=>?_) (fun b9=>?_)
 replace hm:=QH hm b9
 refine wO Z (wO Z (wO Z (wP Z (wP Z (wO Z (wO Z (wO Z (wP Z (Q4 ?_)))))))))
 have hE:=(Zi hm).symm
 refine QC [2,3,4,5] Z (H':=V4 ..) Z ?_
 refine Qi true hE [51,50,49,10,9,4,2,109] Z (asK [4,5,6] Z) Z
 replace hm:=QG hm b9
 refine wF Z tF_57_0 (wD 0 0 Z tS_55 tA_55 Z (wP Z (wP Z (wP Z ?_))))
 refine QF (d:=105) (S':=V16 ..) Z Z (fun bA=>?_) (fun bA=>?_)
 replace hm:=QH hm bA
 refine wO Z (wO Z (wO Z (wP Z (Q4 ?_))))
 have hE:=(Zi hm).symm
 refine QC [2,3,4,5] Z (H':=V4 ..) Z ?_
 refine Qi true hE [51,50,49,10,9,4,2,109] Z (asK [4,5,6] Z) Z
 replace hm:=QG hm bA
 refine wF Z Q3p (wD 0 1 Z tS_2 tA_2 Z (wP Z (wP Z (Q4 ?_))))
 have hE:=(Zi hm).symm
 refine QC [2,3,4,5] Z (H':=V4 ..) Z ?_
 refine Qi (c6 == 0) hE [51,50,49,10,9,4,2,109] Z (asK [4,5,6] Z) Z
 rintro aV hE
 try dsimp only
 have hm:=hLj_4
 try rw [hE] at hm
 refine Qs Z (fun bB=>?_) (fun bB=>?_)
 replace hm:=QH hm bB
 refine Q2 [] (S':=[]) Z (Q5 (Q1 (wP Z (wP Z (Q4 (Q3 (Qo (Ql (Ql (Q9 (Q9 (Ql (Q9 ?_)))))))))))))
 have hE:=(Zi hm).symm
 replace hE:=Qy hLj_3 hE
 replace hE:=Qy hLu1 hE
 replace hE:=Qy hLj_2 hE
 obtain ⟨hE0,hE1⟩:=Prod.mk.inj hE
 clear hE
 replace hE0:=hE0.symm
 subst hE0
 replace hE1:=hE1.symm
 subst hE1
 refine Q3j 57 3 R_V ?_
 refine Q1A (Hr:=[_]) [0] Tryz.results18 (Qf Z) (Qf Z) ⟨none,0,0,Z,Z,Z⟩ (asK [] Z) Z Z (.inl Z)
 replace hm:=QG hm bB
 refine Q2 [51,50,49,10,9,4,2] (S':=V7 ..) Z (Qr (Qg (Qg ?_)))
 have hE:=(Zi hm).symm
 refine Qi (aC,a5,z,a6,a7,a8,a0,a1,z.length) hE [51,50,49,10,9,4,2] Z (asK [0,1,2] Z) Z
 replace hm:=QG hm bO
 refine Q2 [56,12,51,50,49,10,9,4,2] (S':=V9 ..) Z (Q5 (Q1 (wP Z (wP Z (Q4 (Q3 (Q2 [110,12,51,50,49,10,9,4,2] (S':=V9 ..) Z ?_)))))))
 refine Qs Z (fun bC=>?_) (fun bC=>?_)
 replace hm:=QH hm bC
 refine Q2 [12,51,50,49,10,9,4,2] (S':=V8 ..) Z (Q5 (Q1 (QN 0 0 Z Z Z Zq Z Z Z (cs:=V10 ..) Z Q6S tA_67 Z Z (QN 1 0 Z Z Z Zq Z Z Z (cs:=[_,_]) Z Q2w Q5U Z Z (wP Z (QP 2 Z (fun aX _=>?_)))))))
 subst aX
 refine QP 3 Z (fun aS _=>?_)
 subst aS
 obtain ⟨dM,c7,hm⟩:=Q6 hm
 refine Q5o [] [0,1,2,3,4] [2,3] Z Z Z Zq Z Z fn_45 Z (Q8Q N aT.kind aT.type b5.1.1 b5.1.2 aT.args aT.test.kind aT.test.value.k aT.test.value.n aT.test.value.s aT.test.var aT.test.op b5.2.1 b5.2.2 aT.test.kids a6 a7 a5 a0 a1 z aZ b0 l4 _ c7) (fun F w hφ hh=>(QZ (hφ _ (Q12 (k:=0) Z)) (QZ (hφ _ (Q12 (k:=1) Z)) (QZ (Q1x (hh _ (Q12 (k:=0) Z))) (QZ (Q1x (hh _ (Q12 (k:=1) Z))) (QZ (hφ _ (Q12 (k:=6) Z)) Qv)))))) (fun _ _ _ hR=>by obtain ⟨rfl,rfl,rfl⟩:=hR; exact ⟨Z,(fun _ h=>Q3N h)⟩) Z Z (H':=V5 ..) Z ?_
 rintro _ _ _ ⟨rfl,rfl,rfl⟩
 refine Q4 (Q3 (Q2 [115,51,50,49,10,9,4,2] (S':=V8 ..) Z ?_))
 refine Qs Z (fun bD=>?_) (fun bD=>?_)
 replace hm:=QH hm bD
 refine Q2 [] (S':=[]) Z (Q5 (Q1 (wP Z (wP Z (Q4 (Q3 (Qo (Ql (Ql (Q9 (Q9 (Ql (Q9 ?_)))))))))))))
 have hE:=(Zi hm).symm
 replace hE:=Qy hLj_3 hE
 replace hE:=Qy hLu1 hE
 replace hE:=Qy hLj_2 hE
 obtain ⟨hE0,hE1⟩:=Prod.mk.inj hE
 clear hE
 replace hE0:=hE0.symm
 subst hE0
 replace hE1:=hE1.symm
 subst hE1
 refine Q3j 57 3 R_V ?_
 refine Q1A (Hr:=[_]) [0] Tryz.results18 (Qf Z) (Qf Z) ⟨none,0,0,Z,Z,Z⟩ (asK [] Z) Z Z (.inl Z)
 replace hm:=QG hm bD
 refine Q2 [51,50,49,10,9,4,2] (S':=V7 ..) Z (Qr (Qg (Qg ?_)))
 have hE:=(Zi hm).symm
 refine QC [1,2,3,4] Z (H':=V4 ..) Z ?_
 refine Qi (aC,a5,z,a6,a7,a5.length,a0,a1,z.length) hE [51,50,49,10,9,4,2] Z (asK [4,5,6] Z) Z
 replace hm:=QG hm bC
 refine Q2 [12,51,50,49,10,9,4,2] (S':=V8 ..) Z (Q5 (Q5 (Q1 (wP Z (wF Z Qat (wD 4 1 Z Q9E tA_39 Z (wN Z Q6l (wP Z (Qt (d:=61) (v':=.bool (decide (l3.length ≤ aC))) (S':=V12 ..) Z Z (natge (a:=aC) (b:=l3.length)) (Q4 (Q3 (Q2 [61,12,51,50,49,10,9,4,2] (S':=V9 ..) Z ?_))))))))))))
 refine Qs Z (fun bQ=>?_) (fun bQ=>?_)
 replace hm:=QH hm bQ
 refine Q2 [] (S':=[]) Z (Q5 (Q1 (wP Z (wP Z (Q4 (Q3 (Qo (Q9 (Ql (Ql (Q9 (Q9 (Ql ?_)))))))))))))
 refine Q9 ?_
 have hE:=(Zi hm).symm
 replace hE:=Qy hLj_3 hE
 replace hE:=Qy hLu1 hE
 replace hE:=Qy hLj_2 hE
 obtain ⟨hE0,hE1⟩:=Prod.mk.inj hE
 clear hE
 replace hE0:=hE0.symm
 subst hE0
 replace hE1:=hE1.symm
 subst hE1
 refine Q3j 57 3 R_V ?_
 refine Q1A (Hr:=[_]) [0] Tryz.results18 (Qf Z) (Qf Z) ⟨none,0,0,Z,Z,Z⟩ (asK [] Z) Z Z (.inl Z)
 replace hm:=QG hm bQ
 refine Q2 [12,51,50,49,10,9,4,2] (S':=V8 ..) Z (Qr (Q3 (Q5 (Q1 (wP Z (wF Z Qat (wD 4 1 Z Q9E tA_39 Z (wP Z ?_))))))))
 obtain ⟨d9,cW,hm⟩:=Q6 hm
 refine Q1a 5 aC Z Z Z Zq Z Z Z Z Z cW Q6l Q1l (fun dZ e0 dN dA=>(Q1G Qan 1 Z (fun e1 cX _=>?_)))
 subst cX
 refine Q1F 0 0 Z Z Z Zq Z Z Z (cs:=[_]) Z Q1l Q1H Z Z ?_
 obtain ⟨⟨c8,dB⟩,cY,hm⟩:=Q6 hm
 try dsimp only at hm
 refine wC [] [0,1,2,3,4] Z fn_46 Z (Q8B N aZ b0 l4 d9 _ _ cY) (asK [8] Z) Z (H':=V5 ..) Z ?_
 rintro _ _ _ ⟨rfl,rfl,rfl⟩
 refine wP Z (wP Z (wP Z (wP Z (wP Z (Q4 (Q3 (Q2 [16,15,12,51,50,49,10,9,4,2] (S':=V10 ..) Z (Q5 (Q5 (Q1 (wP Z (wP Z (Q4 ?_)))))))))))))
 refine Q3 (Q2 [73,15,12,51,50,49,10,9,4,2] (S':=V10 ..) Z ?_)
 refine Qs Z (fun bR=>?_) (fun bR=>?_)
 replace hm:=QH hm bR
 refine Q2 [] (S':=[]) Z (Q5 (Q1 (wP Z (wP Z (Q4 (Q3 (Qo (Q9 (Ql (Ql (Q9 (Q9 (Ql ?_)))))))))))))
 refine Q9 ?_
 have hE:=(Zi hm).symm
 replace hE:=Qy hLj_3 hE
 replace hE:=Qy hLu1 hE
 replace hE:=Qy hLj_2 hE
 obtain ⟨hE0,hE1⟩:=Prod.mk.inj hE
 clear hE
 replace hE0:=hE0.symm
 subst hE0
 replace hE1:=hE1.symm
 subst hE1
 refine Q3j 57 3 R_V ?_
 refine Q1A (Hr:=[_]) [0] Tryz.results18 (Qf Z) (Qf Z) ⟨none,0,0,Z,Z,Z⟩ (asK [] Z) Z Z (.inl Z)
 replace hm:=QG hm bR
 refine Q2 [15,12,51,50,49,10,9,4,2] (S':=V9 ..) Z (Qr (Q3 (Q5 (Q5 ?_))))
 obtain ⟨cZ,hm⟩:=Qe hm
 obtain ⟨c9,d0,hm⟩:=Q6 hm
 obtain ⟨⟨cA,cB,dC⟩,d1,hm⟩:=Q6 hm
 try dsimp only at hm
 refine QV [0,1,2,3,4,5,7,8,9] Z Z (fun hok=>(Qn hok 0 0 0 Z Z Z Zq Z Z Z Z (cs:=V10 ..) Z Q6S tA_67 Z Z (xP hok 1 Z (xP hok 2 Z (Q2T hok 3 8 c8.toNat Z Z Z Zq Z Z Z Z Z (Q1t cZ) d0 Q7s Q5g (fun e2 e3 dO dD=>(Q3G Q3t 1 Z (fun d2 d3 _=>?_))))))))
 subst d3
 refine Q4R hok 4 1 0 Z Z Z Zq Z Z Z Z (cs:=V3 ..) Z Q5g tA_71 Z Z (Qn hok 5 1 0 Z Z Z Zq Z Z Z Z (cs:=[_,_]) Z Q2w Q5U Z Z (xS hok 6 Z (QP 2 Z (fun aX _=>?_))))
 subst aX
 refine QP 3 Z (fun aS _=>?_)
 subst aS
 refine Q5o [] [0,1,2,3,4] [2,3] Z Z Z Zq Z Z fn_49 Z (Q7d N aT.kind aT.type b5.1.1 b5.1.2 aT.args aT.test.kind aT.test.value.k aT.test.value.n aT.test.value.s aT.test.var aT.test.op b5.2.1 b5.2.2 aT.test.kids c9.id c9.ty d2.1 d2.2 c9.args a6 a7 a5 a0 a1 z _ _ _ d1) (fun F w hφ hh=>(QZ (hφ _ (Q12 (k:=5) Z)) (QZ (hφ _ (Q12 (k:=6) Z)) (QZ (hφ _ (Q12 (k:=0) Z)) (QZ (Q1x (hh _ (Q12 (k:=0) Z))) (QZ (Q1x (hh _ (Q12 (k:=1) Z))) Qv)))))) (fun _ _ _ hR=>by obtain ⟨_,_,_,_,_,_,rfl,rfl,rfl⟩:=hR; exact ⟨Z,(free_cons (own_free mkRep_free) (free_cons (own_free mkRep_free) (fun _ h=>Q3N h)))⟩) Z Z (H':=V5 ..) Z ?_
 rintro _ _ _ ⟨cC,cD,cE,cF,cG,cH,rfl,rfl,rfl⟩
 refine Q4 (QO [0,1,2,3,4,5,6,7,8,9,10,11] [] Z Z (xP hok 7 Z (xP hok 8 Z (xP hok 9 Z (xS hok 10 Z (wS 3 0 Z Q2w (all':=[_,_]) Z (H':=V7 ..) Z (Q4 (QO [0,1,2,3,4,5,6,7,8,9,10,11] [] Z Z (xS hok 11 Z (wP Z (Q4 (QO [0,1,2,3,4,5,6,7,8,9,10,11] [] Z Z (QR hok Z ?_)))))))))))))
 refine Q3 (Q2 [16,51,50,49,10,9,4,2] (S':=V8 ..) Z (Q5 (Q1 (wP Z (wP Z (Q4 (Q3 (Q2 [85,51,50,49,10,9,4,2] (S':=V8 ..) Z ?_))))))))
 refine Qs Z (fun bS=>?_) (fun bS=>?_)
 replace hm:=QH hm bS
 refine Q2 [] (S':=[]) Z (Q5 (Q1 (wP Z (wP Z (Q4 (Q3 (Qo (Q9 (Ql (Ql (Q9 (Q9 (Ql ?_)))))))))))))
 refine Q9 ?_
 have hE:=(Zi hm).symm
 replace hE:=Qy hLj_3 hE
 replace hE:=Qy hLu1 hE
 replace hE:=Qy hLj_2 hE
 obtain ⟨hE0,hE1⟩:=Prod.mk.inj hE
 clear hE
 replace hE0:=hE0.symm
 subst hE0
 replace hE1:=hE1.symm
 subst hE1
 refine Q3j 57 3 R_V ?_
 refine Q1A (Hr:=[_]) [0] Tryz.results18 (Qf Z) (Qf Z) ⟨none,0,0,Z,Z,Z⟩ (asK [] Z) Z Z (.inl Z)
 replace hm:=QG hm bS
 refine Q2 [51,50,49,10,9,4,2] (S':=V7 ..) Z (Qr (Q3 (Q1 (wP Z (wP Z ?_)))))
 obtain ⟨d4,hm⟩:=Qe hm
 refine Qt (d:=87) (v':=.int .i64 ((aC + 1:Nat):Int)) (S':=V8 ..) Z Z (Q1w (a:=aC) (b:=1) d4) (QT (S':=V8 ..) Z Z Z Z Z (Q4 (Qg (Qg ?_))))
 have hE:=(Zi hm).symm
 refine QC [3,0,1,6] Z (H':=V4 ..) Z ?_
 refine Qi (aC + 1,cA,cB,cC,cD,cE,cF,cG,cH) hE [51,50,49,10,9,4,2] Z (asK [9,10,11] Z) Z
 rintro ⟨aW,aE,aF,aG,aH,aI,aJ,aK,aL⟩ hE
 try dsimp only
 have hm:=QI hLj_3 hE
 try dsimp only at hm
 refine Q1 (wP Z ?_)
 obtain ⟨cI,hm⟩:=Qe hm
 refine Qt (d:=116) (v':=.int .i64 ((aM + 1:Nat):Int)) (S':=V7 ..) Z Z (Q1w (a:=aM) (b:=1) cI) (QT (S':=V7 ..) Z Z Z Z Z (Q4 ?_))
 have hE:=(Zi hm).symm
 replace hE:=QI hLu1 hE
 refine QS (_,aM + 1,aW,aE,aF,aG,aH,aI,aJ,aK,aL) (Nat.lt_succ_self _) hE [51,50,49,10,9,4,2] Z (asK [0,1,2] Z) Z
 replace hm:=QG hm bN
 refine Q2 [10,9,4] (S':=V3 ..) Z (Q1f (Qj (Qj (QD ?_))))
 have hE:=(Zi hm).symm
 replace hE:=Qy hLu1 hE
 refine Qi (aC,a5,z,a6,a7,a8,a0,a1,aD) hE [10,9,4] Z (asK [1] Z) Z
 rintro ⟨aU,aN,aO,aP,aQ,aR,a9,aA,aB⟩ hE
 try dsimp only
 have hm:=QI hLj_2 hE
 try dsimp only at hm
 refine Q5 (Q5 (Q1 (wP Z (wF Z Qat (wD 3 1 Z Q9E tA_39 Z (wN Z Q6l (wP Z (Qt (d:=121) (v':=.bool (decide (aU < l3.length))) (S':=V7 ..) Z Z (Q2n (a:=aU) (b:=l3.length)) (Q4 (Q3 (Q2 [121,9] (S':=[_,_]) Z ?_)))))))))))
 refine Qs Z (fun bE=>?_) (fun bE=>?_)
 replace hm:=QH hm bE
 refine Q2 [] (S':=[]) Z (Q5 (Q1 (wP Z (wP Z (Q4 (Q3 (Qo (Q9 ?_))))))))
 have hE:=(Zi hm).symm
 obtain ⟨hE0,hE1⟩:=Prod.mk.inj hE
 clear hE
 replace hE0:=hE0.symm
 subst hE0
 replace hE1:=hE1.symm
 subst hE1
 refine Q3j 57 3 R_V ?_
 refine Q1A (Hr:=[_]) [0] Tryz.results18 (Qf Z) (Qf Z) ⟨none,0,0,Z,Z,Z⟩ (asK [] Z) Z Z (.inl Z)
 replace hm:=QG hm bE
 refine Q2 [9] (S':=[_]) Z (Qr (Q3 (Q5 (Q1 (wF Z Q7t (wD 0 1 Z Q7c Q7b Z (wP Z (wP Z (Q4 (Q3 (Q2 [7,6] (S':=[_,_]) Z (Qo ?_))))))))))))
 have hE:=(Zi hm).symm
 obtain ⟨hE0,hE1⟩:=Prod.mk.inj hE
 clear hE
 replace hE0:=hE0.symm
 subst hE0
 replace hE1:=hE1.symm
 subst hE1
 refine Q1A (Hr:=[_]) [2] Tryz.results18 (Qf Z) (Qf Z) ⟨a9,aA,aB,Z,Z,Z⟩ (asK [] Z) Z Z (.inl Z)
theorem Qb3 (N:Nat)  (o0:Bool) (hm:Q5j N = some o0):Q14 Tryz.prog 8 [] [] [] (fun v Φr Hr=>v = .bool o0 ∧ Φr = [] ∧ Hr = []):=by
 unfold Q5j at hm
 refine QB Tryz.func8 Z Tryz.ntmps8 Z (S:=[]) Z (fun C=>(Q5 (Q1 (wP Z (Q4 (Q3 (Q2 [] (S':=[]) Z (Q5 (Q1 ?_)))))))))
 obtain ⟨⟨aS,aT⟩,bW,hm⟩:=Q6 hm
 try dsimp only at hm
 refine wC [] [] Z fn_24 Z (Q5s N _ _ bW) (asK [] Z) Z (H':=[]) Z ?_
 rintro _ _ _ ⟨aU,aV,c4,aW,aX,c5,rfl,rfl,rfl⟩
 obtain ⟨_,bX,hm⟩:=Q6 hm
 try dsimp only at hm
 refine wC [] [0,1] Z fn_21 Z (Q20 N 1 1 1 bX) (asK [] Z) Z (H':=[_,_]) Z ?_
 rintro _ _ _ ⟨aH,rfl,rfl,rfl⟩
 obtain ⟨_,bY,hm⟩:=Q6 hm
 try dsimp only at hm
 refine wC [] [0,1,2] Z fn_21 Z (Q20 N 2 1 2 bY) (asK [] Z) Z (H':=V3 ..) Z ?_
 rintro _ _ _ ⟨aJ,rfl,rfl,rfl⟩
 refine QA Z Z Z Zq Z Q7s Q5g tZ_71 Z (zs:=[.int .i64 0,.int .i64 0,V1,.int .i64 0,.int .i64 0,V1]) (by kernel_rfl) Z (out:=V6 ..) Z (fun g9=>(Q2j (sz:=3) (m:=2) R_V ([(⟨1,1,(⟨#[]⟩ : ByteArray)⟩ : V),(⟨1,1,(⟨#[]⟩ : ByteArray)⟩ : V)]) 2 Z (fun F w hφ=>⟨[.int .u8 1,.int .i64 1,.string ((⟨#[]⟩ : ByteArray))],[.int .u8 1,.int .i64 1,.string ((⟨#[]⟩ : ByteArray))],Z,Z,⟨(),Z,Qv⟩,⟨[.int .u8 1,.int .i64 1,.string ((⟨#[]⟩ : ByteArray))],[],Z,Z,⟨(),Z,Qv⟩,Z⟩⟩) Z (by decide) (H':=V5 ..) Z (Q2j (sz:=3) (m:=2) R_V ([(⟨1,1,(⟨#[]⟩ : ByteArray)⟩ : V),(⟨1,2,(⟨#[]⟩ : ByteArray)⟩ : V)]) 1 Z (fun F w hφ=>⟨[.int .u8 1,.int .i64 1,.string ((⟨#[]⟩ : ByteArray))],[.int .u8 1,.int .i64 2,.string ((⟨#[]⟩ : ByteArray))],Z,Z,⟨(),Z,Qv⟩,⟨[.int .u8 1,.int .i64 2,.string ((⟨#[]⟩ : ByteArray))],[],Z,Z,⟨(),Z,Qv⟩,Z⟩⟩) Z (by decide) (H':=V5 ..) Z (Q2j (sz:=3) (m:=2) Q1C.pair ([((⟨1,0,[(⟨1,1,(⟨#[]⟩ : ByteArray)⟩ : V),(⟨1,1,(⟨#[]⟩ : ByteArray)⟩ : V)]⟩ : QE),(some (⟨aH,0,none⟩ : Addr),2)),((⟨2,0,[(⟨1,1,(⟨#[]⟩ : ByteArray)⟩ : V),(⟨1,2,(⟨#[]⟩ : ByteArray)⟩ : V)]⟩ : QE),(some (⟨aJ,0,none⟩ : Addr),2))]) 0 Z (fun F w hφ=>⟨[.int .i64 1,.int .i64 0,.slice (some ⟨aH,0,none⟩) 2 2],[.int .i64 2,.int .i64 0,.slice (some ⟨aJ,0,none⟩) 2 2],Z,Z,Z,⟨[.int .i64 2,.int .i64 0,.slice (some ⟨aJ,0,none⟩) 2 2],[],Z,Z,Z,Z⟩⟩) Z (by decide) (H':=V5 ..) Z (Q31 [Q4Z Q1C [] none,_,_,_,_,_] (fun _ h=>h.bagNil Q1C) (Q5p [3,0,1,2,4,5] Z (H':=V6 ..) Z (Q31 [Q4Z Q1C ([((⟨1,0,[(⟨1,1,(⟨#[]⟩ : ByteArray)⟩ : V),(⟨1,1,(⟨#[]⟩ : ByteArray)⟩ : V)]⟩ : QE),(some (⟨aH,0,none⟩ : Addr),2))]) none,_,_,_,_] (fun _ h=>Q13.bagPush (T:=Q1C) (x:=(⟨1,0,[(⟨1,1,(⟨#[]⟩ : ByteArray)⟩ : V),(⟨1,1,(⟨#[]⟩ : ByteArray)⟩ : V)]⟩ : QE)) (r:=(some (⟨aH,0,none⟩ : Addr),2)) (zs:=[]) (H:=V5 ..) h 0 Z) (Q5p [2,0,1,3,4] Z (H':=V5 ..) Z (Q31 [Q4Z Q1C (([((⟨1,0,[(⟨1,1,(⟨#[]⟩ : ByteArray)⟩ : V),(⟨1,1,(⟨#[]⟩ : ByteArray)⟩ : V)]⟩ : QE),(some (⟨aH,0,none⟩ : Addr),2))]) ++ [((⟨2,0,[(⟨1,1,(⟨#[]⟩ : ByteArray)⟩ : V),(⟨1,2,(⟨#[]⟩ : ByteArray)⟩ : V)]⟩ : QE),(some (⟨aJ,0,none⟩ : Addr),2))]) none,_,_,_] (fun _ h=>Q13.bagPush (T:=Q1C) (x:=(⟨2,0,[(⟨1,1,(⟨#[]⟩ : ByteArray)⟩ : V),(⟨1,2,(⟨#[]⟩ : ByteArray)⟩ : V)]⟩ : QE)) (r:=(some (⟨aJ,0,none⟩ : Addr),2)) (zs:=[((⟨1,0,[(⟨1,1,(⟨#[]⟩ : ByteArray)⟩ : V),(⟨1,1,(⟨#[]⟩ : ByteArray)⟩ : V)]⟩ : QE),(some (⟨aH,0,none⟩ : Addr),2))]) (H:=V4 ..) h 0 Z) (QaQ 0 (φ':=Q4Z Q1C ([((⟨1,0,[(⟨1,1,(⟨#[]⟩ : ByteArray)⟩ : V),(⟨1,1,(⟨#[]⟩ : ByteArray)⟩ : V)]⟩ : QE),(some (⟨aH,0,none⟩ : Addr),2)),((⟨2,0,[(⟨1,1,(⟨#[]⟩ : ByteArray)⟩ : V),(⟨1,2,(⟨#[]⟩ : ByteArray)⟩ : V)]⟩ : QE),(some (⟨aJ,0,none⟩ : Addr),2))]) none) Z Z (H':=V4 ..) Z (Q31 [Q2f Q1C 71 3 (.slice (some ⟨g9,0,none⟩) 2 2) ([(⟨1,0,[(⟨1,1,(⟨#[]⟩ : ByteArray)⟩ : V),(⟨1,1,(⟨#[]⟩ : ByteArray)⟩ : V)]⟩ : QE),(⟨2,0,[(⟨1,1,(⟨#[]⟩ : ByteArray)⟩ : V),(⟨1,2,(⟨#[]⟩ : ByteArray)⟩ : V)]⟩ : QE)]),_,_] (fun _ h=>h.treeIn 1 0 Z Z Z Z) (QP 1 Z (fun aQ _=>?_)))))))))))))
 subst aQ
 refine Q1N 1 Z (H':=[_,_]) Z (Q2h (.sli 2 Qc aU aV aS) (fun F w hφ=>Q1x (hφ _ (Q12 (k:=0) Z))) (QP 1 Z (fun aR _=>?_)))
 subst aR
 refine Q1N 1 Z (H':=[_]) Z (Q2h (.sli 5 Qb aW aX aT) (fun F w hφ=>Q1x (hφ _ (Q12 (k:=0) Z))) (Q31 [.own 71 3 Q19 (.slice (some ⟨g9,0,none⟩) 2 2) ([(⟨1,0,[(⟨1,1,(⟨#[]⟩ : ByteArray)⟩ : V),(⟨1,1,(⟨#[]⟩ : ByteArray)⟩ : V)]⟩ : QE),(⟨2,0,[(⟨1,1,(⟨#[]⟩ : ByteArray)⟩ : V),(⟨1,2,(⟨#[]⟩ : ByteArray)⟩ : V)]⟩ : QE)])] (fun _ h=>h.letgo Q7y 0 Z) (QP 0 Z (fun bN _=>(wl_at 0 (v':=.slice (some ⟨g9,0,none⟩) ([(⟨1,0,[(⟨1,1,(⟨#[]⟩ : ByteArray)⟩ : V),(⟨1,1,(⟨#[]⟩ : ByteArray)⟩ : V)]⟩ : QE),(⟨2,0,[(⟨1,1,(⟨#[]⟩ : ByteArray)⟩ : V),(⟨1,2,(⟨#[]⟩ : ByteArray)⟩ : V)]⟩ : QE)].length) 2) Z (by first | rfl | (rw [bN]; done) | simp) (QaQ 0 (φ':=.own 71 3 Q19 (.slice (some ⟨g9,0,none⟩) ([(⟨1,0,[(⟨1,1,(⟨#[]⟩ : ByteArray)⟩ : V),(⟨1,1,(⟨#[]⟩ : ByteArray)⟩ : V)]⟩ : QE),(⟨2,0,[(⟨1,1,(⟨#[]⟩ : ByteArray)⟩ : V),(⟨1,2,(⟨#[]⟩ : ByteArray)⟩ : V)]⟩ : QE)].length) 2) ([(⟨1,0,[(⟨1,1,(⟨#[]⟩ : ByteArray)⟩ : V),(⟨1,1,(⟨#[]⟩ : ByteArray)⟩ : V)]⟩ : QE),(⟨2,0,[(⟨1,1,(⟨#[]⟩ : ByteArray)⟩ : V),(⟨1,2,(⟨#[]⟩ : ByteArray)⟩ : V)]⟩ : QE)])) Z (by first | rfl | (rw [bN]; done) | simp) (H':=[_]) Z (Q1N 0 Z (H':=[]) Z (Q2h (.sli 3 Q19 (some ⟨g9,0,none⟩) 2 ([(⟨1,0,[(⟨1,1,(⟨#[]⟩ : ByteArray)⟩ : V),(⟨1,1,(⟨#[]⟩ : ByteArray)⟩ : V)]⟩ : QE),(⟨2,0,[(⟨1,1,(⟨#[]⟩ : ByteArray)⟩ : V),(⟨1,2,(⟨#[]⟩ : ByteArray)⟩ : V)]⟩ : QE)])) (fun F w hφ=>Q1x (hφ _ (Q12 (k:=0) Z))) ?_))))))))
 obtain ⟨⟨aL,aO⟩,bO,hm⟩:=Q6 hm
 try dsimp only at hm
 refine wC [] [] Z fn_12 Z (Q8P N aU aV aS aW aX aT (some ⟨g9,0,none⟩) 2 [(⟨1,0,[(⟨1,1,(⟨#[]⟩ : ByteArray)⟩ : V),(⟨1,1,(⟨#[]⟩ : ByteArray)⟩ : V)]⟩ : QE),(⟨2,0,[(⟨1,1,(⟨#[]⟩ : ByteArray)⟩ : V),(⟨1,2,(⟨#[]⟩ : ByteArray)⟩ : V)]⟩ : QE)] _ _ bO) (asK [4,2,0] Z) Z (H':=[]) Z ?_
 rintro _ _ _ ⟨b3,b4,b5,rfl,rfl,rfl⟩
 refine Q31 [.own 41 2 Q1Y (.slice b3 b5 b4) aL] (fun _ h=>h.letgo Q8e 0 Z) (wP Z (wP Z (wP Z (wP Z (wP Z (Q4 (Q3 (Q2 [2,1] (S':=[_,_]) Z (Q5 (Q5 (Q1 (wP Z (wP Z ?_)))))))))))))
 refine Qt (d:=14) (v':=.bool (aO != 0)) (S':=V3 ..) Z Z (natne (a:=aO) (b:=0)) (wP Z ?_)
 obtain ⟨b6,hm⟩:=Qe hm
 refine Qt (d:=15) (v':=.bool false) (S':=V4 ..) Z Z (Qw b6) (wP Z (QP 0 Z (fun bP _=>(wN Z Q9C (Qt (d:=17) (v':=.int .i64 ((aL.length:Nat):Int)) (S':=V6 ..) Z Z (Q7Y bP) (wP Z (Qt (d:=18) (v':=.bool (aL.length != 2)) (S':=V7 ..) Z Z (natne (a:=aL.length) (b:=2)) (wP Z (wP Z ?_)))))))))
 obtain ⟨b7,hm⟩:=Qe hm
 refine Qt (d:=20) (v':=.bool false) (S':=V9 ..) Z Z (Qw b7) (wP Z ?_)
 obtain ⟨b8,aY,hm⟩:=Q6 hm
 refine Q89 0 1 Z Z Z Zq Z Z Z Z Z (Q3c aY) Q9C Q9d (fun c7 bQ=>?_)
 subst bQ
 refine wF Z Qat (Q2t Q26 0 1 1 Z Z Z Zq Z Z Z aY Q9E tA_39 (v:=fun b9=>.slice b9.1 b8.ids.length b9.2) (fun _=>Z) (fun _=>Z) (fun b9 _=>(wN Z Q6l (wP Z (Qt (d:=26) (v':=.bool (b8.ids.length != 2)) (S':=V15 ..) Z Z (natne (a:=b8.ids.length) (b:=2)) (wP Z (wP Z ?_)))))))
 obtain ⟨bA,hm⟩:=Qe hm
 refine Qt (d:=28) (v':=.bool false) (S':=V17 ..) Z Z (Qw bA) (wP Z ?_)
 obtain ⟨bZ,aZ,hm⟩:=Q6 hm
 refine Q8a 0 1 Z Z Z Zq Z Z Z Z Z (Q3c aZ) Q9C Q9d (wF Z Qat (Q2t Q26 0 1 1 Z Z Z Zq Z Z Z aZ Q9E tA_39 (v:=fun bB=>.slice bB.1 bZ.ids.length bB.2) (fun _=>Z) (fun _=>Z) (fun bB _=>?_)))
 obtain ⟨c8,bR,hm⟩:=Q6 hm
 refine Q1a 0 1 Z Z Z Zq Z Z Z Z Z bR Q6l Q1l (fun c9 cA c6 c0=>(Q1G Qan 1 Z (fun cB bS _=>?_)))
 subst bS
 refine Q1F 0 0 Z Z Z Zq Z Z Z (cs:=[_]) Z Q1l Q1H Z Z (wP Z (wP Z ?_))
 obtain ⟨bC,hm⟩:=Qe hm
 refine Qt (d:=36) (v':=.bool false) (S':=V25 ..) Z Z (Qw bC) (Q4 (Q3 (Q2 [36,1] (S':=[_,_]) Z (Q1i Z (Q2 [1] (S':=[_]) Z (Qr (Q3 (Q5 ?_))))))))
 obtain ⟨⟨aE,aF⟩,b0,hm⟩:=Q6 hm
 try dsimp only at hm
 obtain ⟨aG,aK,hm⟩:=Q6 hm
 obtain ⟨_,aP,hm⟩:=Q6 hm
 try dsimp only at hm
 obtain ⟨_,aN,hm⟩:=Q6 hm
 try dsimp only at hm
 obtain ⟨⟨aM,bD⟩,bT,hm⟩:=Q6 hm
 try dsimp only at hm
 refine QL (σ:=OA × Nat × Nat) (fun _=>True) (fun (a7,a8,a9)=>[(4,.bool bD),(3,.slice a7 a9 a8)]) (fun (a7,a8,a9)=>[]) (fun (a7,a8,a9)=>[.own 57 3 R_V (.slice a7 a9 a8) aM]) ?_ ?_
 ·
  refine QV [1,2,8,9,10] Z Z (fun hok=>(xP hok 1 Z (wx_indexK hok 2 0 1 Z Z Z Zq Z Z Z Z Z Z (Q3c aK) Q9C Q9d ?_)))
  refine Q4p hok 0 3 Z Z Z Z Z Z ?_ ?_
  rotate_left
  focus
   refine Q2t Q26 0 1 0 Z Z Z Zq Z Z Z aK Q9d tA_41 (v:=fun a6=>.agg #[.int .i64 (aG.rule),.slice a6.1 aG.ids.length a6.2]) (fun _=>Z) (fun _=>Z) (fun a6 _=>(Q4 (QO [1,2,3,4,5,6,7,8,9,10] [] Z Z (xS hok 0 Z (wC [] [0] Z fn_24 Z (Q5s N _ _ b0) (asK [] Z) Z (H':=[_]) Z ?_)))))
   rintro _ _ _ ⟨aA,aB,bE,aC,aD,bF,rfl,rfl,rfl⟩
   refine Q4 (QO [0,1,2,3,4,5,6,7,8,9,10] [] Z Z (xS hok 4 Z (wC [] [0,1,2] Z fn_21 Z (Q20 N 1 1 1 aP) (asK [] Z) Z (H':=V3 ..) Z ?_)))
   rintro _ _ _ ⟨s,rfl,rfl,rfl⟩
   refine Q4 (QO [0,1,2,3,4,5,6,7,8,9,10] [] Z Z (xS hok 5 Z (wC [] [0,1,2,3] Z fn_21 Z (Q20 N 2 1 2 aN) (asK [] Z) Z (H':=V4 ..) Z ?_)))
   rintro _ _ _ ⟨z,rfl,rfl,rfl⟩
   refine Q4 (QO [0,1,2,3,4,5,6,7,8,9,10] [] Z Z (xS hok 6 Z (QA Z Z Z Zq Z Q7s Q5g tZ_71 Z (zs:=[.int .i64 0,.int .i64 0,V1,.int .i64 0,.int .i64 0,V1]) (by kernel_rfl) Z (out:=V6 ..) Z (fun a5=>(Q4 (QO [0,1,2,3,4,5,6,7,8,9,10] [] Z Z (xS hok 7 Z (Q2j (sz:=3) (m:=2) R_V ([(⟨1,1,(⟨#[]⟩ : ByteArray)⟩ : V),(⟨1,1,(⟨#[]⟩ : ByteArray)⟩ : V)]) 2 Z (fun F w hφ=>⟨[.int .u8 1,.int .i64 1,.string ((⟨#[]⟩ : ByteArray))],[.int .u8 1,.int .i64 1,.string ((⟨#[]⟩ : ByteArray))],Z,Z,⟨(),Z,Qv⟩,⟨[.int .u8 1,.int .i64 1,.string ((⟨#[]⟩ : ByteArray))],[],Z,Z,⟨(),Z,Qv⟩,Z⟩⟩) Z (by decide) (H':=V6 ..) Z (Q2j (sz:=3) (m:=2) R_V ([(⟨1,1,(⟨#[]⟩ : ByteArray)⟩ : V),(⟨1,2,(⟨#[]⟩ : ByteArray)⟩ : V)]) 1 Z (fun F w hφ=>⟨[.int .u8 1,.int .i64 1,.string ((⟨#[]⟩ : ByteArray))],[.int .u8 1,.int .i64 2,.string ((⟨#[]⟩ : ByteArray))],Z,Z,⟨(),Z,Qv⟩,⟨[.int .u8 1,.int .i64 2,.string ((⟨#[]⟩ : ByteArray))],[],Z,Z,⟨(),Z,Qv⟩,Z⟩⟩) Z (by decide) (H':=V6 ..) Z (Q2j (sz:=3) (m:=2) Q1C.pair ([((⟨1,0,[(⟨1,1,(⟨#[]⟩ : ByteArray)⟩ : V),(⟨1,1,(⟨#[]⟩ : ByteArray)⟩ : V)]⟩ : QE),(some (⟨s,0,none⟩ : Addr),2)),((⟨2,0,[(⟨1,1,(⟨#[]⟩ : ByteArray)⟩ : V),(⟨1,2,(⟨#[]⟩ : ByteArray)⟩ : V)]⟩ : QE),(some (⟨z,0,none⟩ : Addr),2))]) 0 Z (fun F w hφ=>⟨[.int .i64 1,.int .i64 0,.slice (some ⟨s,0,none⟩) 2 2],[.int .i64 2,.int .i64 0,.slice (some ⟨z,0,none⟩) 2 2],Z,Z,Z,⟨[.int .i64 2,.int .i64 0,.slice (some ⟨z,0,none⟩) 2 2],[],Z,Z,Z,Z⟩⟩) Z (by decide) (H':=V6 ..) Z (Q31 [Q4Z Q1C [] none,_,_,_,_,_,_] (fun _ h=>h.bagNil Q1C) (Q5p [3,0,1,2,4,5,6] Z (H':=V7 ..) Z (Q31 [Q4Z Q1C ([((⟨1,0,[(⟨1,1,(⟨#[]⟩ : ByteArray)⟩ : V),(⟨1,1,(⟨#[]⟩ : ByteArray)⟩ : V)]⟩ : QE),(some (⟨s,0,none⟩ : Addr),2))]) none,_,_,_,_,_] (fun _ h=>Q13.bagPush (T:=Q1C) (x:=(⟨1,0,[(⟨1,1,(⟨#[]⟩ : ByteArray)⟩ : V),(⟨1,1,(⟨#[]⟩ : ByteArray)⟩ : V)]⟩ : QE)) (r:=(some (⟨s,0,none⟩ : Addr),2)) (zs:=[]) (H:=V6 ..) h 0 Z) (Q5p [2,0,1,3,4,5] Z (H':=V6 ..) Z ?_))))))))))))))
   refine Q31 [Q4Z Q1C (([((⟨1,0,[(⟨1,1,(⟨#[]⟩ : ByteArray)⟩ : V),(⟨1,1,(⟨#[]⟩ : ByteArray)⟩ : V)]⟩ : QE),(some (⟨s,0,none⟩ : Addr),2))]) ++ [((⟨2,0,[(⟨1,1,(⟨#[]⟩ : ByteArray)⟩ : V),(⟨1,2,(⟨#[]⟩ : ByteArray)⟩ : V)]⟩ : QE),(some (⟨z,0,none⟩ : Addr),2))]) none,_,_,_,_] (fun _ h=>Q13.bagPush (T:=Q1C) (x:=(⟨2,0,[(⟨1,1,(⟨#[]⟩ : ByteArray)⟩ : V),(⟨1,2,(⟨#[]⟩ : ByteArray)⟩ : V)]⟩ : QE)) (r:=(some (⟨z,0,none⟩ : Addr),2)) (zs:=[((⟨1,0,[(⟨1,1,(⟨#[]⟩ : ByteArray)⟩ : V),(⟨1,1,(⟨#[]⟩ : ByteArray)⟩ : V)]⟩ : QE),(some (⟨s,0,none⟩ : Addr),2))]) (H:=V5 ..) h 0 Z) (QaQ 0 (φ':=Q4Z Q1C ([((⟨1,0,[(⟨1,1,(⟨#[]⟩ : ByteArray)⟩ : V),(⟨1,1,(⟨#[]⟩ : ByteArray)⟩ : V)]⟩ : QE),(some (⟨s,0,none⟩ : Addr),2)),((⟨2,0,[(⟨1,1,(⟨#[]⟩ : ByteArray)⟩ : V),(⟨1,2,(⟨#[]⟩ : ByteArray)⟩ : V)]⟩ : QE),(some (⟨z,0,none⟩ : Addr),2))]) none) Z Z (H':=V5 ..) Z (Q31 [Q2f Q1C 71 3 (.slice (some ⟨a5,0,none⟩) 2 2) ([(⟨1,0,[(⟨1,1,(⟨#[]⟩ : ByteArray)⟩ : V),(⟨1,1,(⟨#[]⟩ : ByteArray)⟩ : V)]⟩ : QE),(⟨2,0,[(⟨1,1,(⟨#[]⟩ : ByteArray)⟩ : V),(⟨1,2,(⟨#[]⟩ : ByteArray)⟩ : V)]⟩ : QE)]),_,_,_] (fun _ h=>h.treeIn 1 0 Z Z Z Z) (QP 1 Z (fun a0 _=>?_))))
   subst a0
   refine Q1N 1 Z (H':=V3 ..) Z (Q2h (.sli 2 Qc aA aB aE) (fun F w hφ=>Q1x (hφ _ (Q12 (k:=0) Z))) (QP 1 Z (fun a1 _=>?_)))
   subst a1
   refine Q1N 1 Z (H':=[_,_]) Z (Q2h (.sli 5 Qb aC aD aF) (fun F w hφ=>Q1x (hφ _ (Q12 (k:=0) Z))) (Q31 [.own 71 3 Q19 (.slice (some ⟨a5,0,none⟩) 2 2) ([(⟨1,0,[(⟨1,1,(⟨#[]⟩ : ByteArray)⟩ : V),(⟨1,1,(⟨#[]⟩ : ByteArray)⟩ : V)]⟩ : QE),(⟨2,0,[(⟨1,1,(⟨#[]⟩ : ByteArray)⟩ : V),(⟨1,2,(⟨#[]⟩ : ByteArray)⟩ : V)]⟩ : QE)]),_] (fun _ h=>h.letgo Q7y 0 Z) (QP 0 Z (fun aI _=>(wl_at 0 (v':=.slice (some ⟨a5,0,none⟩) ([(⟨1,0,[(⟨1,1,(⟨#[]⟩ : ByteArray)⟩ : V),(⟨1,1,(⟨#[]⟩ : ByteArray)⟩ : V)]⟩ : QE),(⟨2,0,[(⟨1,1,(⟨#[]⟩ : ByteArray)⟩ : V),(⟨1,2,(⟨#[]⟩ : ByteArray)⟩ : V)]⟩ : QE)].length) 2) Z (by first | rfl | (rw [aI]; done) | simp) ?_)))))
  rotate_right
  focus
   refine wC [] [0] Z fn_24 Z (Q5s N _ _ b0) (asK [] Z) Z (H':=[_]) Z ?_
   rintro _ _ _ ⟨aA,aB,bE,aC,aD,bF,rfl,rfl,rfl⟩
   refine Q4 (QO [0,1,2,3,4,5,6,7,8,9] [] Z Z ?_)
   refine Q4p hok 3 4 Z Z Z Z Z Z ?_ ?_
   rotate_left
   focus
    refine wC [] [0,1,2] Z fn_21 Z (Q20 N 1 1 1 aP) (asK [] Z) Z (H':=V3 ..) Z ?_
    rintro _ _ _ ⟨s,rfl,rfl,rfl⟩
    refine Q4 (QO [0,1,2,3,4,5,6,7,8,9] [] Z Z ?_)
    refine Q4p hok 3 5 Z Z Z Z Z Z ?_ ?_
    rotate_left
    focus
     refine wC [] [0,1,2,3] Z fn_21 Z (Q20 N 2 1 2 aN) (asK [] Z) Z (H':=V4 ..) Z ?_
     rintro _ _ _ ⟨z,rfl,rfl,rfl⟩
     refine Q4 (QO [0,1,2,3,4,5,6,7,8,9] [] Z Z ?_)
     refine Q4p hok 3 6 Z Z Z Z Z Z ?_ ?_
     rotate_left
     focus
      refine QA Z Z Z Zq Z Q7s Q5g tZ_71 Z (zs:=[.int .i64 0,.int .i64 0,V1,.int .i64 0,.int .i64 0,V1]) (by kernel_rfl) Z (out:=V6 ..) Z (fun a5=>(Q4 (QO [0,1,2,3,4,5,6,7,8,9] [] Z Z (xS hok 3 Z (Q2t Q26 5 1 0 Z Z Z Zq Z Z Z aK Q9d tA_41 (v:=fun a6=>.agg #[.int .i64 (aG.rule),.slice a6.1 aG.ids.length a6.2]) (fun _=>Z) (fun _=>Z) (fun a6 _=>(Q4 (QO [1,2,3,4,5,6,7,8,9,10] [] Z Z (xS hok 7 Z (Q2j (sz:=3) (m:=2) R_V ([(⟨1,1,(⟨#[]⟩ : ByteArray)⟩ : V),(⟨1,1,(⟨#[]⟩ : ByteArray)⟩ : V)]) 2 Z (fun F w hφ=>⟨[.int .u8 1,.int .i64 1,.string ((⟨#[]⟩ : ByteArray))],[.int .u8 1,.int .i64 1,.string ((⟨#[]⟩ : ByteArray))],Z,Z,⟨(),Z,Qv⟩,⟨[.int .u8 1,.int .i64 1,.string ((⟨#[]⟩ : ByteArray))],[],Z,Z,⟨(),Z,Qv⟩,Z⟩⟩) Z (by decide) (H':=V6 ..) Z (Q2j (sz:=3) (m:=2) R_V ([(⟨1,1,(⟨#[]⟩ : ByteArray)⟩ : V),(⟨1,2,(⟨#[]⟩ : ByteArray)⟩ : V)]) 1 Z (fun F w hφ=>⟨[.int .u8 1,.int .i64 1,.string ((⟨#[]⟩ : ByteArray))],[.int .u8 1,.int .i64 2,.string ((⟨#[]⟩ : ByteArray))],Z,Z,⟨(),Z,Qv⟩,⟨[.int .u8 1,.int .i64 2,.string ((⟨#[]⟩ : ByteArray))],[],Z,Z,⟨(),Z,Qv⟩,Z⟩⟩) Z (by decide) (H':=V6 ..) Z (Q2j (sz:=3) (m:=2) Q1C.pair ([((⟨1,0,[(⟨1,1,(⟨#[]⟩ : ByteArray)⟩ : V),(⟨1,1,(⟨#[]⟩ : ByteArray)⟩ : V)]⟩ : QE),(some (⟨s,0,none⟩ : Addr),2)),((⟨2,0,[(⟨1,1,(⟨#[]⟩ : ByteArray)⟩ : V),(⟨1,2,(⟨#[]⟩ : ByteArray)⟩ : V)]⟩ : QE),(some (⟨z,0,none⟩ : Addr),2))]) 0 Z (fun F w hφ=>⟨[.int .i64 1,.int .i64 0,.slice (some ⟨s,0,none⟩) 2 2],[.int .i64 2,.int .i64 0,.slice (some ⟨z,0,none⟩) 2 2],Z,Z,Z,⟨[.int .i64 2,.int .i64 0,.slice (some ⟨z,0,none⟩) 2 2],[],Z,Z,Z,Z⟩⟩) Z (by decide) (H':=V6 ..) Z (Q31 [Q4Z Q1C [] none,_,_,_,_,_,_] (fun _ h=>h.bagNil Q1C) (Q5p [3,0,1,2,4,5,6] Z (H':=V7 ..) Z (Q31 [Q4Z Q1C ([((⟨1,0,[(⟨1,1,(⟨#[]⟩ : ByteArray)⟩ : V),(⟨1,1,(⟨#[]⟩ : ByteArray)⟩ : V)]⟩ : QE),(some (⟨s,0,none⟩ : Addr),2))]) none,_,_,_,_,_] (fun _ h=>Q13.bagPush (T:=Q1C) (x:=(⟨1,0,[(⟨1,1,(⟨#[]⟩ : ByteArray)⟩ : V),(⟨1,1,(⟨#[]⟩ : ByteArray)⟩ : V)]⟩ : QE)) (r:=(some (⟨s,0,none⟩ : Addr),2)) (zs:=[]) (H:=V6 ..) h 0 Z) ?_)))))))))))))))
      refine Q5p [2,0,1,3,4,5] Z (H':=V6 ..) Z (Q31 [Q4Z Q1C (([((⟨1,0,[(⟨1,1,(⟨#[]⟩ : ByteArray)⟩ : V),(⟨1,1,(⟨#[]⟩ : ByteArray)⟩ : V)]⟩ : QE),(some (⟨s,0,none⟩ : Addr),2))]) ++ [((⟨2,0,[(⟨1,1,(⟨#[]⟩ : ByteArray)⟩ : V),(⟨1,2,(⟨#[]⟩ : ByteArray)⟩ : V)]⟩ : QE),(some (⟨z,0,none⟩ : Addr),2))]) none,_,_,_,_] (fun _ h=>Q13.bagPush (T:=Q1C) (x:=(⟨2,0,[(⟨1,1,(⟨#[]⟩ : ByteArray)⟩ : V),(⟨1,2,(⟨#[]⟩ : ByteArray)⟩ : V)]⟩ : QE)) (r:=(some (⟨z,0,none⟩ : Addr),2)) (zs:=[((⟨1,0,[(⟨1,1,(⟨#[]⟩ : ByteArray)⟩ : V),(⟨1,1,(⟨#[]⟩ : ByteArray)⟩ : V)]⟩ : QE),(some (⟨s,0,none⟩ : Addr),2))]) (H:=V5 ..) h 0 Z) (QaQ 0 (φ':=Q4Z Q1C ([((⟨1,0,[(⟨1,1,(⟨#[]⟩ : ByteArray)⟩ : V),(⟨1,1,(⟨#[]⟩ : ByteArray)⟩ : V)]⟩ : QE),(some (⟨s,0,none⟩ : Addr),2)),((⟨2,0,[(⟨1,1,(⟨#[]⟩ : ByteArray)⟩ : V),(⟨1,2,(⟨#[]⟩ : ByteArray)⟩ : V)]⟩ : QE),(some (⟨z,0,none⟩ : Addr),2))]) none) Z Z (H':=V5 ..) Z (Q31 [Q2f Q1C 71 3 (.slice (some ⟨a5,0,none⟩) 2 2) ([(⟨1,0,[(⟨1,1,(⟨#[]⟩ : ByteArray)⟩ : V),(⟨1,1,(⟨#[]⟩ : ByteArray)⟩ : V)]⟩ : QE),(⟨2,0,[(⟨1,1,(⟨#[]⟩ : ByteArray)⟩ : V),(⟨1,2,(⟨#[]⟩ : ByteArray)⟩ : V)]⟩ : QE)]),_,_,_] (fun _ h=>h.treeIn 1 0 Z Z Z Z) (QP 1 Z (fun a0 _=>?_)))))
      subst a0
      refine Q1N 1 Z (H':=V3 ..) Z (Q2h (.sli 2 Qc aA aB aE) (fun F w hφ=>Q1x (hφ _ (Q12 (k:=0) Z))) (QP 1 Z (fun a1 _=>?_)))
      subst a1
      refine Q1N 1 Z (H':=[_,_]) Z (Q2h (.sli 5 Qb aC aD aF) (fun F w hφ=>Q1x (hφ _ (Q12 (k:=0) Z))) (Q31 [.own 71 3 Q19 (.slice (some ⟨a5,0,none⟩) 2 2) ([(⟨1,0,[(⟨1,1,(⟨#[]⟩ : ByteArray)⟩ : V),(⟨1,1,(⟨#[]⟩ : ByteArray)⟩ : V)]⟩ : QE),(⟨2,0,[(⟨1,1,(⟨#[]⟩ : ByteArray)⟩ : V),(⟨1,2,(⟨#[]⟩ : ByteArray)⟩ : V)]⟩ : QE)]),_] (fun _ h=>h.letgo Q7y 0 Z) (QP 0 Z (fun aI _=>(wl_at 1 (v':=.slice (some ⟨a5,0,none⟩) ([(⟨1,0,[(⟨1,1,(⟨#[]⟩ : ByteArray)⟩ : V),(⟨1,1,(⟨#[]⟩ : ByteArray)⟩ : V)]⟩ : QE),(⟨2,0,[(⟨1,1,(⟨#[]⟩ : ByteArray)⟩ : V),(⟨1,2,(⟨#[]⟩ : ByteArray)⟩ : V)]⟩ : QE)].length) 2) Z (by first | rfl | (rw [aI]; done) | simp) ?_)))))
     rotate_right
     focus
      refine Q2t Q26 4 1 0 Z Z Z Zq Z Z Z aK Q9d tA_41 (v:=fun a6=>.agg #[.int .i64 (aG.rule),.slice a6.1 aG.ids.length a6.2]) (fun _=>Z) (fun _=>Z) (fun a6 _=>(Q4 (QO [1,2,3,4,5,6,7,8,9,10] [] Z Z (xS hok 6 Z (QA Z Z Z Zq Z Q7s Q5g tZ_71 Z (zs:=[.int .i64 0,.int .i64 0,V1,.int .i64 0,.int .i64 0,V1]) (by kernel_rfl) Z (out:=V6 ..) Z (fun a5=>(Q4 (QO [0,1,2,3,4,5,6,7,8,9,10] [] Z Z (xS hok 7 Z (Q2j (sz:=3) (m:=2) R_V ([(⟨1,1,(⟨#[]⟩ : ByteArray)⟩ : V),(⟨1,1,(⟨#[]⟩ : ByteArray)⟩ : V)]) 2 Z (fun F w hφ=>⟨[.int .u8 1,.int .i64 1,.string ((⟨#[]⟩ : ByteArray))],[.int .u8 1,.int .i64 1,.string ((⟨#[]⟩ : ByteArray))],Z,Z,⟨(),Z,Qv⟩,⟨[.int .u8 1,.int .i64 1,.string ((⟨#[]⟩ : ByteArray))],[],Z,Z,⟨(),Z,Qv⟩,Z⟩⟩) Z (by decide) (H':=V6 ..) Z (Q2j (sz:=3) (m:=2) R_V ([(⟨1,1,(⟨#[]⟩ : ByteArray)⟩ : V),(⟨1,2,(⟨#[]⟩ : ByteArray)⟩ : V)]) 1 Z (fun F w hφ=>⟨[.int .u8 1,.int .i64 1,.string ((⟨#[]⟩ : ByteArray))],[.int .u8 1,.int .i64 2,.string ((⟨#[]⟩ : ByteArray))],Z,Z,⟨(),Z,Qv⟩,⟨[.int .u8 1,.int .i64 2,.string ((⟨#[]⟩ : ByteArray))],[],Z,Z,⟨(),Z,Qv⟩,Z⟩⟩) Z (by decide) (H':=V6 ..) Z (Q2j (sz:=3) (m:=2) Q1C.pair ([((⟨1,0,[(⟨1,1,(⟨#[]⟩ : ByteArray)⟩ : V),(⟨1,1,(⟨#[]⟩ : ByteArray)⟩ : V)]⟩ : QE),(some (⟨s,0,none⟩ : Addr),2)),((⟨2,0,[(⟨1,1,(⟨#[]⟩ : ByteArray)⟩ : V),(⟨1,2,(⟨#[]⟩ : ByteArray)⟩ : V)]⟩ : QE),(some (⟨z,0,none⟩ : Addr),2))]) 0 Z (fun F w hφ=>⟨[.int .i64 1,.int .i64 0,.slice (some ⟨s,0,none⟩) 2 2],[.int .i64 2,.int .i64 0,.slice (some ⟨z,0,none⟩) 2 2],Z,Z,Z,⟨[.int .i64 2,.int .i64 0,.slice (some ⟨z,0,none⟩) 2 2],[],Z,Z,Z,Z⟩⟩) Z (by decide) (H':=V6 ..) Z (Q31 [Q4Z Q1C [] none,_,_,_,_,_,_] (fun _ h=>h.bagNil Q1C) (Q5p [3,0,1,2,4,5,6] Z (H':=V7 ..) Z (Q31 [Q4Z Q1C ([((⟨1,0,[(⟨1,1,(⟨#[]⟩ : ByteArray)⟩ : V),(⟨1,1,(⟨#[]⟩ : ByteArray)⟩ : V)]⟩ : QE),(some (⟨s,0,none⟩ : Addr),2))]) none,_,_,_,_,_] (fun _ h=>Q13.bagPush (T:=Q1C) (x:=(⟨1,0,[(⟨1,1,(⟨#[]⟩ : ByteArray)⟩ : V),(⟨1,1,(⟨#[]⟩ : ByteArray)⟩ : V)]⟩ : QE)) (r:=(some (⟨s,0,none⟩ : Addr),2)) (zs:=[]) (H:=V6 ..) h 0 Z) ?_)))))))))))))))
      refine Q5p [2,0,1,3,4,5] Z (H':=V6 ..) Z (Q31 [Q4Z Q1C (([((⟨1,0,[(⟨1,1,(⟨#[]⟩ : ByteArray)⟩ : V),(⟨1,1,(⟨#[]⟩ : ByteArray)⟩ : V)]⟩ : QE),(some (⟨s,0,none⟩ : Addr),2))]) ++ [((⟨2,0,[(⟨1,1,(⟨#[]⟩ : ByteArray)⟩ : V),(⟨1,2,(⟨#[]⟩ : ByteArray)⟩ : V)]⟩ : QE),(some (⟨z,0,none⟩ : Addr),2))]) none,_,_,_,_] (fun _ h=>Q13.bagPush (T:=Q1C) (x:=(⟨2,0,[(⟨1,1,(⟨#[]⟩ : ByteArray)⟩ : V),(⟨1,2,(⟨#[]⟩ : ByteArray)⟩ : V)]⟩ : QE)) (r:=(some (⟨z,0,none⟩ : Addr),2)) (zs:=[((⟨1,0,[(⟨1,1,(⟨#[]⟩ : ByteArray)⟩ : V),(⟨1,1,(⟨#[]⟩ : ByteArray)⟩ : V)]⟩ : QE),(some (⟨s,0,none⟩ : Addr),2))]) (H:=V5 ..) h 0 Z) (QaQ 0 (φ':=Q4Z Q1C ([((⟨1,0,[(⟨1,1,(⟨#[]⟩ : ByteArray)⟩ : V),(⟨1,1,(⟨#[]⟩ : ByteArray)⟩ : V)]⟩ : QE),(some (⟨s,0,none⟩ : Addr),2)),((⟨2,0,[(⟨1,1,(⟨#[]⟩ : ByteArray)⟩ : V),(⟨1,2,(⟨#[]⟩ : ByteArray)⟩ : V)]⟩ : QE),(some (⟨z,0,none⟩ : Addr),2))]) none) Z Z (H':=V5 ..) Z (Q31 [Q2f Q1C 71 3 (.slice (some ⟨a5,0,none⟩) 2 2) ([(⟨1,0,[(⟨1,1,(⟨#[]⟩ : ByteArray)⟩ : V),(⟨1,1,(⟨#[]⟩ : ByteArray)⟩ : V)]⟩ : QE),(⟨2,0,[(⟨1,1,(⟨#[]⟩ : ByteArray)⟩ : V),(⟨1,2,(⟨#[]⟩ : ByteArray)⟩ : V)]⟩ : QE)]),_,_,_] (fun _ h=>h.treeIn 1 0 Z Z Z Z) (QP 1 Z (fun a0 _=>?_)))))
      subst a0
      refine Q1N 1 Z (H':=V3 ..) Z (Q2h (.sli 2 Qc aA aB aE) (fun F w hφ=>Q1x (hφ _ (Q12 (k:=0) Z))) (QP 1 Z (fun a1 _=>?_)))
      subst a1
      refine Q1N 1 Z (H':=[_,_]) Z (Q2h (.sli 5 Qb aC aD aF) (fun F w hφ=>Q1x (hφ _ (Q12 (k:=0) Z))) (Q31 [.own 71 3 Q19 (.slice (some ⟨a5,0,none⟩) 2 2) ([(⟨1,0,[(⟨1,1,(⟨#[]⟩ : ByteArray)⟩ : V),(⟨1,1,(⟨#[]⟩ : ByteArray)⟩ : V)]⟩ : QE),(⟨2,0,[(⟨1,1,(⟨#[]⟩ : ByteArray)⟩ : V),(⟨1,2,(⟨#[]⟩ : ByteArray)⟩ : V)]⟩ : QE)]),_] (fun _ h=>h.letgo Q7y 0 Z) (QP 0 Z (fun aI _=>(wl_at 0 (v':=.slice (some ⟨a5,0,none⟩) ([(⟨1,0,[(⟨1,1,(⟨#[]⟩ : ByteArray)⟩ : V),(⟨1,1,(⟨#[]⟩ : ByteArray)⟩ : V)]⟩ : QE),(⟨2,0,[(⟨1,1,(⟨#[]⟩ : ByteArray)⟩ : V),(⟨1,2,(⟨#[]⟩ : ByteArray)⟩ : V)]⟩ : QE)].length) 2) Z (by first | rfl | (rw [aI]; done) | simp) ?_)))))
    rotate_right
    focus
     refine Q2t Q26 3 1 0 Z Z Z Zq Z Z Z aK Q9d tA_41 (v:=fun a6=>.agg #[.int .i64 (aG.rule),.slice a6.1 aG.ids.length a6.2]) (fun _=>Z) (fun _=>Z) (fun a6 _=>(Q4 (QO [1,2,3,4,5,6,7,8,9,10] [] Z Z (xS hok 5 Z (wC [] [0,1,2,3] Z fn_21 Z (Q20 N 2 1 2 aN) (asK [] Z) Z (H':=V4 ..) Z ?_)))))
     rintro _ _ _ ⟨z,rfl,rfl,rfl⟩
     refine Q4 (QO [0,1,2,3,4,5,6,7,8,9,10] [] Z Z (xS hok 6 Z (QA Z Z Z Zq Z Q7s Q5g tZ_71 Z (zs:=[.int .i64 0,.int .i64 0,V1,.int .i64 0,.int .i64 0,V1]) (by kernel_rfl) Z (out:=V6 ..) Z (fun a5=>(Q4 (QO [0,1,2,3,4,5,6,7,8,9,10] [] Z Z (xS hok 7 Z (Q2j (sz:=3) (m:=2) R_V ([(⟨1,1,(⟨#[]⟩ : ByteArray)⟩ : V),(⟨1,1,(⟨#[]⟩ : ByteArray)⟩ : V)]) 2 Z (fun F w hφ=>⟨[.int .u8 1,.int .i64 1,.string ((⟨#[]⟩ : ByteArray))],[.int .u8 1,.int .i64 1,.string ((⟨#[]⟩ : ByteArray))],Z,Z,⟨(),Z,Qv⟩,⟨[.int .u8 1,.int .i64 1,.string ((⟨#[]⟩ : ByteArray))],[],Z,Z,⟨(),Z,Qv⟩,Z⟩⟩) Z (by decide) (H':=V6 ..) Z (Q2j (sz:=3) (m:=2) R_V ([(⟨1,1,(⟨#[]⟩ : ByteArray)⟩ : V),(⟨1,2,(⟨#[]⟩ : ByteArray)⟩ : V)]) 1 Z (fun F w hφ=>⟨[.int .u8 1,.int .i64 1,.string ((⟨#[]⟩ : ByteArray))],[.int .u8 1,.int .i64 2,.string ((⟨#[]⟩ : ByteArray))],Z,Z,⟨(),Z,Qv⟩,⟨[.int .u8 1,.int .i64 2,.string ((⟨#[]⟩ : ByteArray))],[],Z,Z,⟨(),Z,Qv⟩,Z⟩⟩) Z (by decide) (H':=V6 ..) Z (Q2j (sz:=3) (m:=2) Q1C.pair ([((⟨1,0,[(⟨1,1,(⟨#[]⟩ : ByteArray)⟩ : V),(⟨1,1,(⟨#[]⟩ : ByteArray)⟩ : V)]⟩ : QE),(some (⟨s,0,none⟩ : Addr),2)),((⟨2,0,[(⟨1,1,(⟨#[]⟩ : ByteArray)⟩ : V),(⟨1,2,(⟨#[]⟩ : ByteArray)⟩ : V)]⟩ : QE),(some (⟨z,0,none⟩ : Addr),2))]) 0 Z (fun F w hφ=>⟨[.int .i64 1,.int .i64 0,.slice (some ⟨s,0,none⟩) 2 2],[.int .i64 2,.int .i64 0,.slice (some ⟨z,0,none⟩) 2 2],Z,Z,Z,⟨[.int .i64 2,.int .i64 0,.slice (some ⟨z,0,none⟩) 2 2],[],Z,Z,Z,Z⟩⟩) Z (by decide) (H':=V6 ..) Z (Q31 [Q4Z Q1C [] none,_,_,_,_,_,_] (fun _ h=>h.bagNil Q1C) (Q5p [3,0,1,2,4,5,6] Z (H':=V7 ..) Z (Q31 [Q4Z Q1C ([((⟨1,0,[(⟨1,1,(⟨#[]⟩ : ByteArray)⟩ : V),(⟨1,1,(⟨#[]⟩ : ByteArray)⟩ : V)]⟩ : QE),(some (⟨s,0,none⟩ : Addr),2))]) none,_,_,_,_,_] (fun _ h=>Q13.bagPush (T:=Q1C) (x:=(⟨1,0,[(⟨1,1,(⟨#[]⟩ : ByteArray)⟩ : V),(⟨1,1,(⟨#[]⟩ : ByteArray)⟩ : V)]⟩ : QE)) (r:=(some (⟨s,0,none⟩ : Addr),2)) (zs:=[]) (H:=V6 ..) h 0 Z) (Q5p [2,0,1,3,4,5] Z (H':=V6 ..) Z ?_))))))))))))))
     refine Q31 [Q4Z Q1C (([((⟨1,0,[(⟨1,1,(⟨#[]⟩ : ByteArray)⟩ : V),(⟨1,1,(⟨#[]⟩ : ByteArray)⟩ : V)]⟩ : QE),(some (⟨s,0,none⟩ : Addr),2))]) ++ [((⟨2,0,[(⟨1,1,(⟨#[]⟩ : ByteArray)⟩ : V),(⟨1,2,(⟨#[]⟩ : ByteArray)⟩ : V)]⟩ : QE),(some (⟨z,0,none⟩ : Addr),2))]) none,_,_,_,_] (fun _ h=>Q13.bagPush (T:=Q1C) (x:=(⟨2,0,[(⟨1,1,(⟨#[]⟩ : ByteArray)⟩ : V),(⟨1,2,(⟨#[]⟩ : ByteArray)⟩ : V)]⟩ : QE)) (r:=(some (⟨z,0,none⟩ : Addr),2)) (zs:=[((⟨1,0,[(⟨1,1,(⟨#[]⟩ : ByteArray)⟩ : V),(⟨1,1,(⟨#[]⟩ : ByteArray)⟩ : V)]⟩ : QE),(some (⟨s,0,none⟩ : Addr),2))]) (H:=V5 ..) h 0 Z) (QaQ 0 (φ':=Q4Z Q1C ([((⟨1,0,[(⟨1,1,(⟨#[]⟩ : ByteArray)⟩ : V),(⟨1,1,(⟨#[]⟩ : ByteArray)⟩ : V)]⟩ : QE),(some (⟨s,0,none⟩ : Addr),2)),((⟨2,0,[(⟨1,1,(⟨#[]⟩ : ByteArray)⟩ : V),(⟨1,2,(⟨#[]⟩ : ByteArray)⟩ : V)]⟩ : QE),(some (⟨z,0,none⟩ : Addr),2))]) none) Z Z (H':=V5 ..) Z (Q31 [Q2f Q1C 71 3 (.slice (some ⟨a5,0,none⟩) 2 2) ([(⟨1,0,[(⟨1,1,(⟨#[]⟩ : ByteArray)⟩ : V),(⟨1,1,(⟨#[]⟩ : ByteArray)⟩ : V)]⟩ : QE),(⟨2,0,[(⟨1,1,(⟨#[]⟩ : ByteArray)⟩ : V),(⟨1,2,(⟨#[]⟩ : ByteArray)⟩ : V)]⟩ : QE)]),_,_,_] (fun _ h=>h.treeIn 1 0 Z Z Z Z) (QP 1 Z (fun a0 _=>?_))))
     subst a0
     refine Q1N 1 Z (H':=V3 ..) Z (Q2h (.sli 2 Qc aA aB aE) (fun F w hφ=>Q1x (hφ _ (Q12 (k:=0) Z))) (QP 1 Z (fun a1 _=>?_)))
     subst a1
     refine Q1N 1 Z (H':=[_,_]) Z (Q2h (.sli 5 Qb aC aD aF) (fun F w hφ=>Q1x (hφ _ (Q12 (k:=0) Z))) (Q31 [.own 71 3 Q19 (.slice (some ⟨a5,0,none⟩) 2 2) ([(⟨1,0,[(⟨1,1,(⟨#[]⟩ : ByteArray)⟩ : V),(⟨1,1,(⟨#[]⟩ : ByteArray)⟩ : V)]⟩ : QE),(⟨2,0,[(⟨1,1,(⟨#[]⟩ : ByteArray)⟩ : V),(⟨1,2,(⟨#[]⟩ : ByteArray)⟩ : V)]⟩ : QE)]),_] (fun _ h=>h.letgo Q7y 0 Z) (QP 0 Z (fun aI _=>(wl_at 0 (v':=.slice (some ⟨a5,0,none⟩) ([(⟨1,0,[(⟨1,1,(⟨#[]⟩ : ByteArray)⟩ : V),(⟨1,1,(⟨#[]⟩ : ByteArray)⟩ : V)]⟩ : QE),(⟨2,0,[(⟨1,1,(⟨#[]⟩ : ByteArray)⟩ : V),(⟨1,2,(⟨#[]⟩ : ByteArray)⟩ : V)]⟩ : QE)].length) 2) Z (by first | rfl | (rw [aI]; done) | simp) ?_)))))
   rotate_right
   focus
    refine Q2t Q26 2 1 0 Z Z Z Zq Z Z Z aK Q9d tA_41 (v:=fun a6=>.agg #[.int .i64 (aG.rule),.slice a6.1 aG.ids.length a6.2]) (fun _=>Z) (fun _=>Z) (fun a6 _=>(Q4 (QO [1,2,3,4,5,6,7,8,9,10] [] Z Z (xS hok 4 Z (wC [] [0,1,2] Z fn_21 Z (Q20 N 1 1 1 aP) (asK [] Z) Z (H':=V3 ..) Z ?_)))))
    rintro _ _ _ ⟨s,rfl,rfl,rfl⟩
    refine Q4 (QO [0,1,2,3,4,5,6,7,8,9,10] [] Z Z (xS hok 5 Z (wC [] [0,1,2,3] Z fn_21 Z (Q20 N 2 1 2 aN) (asK [] Z) Z (H':=V4 ..) Z ?_)))
    rintro _ _ _ ⟨z,rfl,rfl,rfl⟩
    refine Q4 (QO [0,1,2,3,4,5,6,7,8,9,10] [] Z Z (xS hok 6 Z (QA Z Z Z Zq Z Q7s Q5g tZ_71 Z (zs:=[.int .i64 0,.int .i64 0,V1,.int .i64 0,.int .i64 0,V1]) (by kernel_rfl) Z (out:=V6 ..) Z (fun a5=>(Q4 (QO [0,1,2,3,4,5,6,7,8,9,10] [] Z Z (xS hok 7 Z (Q2j (sz:=3) (m:=2) R_V ([(⟨1,1,(⟨#[]⟩ : ByteArray)⟩ : V),(⟨1,1,(⟨#[]⟩ : ByteArray)⟩ : V)]) 2 Z (fun F w hφ=>⟨[.int .u8 1,.int .i64 1,.string ((⟨#[]⟩ : ByteArray))],[.int .u8 1,.int .i64 1,.string ((⟨#[]⟩ : ByteArray))],Z,Z,⟨(),Z,Qv⟩,⟨[.int .u8 1,.int .i64 1,.string ((⟨#[]⟩ : ByteArray))],[],Z,Z,⟨(),Z,Qv⟩,Z⟩⟩) Z (by decide) (H':=V6 ..) Z (Q2j (sz:=3) (m:=2) R_V ([(⟨1,1,(⟨#[]⟩ : ByteArray)⟩ : V),(⟨1,2,(⟨#[]⟩ : ByteArray)⟩ : V)]) 1 Z (fun F w hφ=>⟨[.int .u8 1,.int .i64 1,.string ((⟨#[]⟩ : ByteArray))],[.int .u8 1,.int .i64 2,.string ((⟨#[]⟩ : ByteArray))],Z,Z,⟨(),Z,Qv⟩,⟨[.int .u8 1,.int .i64 2,.string ((⟨#[]⟩ : ByteArray))],[],Z,Z,⟨(),Z,Qv⟩,Z⟩⟩) Z (by decide) (H':=V6 ..) Z (Q2j (sz:=3) (m:=2) Q1C.pair ([((⟨1,0,[(⟨1,1,(⟨#[]⟩ : ByteArray)⟩ : V),(⟨1,1,(⟨#[]⟩ : ByteArray)⟩ : V)]⟩ : QE),(some (⟨s,0,none⟩ : Addr),2)),((⟨2,0,[(⟨1,1,(⟨#[]⟩ : ByteArray)⟩ : V),(⟨1,2,(⟨#[]⟩ : ByteArray)⟩ : V)]⟩ : QE),(some (⟨z,0,none⟩ : Addr),2))]) 0 Z (fun F w hφ=>⟨[.int .i64 1,.int .i64 0,.slice (some ⟨s,0,none⟩) 2 2],[.int .i64 2,.int .i64 0,.slice (some ⟨z,0,none⟩) 2 2],Z,Z,Z,⟨[.int .i64 2,.int .i64 0,.slice (some ⟨z,0,none⟩) 2 2],[],Z,Z,Z,Z⟩⟩) Z (by decide) (H':=V6 ..) Z (Q31 [Q4Z Q1C [] none,_,_,_,_,_,_] (fun _ h=>h.bagNil Q1C) (Q5p [3,0,1,2,4,5,6] Z (H':=V7 ..) Z (Q31 [Q4Z Q1C ([((⟨1,0,[(⟨1,1,(⟨#[]⟩ : ByteArray)⟩ : V),(⟨1,1,(⟨#[]⟩ : ByteArray)⟩ : V)]⟩ : QE),(some (⟨s,0,none⟩ : Addr),2))]) none,_,_,_,_,_] (fun _ h=>Q13.bagPush (T:=Q1C) (x:=(⟨1,0,[(⟨1,1,(⟨#[]⟩ : ByteArray)⟩ : V),(⟨1,1,(⟨#[]⟩ : ByteArray)⟩ : V)]⟩ : QE)) (r:=(some (⟨s,0,none⟩ : Addr),2)) (zs:=[]) (H:=V6 ..) h 0 Z) (Q5p [2,0,1,3,4,5] Z (H':=V6 ..) Z ?_))))))))))))))
    refine Q31 [Q4Z Q1C (([((⟨1,0,[(⟨1,1,(⟨#[]⟩ : ByteArray)⟩ : V),(⟨1,1,(⟨#[]⟩ : ByteArray)⟩ : V)]⟩ : QE),(some (⟨s,0,none⟩ : Addr),2))]) ++ [((⟨2,0,[(⟨1,1,(⟨#[]⟩ : ByteArray)⟩ : V),(⟨1,2,(⟨#[]⟩ : ByteArray)⟩ : V)]⟩ : QE),(some (⟨z,0,none⟩ : Addr),2))]) none,_,_,_,_] (fun _ h=>Q13.bagPush (T:=Q1C) (x:=(⟨2,0,[(⟨1,1,(⟨#[]⟩ : ByteArray)⟩ : V),(⟨1,2,(⟨#[]⟩ : ByteArray)⟩ : V)]⟩ : QE)) (r:=(some (⟨z,0,none⟩ : Addr),2)) (zs:=[((⟨1,0,[(⟨1,1,(⟨#[]⟩ : ByteArray)⟩ : V),(⟨1,1,(⟨#[]⟩ : ByteArray)⟩ : V)]⟩ : QE),(some (⟨s,0,none⟩ : Addr),2))]) (H:=V5 ..) h 0 Z) (QaQ 0 (φ':=Q4Z Q1C ([((⟨1,0,[(⟨1,1,(⟨#[]⟩ : ByteArray)⟩ : V),(⟨1,1,(⟨#[]⟩ : ByteArray)⟩ : V)]⟩ : QE),(some (⟨s,0,none⟩ : Addr),2)),((⟨2,0,[(⟨1,1,(⟨#[]⟩ : ByteArray)⟩ : V),(⟨1,2,(⟨#[]⟩ : ByteArray)⟩ : V)]⟩ : QE),(some (⟨z,0,none⟩ : Addr),2))]) none) Z Z (H':=V5 ..) Z (Q31 [Q2f Q1C 71 3 (.slice (some ⟨a5,0,none⟩) 2 2) ([(⟨1,0,[(⟨1,1,(⟨#[]⟩ : ByteArray)⟩ : V),(⟨1,1,(⟨#[]⟩ : ByteArray)⟩ : V)]⟩ : QE),(⟨2,0,[(⟨1,1,(⟨#[]⟩ : ByteArray)⟩ : V),(⟨1,2,(⟨#[]⟩ : ByteArray)⟩ : V)]⟩ : QE)]),_,_,_] (fun _ h=>h.treeIn 1 0 Z Z Z Z) (QP 1 Z (fun a0 _=>?_))))
    subst a0
    refine Q1N 1 Z (H':=V3 ..) Z (Q2h (.sli 2 Qc aA aB aE) (fun F w hφ=>Q1x (hφ _ (Q12 (k:=0) Z))) (QP 1 Z (fun a1 _=>?_)))
    subst a1
    refine Q1N 1 Z (H':=[_,_]) Z (Q2h (.sli 5 Qb aC aD aF) (fun F w hφ=>Q1x (hφ _ (Q12 (k:=0) Z))) (Q31 [.own 71 3 Q19 (.slice (some ⟨a5,0,none⟩) 2 2) ([(⟨1,0,[(⟨1,1,(⟨#[]⟩ : ByteArray)⟩ : V),(⟨1,1,(⟨#[]⟩ : ByteArray)⟩ : V)]⟩ : QE),(⟨2,0,[(⟨1,1,(⟨#[]⟩ : ByteArray)⟩ : V),(⟨1,2,(⟨#[]⟩ : ByteArray)⟩ : V)]⟩ : QE)]),_] (fun _ h=>h.letgo Q7y 0 Z) (QP 0 Z (fun aI _=>(wl_at 0 (v':=.slice (some ⟨a5,0,none⟩) ([(⟨1,0,[(⟨1,1,(⟨#[]⟩ : ByteArray)⟩ : V),(⟨1,1,(⟨#[]⟩ : ByteArray)⟩ : V)]⟩ : QE),(⟨2,0,[(⟨1,1,(⟨#[]⟩ : ByteArray)⟩ : V),(⟨1,2,(⟨#[]⟩ : ByteArray)⟩ : V)]⟩ : QE)].length) 2) Z (by first | rfl | (rw [aI]; done) | simp) ?_)))))
  all_goals
   refine QaQ 0 (φ':=.own 71 3 Q19 (.slice (some ⟨a5,0,none⟩) ([(⟨1,0,[(⟨1,1,(⟨#[]⟩ : ByteArray)⟩ : V),(⟨1,1,(⟨#[]⟩ : ByteArray)⟩ : V)]⟩ : QE),(⟨2,0,[(⟨1,1,(⟨#[]⟩ : ByteArray)⟩ : V),(⟨1,2,(⟨#[]⟩ : ByteArray)⟩ : V)]⟩ : QE)].length) 2) ([(⟨1,0,[(⟨1,1,(⟨#[]⟩ : ByteArray)⟩ : V),(⟨1,1,(⟨#[]⟩ : ByteArray)⟩ : V)]⟩ : QE),(⟨2,0,[(⟨1,1,(⟨#[]⟩ : ByteArray)⟩ : V),(⟨1,2,(⟨#[]⟩ : ByteArray)⟩ : V)]⟩ : QE)])) Z (by first | rfl | (rw [aI]; done) | simp) (H':=[_,_]) Z (Q1N 0 Z (H':=[_]) Z (Q2h (.sli 3 Q19 (some ⟨a5,0,none⟩) 2 ([(⟨1,0,[(⟨1,1,(⟨#[]⟩ : ByteArray)⟩ : V),(⟨1,1,(⟨#[]⟩ : ByteArray)⟩ : V)]⟩ : QE),(⟨2,0,[(⟨1,1,(⟨#[]⟩ : ByteArray)⟩ : V),(⟨1,2,(⟨#[]⟩ : ByteArray)⟩ : V)]⟩ : QE)])) (fun F w hφ=>Q1x (hφ _ (Q12 (k:=0) Z))) (wC [] [0] Z fn_18 Z (w_naive_Vars_s N aA aB aE aC aD aF aG.rule a6.1 a6.2 aG.ids (some ⟨a5,0,none⟩) 2 [(⟨1,0,[(⟨1,1,(⟨#[]⟩ : ByteArray)⟩ : V),(⟨1,1,(⟨#[]⟩ : ByteArray)⟩ : V)]⟩ : QE),(⟨2,0,[(⟨1,1,(⟨#[]⟩ : ByteArray)⟩ : V),(⟨1,2,(⟨#[]⟩ : ByteArray)⟩ : V)]⟩ : QE)] _ _ bT) (asK [4,2,6,0] Z) Z (H':=[_]) Z ?_)))
   rintro _ _ _ ⟨bG,bH,bI,rfl,rfl,rfl⟩
   refine Q4 (QO [6,7,8,9,10,11,12,13,14,15,16] [] Z Z (xP hok 8 Z (xP hok 9 Z (xP hok 10 Z (xS hok 11 Z (wP Z (Q4 (QO [0,1,2,3,4,5,6,7,8,9,10,11,12,13,14,15,16] [] Z Z (xS hok 12 Z (wP Z (Q4 (QO [0,1,2,3,4,5,6,7,8,9,10,11,12,13,14,15,16] [] Z Z (QR hok Z ?_)))))))))))))
   refine QC [0] Z (H':=[_]) Z ?_
   refine Qi (bG,bH,bI) trivial [4,3] Z (asK [] Z) Z
 rintro ⟨a7,a8,a9⟩ _
 try dsimp only
 refine Q5 (Q1 (wP Z (wP Z ?_)))
 obtain ⟨bJ,hm⟩:=Qe hm
 refine Qt (d:=49) (v':=.bool true) (S':=V3 ..) Z Z (Qw bJ) (wP Z (QP 0 Z (fun bU _=>(wN Z Q5e (Qt (d:=51) (v':=.int .i64 ((aM.length:Nat):Int)) (S':=V5 ..) Z Z (Q7Y bU) (wP Z (Qt (d:=52) (v':=.bool (aM.length == 2)) (S':=V6 ..) Z Z (Q4n (a:=aM.length) (b:=2)) (wP Z (wP Z ?_)))))))))
 obtain ⟨bK,hm⟩:=Qe hm
 refine Qt (d:=54) (v':=.bool true) (S':=V8 ..) Z Z (Qw bK) (wP Z ?_)
 obtain ⟨c1,b1,hm⟩:=Q6 hm
 refine Q89 0 0 Z Z Z Zq Z Z Z Z Z (Q3c b1) Q5e Q1z (fun cC bV=>?_)
 subst bV
 refine wF Z Q3p (Q2t Q63 0 0 1 Z Z Z Zq Z Z Z b1 tS_2 tA_2 (v:=fun _=>.int .i64 (c1.n)) (fun _=>Z) (fun _=>Z) (fun _ _=>(wP Z (wP Z (wP Z ?_)))))
 obtain ⟨bL,hm⟩:=Qe hm
 refine Qt (d:=61) (v':=.bool true) (S':=V15 ..) Z Z (Qw bL) (wP Z ?_)
 obtain ⟨c2,b2,hm⟩:=Q6 hm
 refine Q8a 0 1 Z Z Z Zq Z Z Z Z Z (Q3c b2) Q5e Q1z (wF Z Q3p (Q2t Q63 0 1 1 Z Z Z Zq Z Z Z b2 tS_2 tA_2 (v:=fun _=>.int .i64 (c2.n)) (fun _=>Z) (fun _=>Z) (fun _ _=>(wP Z (wP Z (wP Z (Q4 (Q3 (Q2 [0] (S':=[_]) Z (Qo ?_))))))))))
 have hE:=(Zi hm).symm
 replace hE:=hE.symm
 subst hE
 refine Qp (Hr:=[]) [] Tryz.results8 (Qf Z) ⟨Z,Z,Z⟩ (asK [] Z) Z Z (.inl Z)
theorem Qab (N:Nat) (rc:(List Qm) → Int → Option (Int)) (ih : ∀ (a6:OA) (a7:Nat) (l0:List Qm) (a1:Int) (o0:Int),rc l0 a1 = some o0 → Q14 Tryz.prog 25 [.slice a6 l0.length a7,.int .i64 a1] [.sli 7 Qz a6 a7 l0] [] (fun v Φr Hr=>v = .int .i64 o0 ∧ Φr = [] ∧ Hr = [])) (a6:OA) (a7:Nat) (l0:List Qm) (a1:Int) (o0:Int) (hm:Q2q N rc l0 a1 = some o0):Q14 Tryz.prog 25 [.slice a6 l0.length a7,.int .i64 a1] [.sli 7 Qz a6 a7 l0] [] (fun v Φr Hr=>v = .int .i64 o0 ∧ Φr = [] ∧ Hr = []):=by
 unfold Q2q at hm
 refine QB Tryz.func25 Z Tryz.ntmps25 Z (S:=[_,_]) Z (fun C=>(Q5 (Q1 (wP Z (Q4 (Q3 (Q2 [0,1] (S':=[_,_]) Z (Q5 (Q1 (wP Z (Q4 (Q3 (Q5 ?_)))))))))))))
 obtain ⟨aD,hm,hLj_1⟩:=Q6 hm
 refine QL (σ:=Int) (fun a5=>aD = a5) (fun a5=>[(1,.int .i64 a1),(5,.int .i64 a5)]) (fun a5=>[]) (fun a5=>[]) ?_ ?_
 refine Q5 (Q1 (wP Z (Q4 (Q3 (Qx (Q1j (σ:=Nat × Nat × Int) (fun (a8,z,s)=>Q1g (Q22 N l0 a1 rc) a8 (z,s) = some aD) (fun (a8,z,s)=>a8) (fun (a8,z,s)=>[(6,.int .i64 ((z:Nat):Int)),(5,.int .i64 s),(0,.slice a6 l0.length a7),(1,.int .i64 a1)]) (fun (a8,z,s)=>[.sli 7 Qz a6 a7 l0]) (fun (a8,z,s)=>[]) (N,0,0) hm [6,5,0,1] Z (asK [0] Z) Z (fun s_ hm=>?_)))))))
 obtain ⟨a8,z,s⟩:=s_
 try dsimp only at hm ⊢
 obtain ⟨aV,aW,aF,hq,hLu1⟩:=QU hm
 clear hm
 subst aF
 replace hm:=hq
 clear hq
 unfold Q22 at hm
 try dsimp only at hm
 refine Q5 (Q5 ?_)
 obtain ⟨aG,hm,hLj_2⟩:=Q6 hm
 refine QL (σ:=Bool) (fun a0=>aG = a0) (fun a0=>[(6,.int .i64 ((z:Nat):Int)),(5,.int .i64 s),(0,.slice a6 l0.length a7),(1,.int .i64 a1),(15,.bool a0)]) (fun a0=>[.sli 7 Qz a6 a7 l0]) (fun a0=>[]) ?_ ?_
 refine Q1 (wP Z (wP Z (wN Z Q7G (wP Z (Qt (d:=10) (v':=.bool (decide (z < l0.length))) (S':=V7 ..) Z Z (Q2n (a:=z) (b:=l0.length)) (wP Z ?_))))))
 refine QF (d:=11) (S':=V8 ..) Z Z (fun aB=>?_) (fun aB=>?_)
 replace hm:=QH hm aB
 refine wP Z (wP Z (wP Z (wP Z (Q4 ?_))))
 have hE:=(Zi hm).symm
 refine Qi (decide (s ≤ a1)) hE [6,5,0,1,15] Z (asK [0] Z) Z
 replace hm:=QG hm aB
 refine wO Z (wO Z (wO Z (wP Z (Q4 ?_))))
 have hE:=(Zi hm).symm
 refine Qi false hE [6,5,0,1,15] Z (asK [0] Z) Z
 rintro a0 hE
 try dsimp only
 have hm:=hLj_2
 try rw [hE] at hm
 refine Qs Z (fun aC=>?_) (fun aC=>?_)
 replace hm:=QH hm aC
 refine Q2 [6,5,0,1] (S':=V4 ..) Z (Qr (Q3 (Q5 (Qx (Q1 (wP Z (wP Z ?_)))))))
 obtain ⟨aH,hm⟩:=Qe hm
 refine Qt (d:=19) (v':=.int .i64 (s + 1)) (S':=V5 ..) Z Z (i64_in aH) (wP Z (wP Z ?_))
 obtain ⟨aS,aI,hm⟩:=Q6 hm
 refine Q1a 0 z Z Z Z Zq Z Z Z Z Z aI Q7G Q4V (fun aX aY aU aT=>(Q1G Q5w 1 Z (fun aJ aK _=>?_)))
 subst aK
 refine wF Z Qav (Q1F 1 6 Z Z Z Zq Z Z Z (cs:=[_]) Z Q8F Q98 Z Z (wP Z (wP Z (wP Z ?_))))
 obtain ⟨aL,hm⟩:=Qe hm
 refine Qt (d:=27) (v':=.int .i64 (a1 - s)) (S':=V13 ..) Z Z (i64_in aL) (wP Z ?_)
 obtain ⟨aM,hm⟩:=Qe hm
 refine Qt (d:=28) (v':=.int .i64 ((a1 - s) - 1)) (S':=V14 ..) Z Z (i64_in aM) ?_
 obtain ⟨aN,aO,hm⟩:=Q6 hm
 refine wC [] [] Z fn_25 Z (ih aJ.1 aJ.2 aS.kids ((a1 - s) - 1) _ aO) (asK [0] Z) Z (H':=[]) Z ?_
 rintro _ _ _ ⟨rfl,rfl,rfl⟩
 refine wP Z ?_
 obtain ⟨aP,hm⟩:=Qe hm
 refine Qt (d:=30) (v':=.int .i64 ((s + 1) + aN)) (S':=V16 ..) Z Z (i64_in aP) (QT (S':=V16 ..) Z Z Z Z Z (Q4 (Qg (Q3 (Q2 [5,6,0,1] (S':=V4 ..) Z (Q1 (wP Z (wP Z ?_))))))))
 obtain ⟨aQ,hm⟩:=Qe hm
 refine Qt (d:=17) (v':=.int .i64 ((z + 1:Nat):Int)) (S':=V5 ..) Z Z (Q1w (a:=z) (b:=1) aQ) (QT (S':=V5 ..) Z Z Z Z Z (Q4 ?_))
 have hE:=(Zi hm).symm
 replace hE:=QI hLu1 hE
 refine QS (_,z + 1,(s + 1) + aN) (Nat.lt_succ_self _) hE [6,5,0,1] Z (asK [3] Z) Z
 replace hm:=QG hm aC
 refine Q2 [5,1] (S':=[_,_]) Z (Q1f (Qj (Qj (QD ?_))))
 have hE:=(Zi hm).symm
 replace hE:=Qy hLu1 hE
 refine Qi s hE [1,5] Z (asK [] Z) Z
 rintro a5 hE
 try dsimp only
 have hm:=hLj_1
 try rw [hE] at hm
 refine Q5 (Q1 (wP Z (wP Z (wP Z ?_))))
 obtain ⟨aR,hm⟩:=Qe hm
 refine Qt (d:=33) (v':=.int .i64 (a1 + 1)) (S':=V4 ..) Z Z (i64_in aR) (Q1u Z Z Z Zq (rk_min Z Z Z) (wP Z (Q4 (Q3 (Q2 [4] (S':=[_]) Z (Qo ?_))))))
 have hE:=(Zi hm).symm
 replace hE:=hE.symm
 subst hE
 refine Qp (Hr:=[]) [] Tryz.results25 (Qf Z) ⟨Z,Z,Z⟩ (asK [] Z) Z Z (.inl Z)
theorem Q86 : ∀ (N:Nat),∀ (qp0:OA) (qc1:Nat) (l0:List Qm) (a1:Int) (o0:Int),Q1Q N l0 a1 = some o0 → Q14 Tryz.prog 25 [.slice qp0 l0.length qc1,.int .i64 a1] [.sli 7 Qz qp0 qc1 l0] [] (fun v Φr Hr=>v = .int .i64 o0 ∧ Φr = [] ∧ Hr = []):=by
 intro N
 induction N with
 | zero=>intro qp0 qc1 l0 a1 o0 hm; cases hm
 | succ N ih=>intro qp0 qc1 l0 a1 o0 hm; exact Qab N (Q1Q N) ih qp0 qc1 l0 a1 o0 hm
theorem Qb4 (N:Nat) (aF:OA) (aG:Nat) (l0:List Qk) (aH:OA) (aI:Nat) (l1:List Qh) (a6:OA) (a7:Nat) (l2:List QE) (o0:Bool) (hm:Q3Q N l0 l1 l2 = some o0):Q14 Tryz.prog 9 [.agg #[.slice aF l0.length aG,.slice aH l1.length aI],.slice a6 l2.length a7] [.sli 2 Qc aF aG l0,.sli 5 Qb aH aI l1,.sli 3 Q19 a6 a7 l2] [] (fun v Φr Hr=>v = .bool o0 ∧ Φr = [] ∧ Hr = []):=by
 unfold Q3Q at hm
 refine QB Tryz.func9 Z Tryz.ntmps9 Z (S:=[_,_]) Z (fun C=>(Q5 (Q1 (wB Z (fun g2=>(wP Z (Q4 (Q3 (Q2 [2,1] (S':=[_,_]) Z (Q5 (Q1 (wF Z Q5n (wD 0 0 Z Q8E Q97 Z (wN Z Q8o (wF Z Q5M ?_)))))))))))))))
 refine wD 0 1 Z Q9b Q9B Z (wN Z Q7F (wP Z ?_))
 obtain ⟨bT,hm⟩:=Qe hm
 refine Qt (d:=18) (v':=.int .i64 ((l0.length + l1.length:Nat):Int)) (S':=V8 ..) Z Z (Q1w (a:=l0.length) (b:=l1.length) bT) (wP Z (Q4 (Q3 (Q2 [5,2,1] (S':=V3 ..) Z (Q5 ?_)))))
 obtain ⟨bB,hm,hLj_1⟩:=Q6 hm
 refine QL (σ:=Int) (fun aB=>bB = aB) (fun aB=>[(5,.int .i64 aB),(1,.slice a6 l2.length a7)]) (fun aB=>[.sli 3 Q19 a6 a7 l2]) (fun aB=>[]) ?_ ?_
 refine Q5 (Q1 (wP Z (Q4 (Q3 (Qx (Q1j (σ:=Nat × Nat × Int) (fun (aT,a5,aC)=>Q1g (Q2x N l1) aT (a5,aC) = some bB) (fun (aT,a5,aC)=>aT) (fun (aT,a5,aC)=>[(6,.int .i64 ((a5:Nat):Int)),(5,.int .i64 aC),(2,.pointer (some ⟨g2,0,none⟩)),(1,.slice a6 l2.length a7)]) (fun (aT,a5,aC)=>[.sli 2 Qc aF aG l0,.sli 5 Qb aH aI l1,.sli 3 Q19 a6 a7 l2]) (fun (aT,a5,aC)=>[.blk g2 [.slice aF l0.length aG,.slice aH l1.length aI] 25]) (N,0,((l0.length + l1.length:Nat):Int)) hm [6,5,2,1] Z (asK [0,1,2] Z) Z (fun s_ hm=>?_)))))))
 obtain ⟨aT,a5,aC⟩:=s_
 try dsimp only at hm ⊢
 obtain ⟨dK,dL,bU,hq,hLu1⟩:=QU hm
 clear hm
 subst bU
 replace hm:=hq
 clear hq
 unfold Q2x at hm
 try dsimp only at hm
 refine Q5 (Q5 ?_)
 obtain ⟨bV,hm,hLj_2⟩:=Q6 hm
 refine QL (σ:=Bool) (fun aK=>bV = aK) (fun aK=>[(6,.int .i64 ((a5:Nat):Int)),(5,.int .i64 aC),(2,.pointer (some ⟨g2,0,none⟩)),(1,.slice a6 l2.length a7),(27,.bool aK)]) (fun aK=>[.sli 2 Qc aF aG l0,.sli 5 Qb aH aI l1,.sli 3 Q19 a6 a7 l2]) (fun aK=>[.blk g2 [.slice aF l0.length aG,.slice aH l1.length aI] 25]) ?_ ?_
 refine Q1 (wP Z (wF Z Q5M (wD 0 1 Z Q9b Q9B Z (wN Z Q7F (wP Z (Qt (d:=23) (v':=.bool (decide (a5 < l1.length))) (S':=V8 ..) Z Z (Q2n (a:=a5) (b:=l1.length)) (wP Z ?_)))))))
 refine QF (d:=24) (S':=V9 ..) Z Z (fun b2=>?_) (fun b2=>?_)
 replace hm:=QH hm b2
 refine wP Z (wP Z (wP Z (Q4 ?_)))
 have hE:=(Zi hm).symm
 refine Qi (decide (aC < 400)) hE [6,5,2,1,27] Z (asK [0,1,2] Z) Z
 replace hm:=QG hm b2
 refine wO Z (wO Z (wP Z (Q4 ?_)))
 have hE:=(Zi hm).symm
 refine Qi false hE [6,5,2,1,27] Z (asK [0,1,2] Z) Z
 rintro aK hE
 try dsimp only
 have hm:=hLj_2
 try rw [hE] at hm
 refine Qs Z (fun b3=>?_) (fun b3=>?_)
 replace hm:=QH hm b3
 refine Q2 [6,5,2,1] (S':=V4 ..) Z (Qr (Q3 (Q5 ?_)))
 obtain ⟨bC,hm,hLj_3⟩:=Q6 hm
 unfold Q5N at hm
 refine QL (σ:=Int) (fun aN=>bC = aN) (fun aN=>[(6,.int .i64 ((a5:Nat):Int)),(5,.int .i64 aN),(2,.pointer (some ⟨g2,0,none⟩)),(1,.slice a6 l2.length a7)]) (fun aN=>[.sli 2 Qc aF aG l0,.sli 5 Qb aH aI l1,.sli 3 Q19 a6 a7 l2]) (fun aN=>[.blk g2 [.slice aF l0.length aG,.slice aH l1.length aI] 25]) ?_ ?_
 refine Qx (Q5 (Q1 (wF Z Q5M (wD 0 1 Z Q9b Q9B Z (wP Z ?_)))))
 obtain ⟨z,bW,hm⟩:=Q6 hm
 refine Q1a 1 a5 Z Z Z Zq Z Z Z Z Z bW Q7F Q5f (fun dM dN d3 cS=>(Q1G Q3u 1 Z (fun a0 bX _=>?_)))
 subst bX
 refine Q1F 2 0 Z Z Z Zq Z Z Z (cs:=V5 ..) Z Q5f Qas Z Z (QJ Z Z Z Zq Z tZ_52 Z (fun g7=>(wS 0 0 Z Q5f (all':=V5 ..) Z (H':=[_,_]) Z (Q4 (Q3 (Q2 [7,6,5,2,1] (S':=V5 ..) Z (Q5 (Q1 (wP Z (wF Z Q7D (wD 0 3 Z tS_49 tA_49 Z (wN Z Qa1 (wP Z ?_)))))))))))))
 obtain ⟨bY,hm⟩:=Qe hm
 refine Qt (d:=39) (v':=.int .i64 (aC + ((z.conds.length:Nat):Int))) (S':=V9 ..) Z Z (i64_in bY) (wF Z Q9H (wD 0 4 Z tS_50 tA_50 Z (wN Z tE_50 (wP Z ?_))))
 obtain ⟨bZ,hm⟩:=Qe hm
 refine Qt (d:=43) (v':=.int .i64 ((aC + ((z.conds.length:Nat):Int)) + ((z.acts.length:Nat):Int))) (S':=V13 ..) Z Z (i64_in bZ) (QT (S':=V13 ..) Z Z Z Z Z (Q4 (Q3 (Q2 [5,7,6,2,1] (S':=V5 ..) Z (Q5 ?_)))))
 obtain ⟨bD,hm,hLj_4⟩:=Q6 hm
 refine QL (σ:=Int) (fun aO=>bD = aO) (fun aO=>[(5,.int .i64 aO),(7,.pointer (some ⟨g7,0,none⟩)),(6,.int .i64 ((a5:Nat):Int)),(2,.pointer (some ⟨g2,0,none⟩)),(1,.slice a6 l2.length a7)]) (fun aO=>[.sli 10 QQ a0.1.1 a0.1.2 z.conds,.sli 4 QW a0.2.1 a0.2.2 z.acts,.sli 2 Qc aF aG l0,.sli 5 Qb aH aI l1,.sli 3 Q19 a6 a7 l2]) (fun aO=>[.blk g7 [.string z.name,.int .i64 (z.salience),.int .i64 (z.vars),.slice a0.1.1 z.conds.length a0.1.2,.slice a0.2.1 z.acts.length a0.2.2] 52,.blk g2 [.slice aF l0.length aG,.slice aH l1.length aI] 25]) ?_ ?_
 refine Q5 (Q1 (wP Z (Q4 (Q3 (Qx (Q1j (σ:=Nat × Nat × Int) (fun (aU,a9,aD)=>Q1g (Q2y N z) aU (a9,aD) = some bD) (fun (aU,a9,aD)=>aU) (fun (aU,a9,aD)=>[(8,.int .i64 ((a9:Nat):Int)),(5,.int .i64 aD),(7,.pointer (some ⟨g7,0,none⟩)),(6,.int .i64 ((a5:Nat):Int)),(2,.pointer (some ⟨g2,0,none⟩)),(1,.slice a6 l2.length a7)]) (fun (aU,a9,aD)=>[.sli 10 QQ a0.1.1 a0.1.2 z.conds,.sli 4 QW a0.2.1 a0.2.2 z.acts,.sli 2 Qc aF aG l0,.sli 5 Qb aH aI l1,.sli 3 Q19 a6 a7 l2]) (fun (aU,a9,aD)=>[.blk g7 [.string z.name,.int .i64 (z.salience),.int .i64 (z.vars),.slice a0.1.1 z.conds.length a0.1.2,.slice a0.2.1 z.acts.length a0.2.2] 52,.blk g2 [.slice aF l0.length aG,.slice aH l1.length aI] 25]) (N,0,((aC + ((z.conds.length:Nat):Int)) + ((z.acts.length:Nat):Int))) hm [8,5,7,6,2,1] Z (asK [0,1,4,5,6] Z) Z (fun s_ hm=>?_)))))))
 obtain ⟨aU,a9,aD⟩:=s_
 try dsimp only at hm ⊢
 obtain ⟨dO,dP,c0,hq,hLu2⟩:=QU hm
 clear hm
 subst c0
 replace hm:=hq
 clear hq
 unfold Q2y at hm
 try dsimp only at hm
 refine Q5 (Q5 ?_)
 obtain ⟨c1,hm,hLj_5⟩:=Q6 hm
 refine QL (σ:=Bool) (fun aL=>c1 = aL) (fun aL=>[(8,.int .i64 ((a9:Nat):Int)),(5,.int .i64 aD),(7,.pointer (some ⟨g7,0,none⟩)),(6,.int .i64 ((a5:Nat):Int)),(2,.pointer (some ⟨g2,0,none⟩)),(1,.slice a6 l2.length a7),(52,.bool aL)]) (fun aL=>[.sli 10 QQ a0.1.1 a0.1.2 z.conds,.sli 4 QW a0.2.1 a0.2.2 z.acts,.sli 2 Qc aF aG l0,.sli 5 Qb aH aI l1,.sli 3 Q19 a6 a7 l2]) (fun aL=>[.blk g7 [.string z.name,.int .i64 (z.salience),.int .i64 (z.vars),.slice a0.1.1 z.conds.length a0.1.2,.slice a0.2.1 z.acts.length a0.2.2] 52,.blk g2 [.slice aF l0.length aG,.slice aH l1.length aI] 25]) ?_ ?_
 refine Q1 (wP Z (wF Z Q7D (wD 0 3 Z tS_49 tA_49 Z (wN Z Qa1 (wP Z (Qt (d:=48) (v':=.bool (decide (a9 < z.conds.length))) (S':=V10 ..) Z Z (Q2n (a:=a9) (b:=z.conds.length)) (wP Z ?_)))))))
 refine QF (d:=49) (S':=V11 ..) Z Z (fun b4=>?_) (fun b4=>?_)
 replace hm:=QH hm b4
 refine wP Z (wP Z (wP Z (Q4 ?_)))
 have hE:=(Zi hm).symm
 refine Qi (decide (aD < 400)) hE [8,5,7,6,2,1,52] Z (asK [0,1,2,3,4] Z) Z
 replace hm:=QG hm b4
 refine wO Z (wO Z (wP Z (Q4 ?_)))
 have hE:=(Zi hm).symm
 refine Qi false hE [8,5,7,6,2,1,52] Z (asK [0,1,2,3,4] Z) Z
 rintro aL hE
 try dsimp only
 have hm:=hLj_5
 try rw [hE] at hm
 refine Qs Z (fun b5=>?_) (fun b5=>?_)
 replace hm:=QH hm b5
 refine Q2 [8,5,7,6,2,1] (S':=V6 ..) Z (Qr (Q3 (Q5 (Qx ?_))))
 obtain ⟨bJ,c2,hm⟩:=Q6 hm
 obtain ⟨c3,hm⟩:=Qe hm
 obtain ⟨aR,c4,hm⟩:=Q6 hm
 obtain ⟨c5,c6,hm⟩:=Q6 hm
 obtain ⟨c7,hm⟩:=Qe hm
 refine QV [0,1,2,3,4,5,6,7,8,9,10,11,12,13,14,17] Z Z (fun hok=>(xP hok 0 Z (Q8 hok 1 Z Z Z Zq Z Z Z Q7D (Qn hok 2 0 3 Z Z Z Zq Z Z Z Z (cs:=[_]) Z tS_49 tA_49 Z Z (xP hok 3 Z (Q2T hok 4 0 a9 Z Z Z Zq Z Z Z Z Z Z c2 Qa1 Q6S (fun dQ dR d4 cT=>(Q3G Q4q 1 Z (fun dS c8 _=>?_)))))))))
 subst c8
 refine Q8 hok 5 Z Z Z Zq Z Z Z Qbu (Q4R hok 6 2 2 Z Z Z Zq Z Z Z Z (cs:=[_]) Z tS_60 tA_60 Z Z (Q5V hok 7 Z Z Z Zq Z Z Z tE_60 (xP hok 8 Z (Q1B (d:=63) (v':=.int .i64 (aD + ((bJ.args.length:Nat):Int))) (S':=V14 ..) Z Z (i64_in c3) (Q8 hok 9 Z Z Z Zq Z Z Z Q7D (Qn hok 10 0 3 Z Z Z Zq Z Z Z Z (cs:=[_]) Z tS_49 tA_49 Z Z (xP hok 11 Z (Q2T hok 12 4 a9 Z Z Z Zq Z Z Z Z Z Z c4 Qa1 Q6S (fun dT dU d5 cU=>(Q3G Q4q 1 Z (fun bA c9 _=>?_)))))))))))
 subst c9
 refine Q8 hok 13 Z Z Z Zq Z Z Z Qbv (Q4R hok 14 2 3 Z Z Z Zq Z Z Z Z (cs:=V7 ..) Z Q4V Q7Q Z Z (xS hok 15 Z (QA Z Z Z Zq Z Q7G Q4V tZ_65 Z (zs:=[.int .u8 0,.int .u8 0,.int .i64 0,.string ((⟨#[]⟩ : ByteArray)),.int .i64 0,.int .u8 0,V1]) (by kernel_rfl) Z (out:=V7 ..) Z (fun cV=>(Q4 (QO [0,1,2,3,4,5,6,7,8,9,10,11,12] [1,1] Z Z (xS hok 16 Z (Q2j (sz:=7) (m:=1) Qz [aR.test] 0 Z (fun F w hφ=>⟨[.int .u8 (aR.test.kind),.int .u8 (aR.test.value.k),.int .i64 (aR.test.value.n),.string aR.test.value.s,.int .i64 (aR.test.var),.int .u8 (aR.test.op),.slice bA.2.1 aR.test.kids.length bA.2.2],[],Z,Z,(Q7q (bA.2.1,bA.2.2) Z (QZ (hφ _ (Q12 (k:=1) Z)) Qv)),Z⟩) Z (by decide) (H':=V3 ..) Z (Q5o [] [0,1,2] [0] Z Z Z Zq Z Z fn_25 Z (Q86 N (some ⟨cV,0,none⟩) 1 [aR.test] 400 _ c6) (fun F w hφ hh=>(QZ (Q1x (hh _ (Q12 (k:=0) Z))) Qv)) (fun _ _ _ hR=>by obtain ⟨rfl,rfl,rfl⟩:=hR; exact ⟨Z,(fun _ h=>Q3N h)⟩) Z Z (H':=V3 ..) Z ?_)))))))))
 rintro _ _ _ ⟨rfl,rfl,rfl⟩
 refine Q4 (QO [0,1,2,3,4,5,6,7,8,9,10,11,12] [1,1] Z Z (xP hok 17 Z (Q1B (d:=72) (v':=.int .i64 ((aD + ((bJ.args.length:Nat):Int)) + c5)) (S':=V23 ..) Z Z (i64_in c7) (xS hok 18 Z (QT (S':=V23 ..) Z Z Z Z Z (Q4 (QO [0,1,2,3,4,5,6,7,8,9,10,11,12] [] Z Z (QR hok Z (Qg (Q3 (Q2 [5,8,7,6,2,1] (S':=V6 ..) Z (Q1 (wP Z ?_)))))))))))))
 refine wP Z ?_
 obtain ⟨cA,hm⟩:=Qe hm
 refine Qt (d:=54) (v':=.int .i64 ((a9 + 1:Nat):Int)) (S':=V7 ..) Z Z (Q1w (a:=a9) (b:=1) cA) (QT (S':=V7 ..) Z Z Z Z Z (Q4 ?_))
 have hE:=(Zi hm).symm
 replace hE:=QI hLu2 hE
 refine QC [1,2] Z (H':=[_,_]) Z ?_
 refine QS (_,a9 + 1,((aD + ((bJ.args.length:Nat):Int)) + c5)) (Nat.lt_succ_self _) hE [8,5,7,6,2,1] Z (asK [8,9,10,11,12] Z) Z
 replace hm:=QG hm b5
 refine Q2 [5,7,6,2,1] (S':=V5 ..) Z (Q1f (Qj (Qj (QD ?_))))
 have hE:=(Zi hm).symm
 replace hE:=Qy hLu2 hE
 refine Qi aD hE [5,7,6,2,1] Z (asK [0,1,2,3,4] Z) Z
 rintro aO hE
 try dsimp only
 have hm:=hLj_4
 try rw [hE] at hm
 refine Q5 (Q1 (wP Z (Q4 (Q3 (Qx (Q1j (σ:=Nat × Nat × Int) (fun (aV,aA,aE)=>Q1g (Q2z N z) aV (aA,aE) = some bC) (fun (aV,aA,aE)=>aV) (fun (aV,aA,aE)=>[(9,.int .i64 ((aA:Nat):Int)),(5,.int .i64 aE),(7,.pointer (some ⟨g7,0,none⟩)),(6,.int .i64 ((a5:Nat):Int)),(2,.pointer (some ⟨g2,0,none⟩)),(1,.slice a6 l2.length a7)]) (fun (aV,aA,aE)=>[.sli 10 QQ a0.1.1 a0.1.2 z.conds,.sli 4 QW a0.2.1 a0.2.2 z.acts,.sli 2 Qc aF aG l0,.sli 5 Qb aH aI l1,.sli 3 Q19 a6 a7 l2]) (fun (aV,aA,aE)=>[.blk g7 [.string z.name,.int .i64 (z.salience),.int .i64 (z.vars),.slice a0.1.1 z.conds.length a0.1.2,.slice a0.2.1 z.acts.length a0.2.2] 52,.blk g2 [.slice aF l0.length aG,.slice aH l1.length aI] 25]) (N,0,aO) hm [9,5,7,6,2,1] Z (asK [0,1,2,3,4] Z) Z (fun s_ hm=>?_)))))))
 obtain ⟨aV,aA,aE⟩:=s_
 try dsimp only at hm ⊢
 obtain ⟨dV,dW,cB,hq,hLu3⟩:=QU hm
 clear hm
 subst cB
 replace hm:=hq
 clear hq
 unfold Q2z at hm
 try dsimp only at hm
 refine Q5 (Q5 ?_)
 obtain ⟨cC,hm,hLj_6⟩:=Q6 hm
 refine QL (σ:=Bool) (fun aM=>cC = aM) (fun aM=>[(9,.int .i64 ((aA:Nat):Int)),(5,.int .i64 aE),(7,.pointer (some ⟨g7,0,none⟩)),(6,.int .i64 ((a5:Nat):Int)),(2,.pointer (some ⟨g2,0,none⟩)),(1,.slice a6 l2.length a7),(81,.bool aM)]) (fun aM=>[.sli 10 QQ a0.1.1 a0.1.2 z.conds,.sli 4 QW a0.2.1 a0.2.2 z.acts,.sli 2 Qc aF aG l0,.sli 5 Qb aH aI l1,.sli 3 Q19 a6 a7 l2]) (fun aM=>[.blk g7 [.string z.name,.int .i64 (z.salience),.int .i64 (z.vars),.slice a0.1.1 z.conds.length a0.1.2,.slice a0.2.1 z.acts.length a0.2.2] 52,.blk g2 [.slice aF l0.length aG,.slice aH l1.length aI] 25]) ?_ ?_
 refine Q1 (wP Z (wF Z Q9H (wD 0 4 Z tS_50 tA_50 Z (wN Z tE_50 (wP Z (Qt (d:=77) (v':=.bool (decide (aA < z.acts.length))) (S':=V10 ..) Z Z (Q2n (a:=aA) (b:=z.acts.length)) (wP Z ?_)))))))
 refine QF (d:=78) (S':=V11 ..) Z Z (fun b6=>?_) (fun b6=>?_)
 replace hm:=QH hm b6
 refine wP Z (wP Z (wP Z (Q4 ?_)))
 have hE:=(Zi hm).symm
 refine Qi (decide (aE < 400)) hE [9,5,7,6,2,1,81] Z (asK [0,1,2,3,4] Z) Z
 replace hm:=QG hm b6
 refine wO Z (wO Z (wP Z (Q4 ?_)))
 have hE:=(Zi hm).symm
 refine Qi false hE [9,5,7,6,2,1,81] Z (asK [0,1,2,3,4] Z) Z
 rintro aM hE
 try dsimp only
 have hm:=hLj_6
 try rw [hE] at hm
 refine Qs Z (fun b7=>?_) (fun b7=>?_)
 replace hm:=QH hm b7
 refine Q2 [9,5,7,6,2,1] (S':=V6 ..) Z (Qr (Q3 (Q5 (Qx (Q1 (wP Z (wF Z Q9H (wD 0 4 Z tS_50 tA_50 Z (wP Z ?_)))))))))
 obtain ⟨cW,cD,hm⟩:=Q6 hm
 refine Q1a 1 aA Z Z Z Zq Z Z Z Z Z cD tE_50 tS_81 (fun dX dY d6 cX=>(Q1G QaS 1 Z (fun cE cF _=>?_)))
 subst cF
 refine wF Z Q90 (Q1F 1 3 Z Z Z Zq Z Z Z (cs:=[_]) Z Q8F Q98 Z Z ?_)
 obtain ⟨cG,cH,hm⟩:=Q6 hm
 refine wC [] [0,1] Z fn_25 Z (Q86 N cE.1 cE.2 cW.exprs 400 _ cH) (asK [0] Z) Z (H':=[_,_]) Z ?_
 rintro _ _ _ ⟨rfl,rfl,rfl⟩
 refine wP Z ?_
 obtain ⟨cI,hm⟩:=Qe hm
 refine Qt (d:=92) (v':=.int .i64 (aE + cG)) (S':=V14 ..) Z Z (i64_in cI) (QT (S':=V14 ..) Z Z Z Z Z (Q4 (Qg (Q3 (Q2 [5,9,7,6,2,1] (S':=V6 ..) Z (Q1 (wP Z (wP Z ?_))))))))
 obtain ⟨cJ,hm⟩:=Qe hm
 refine Qt (d:=83) (v':=.int .i64 ((aA + 1:Nat):Int)) (S':=V7 ..) Z Z (Q1w (a:=aA) (b:=1) cJ) (QT (S':=V7 ..) Z Z Z Z Z (Q4 ?_))
 have hE:=(Zi hm).symm
 replace hE:=QI hLu3 hE
 refine QS (_,aA + 1,aE + cG) (Nat.lt_succ_self _) hE [9,5,7,6,2,1] Z (asK [3,4,5,6,7] Z) Z
 replace hm:=QG hm b7
 refine Q2 [5,6,2,1] (S':=V4 ..) Z (Q1f (Qj (Qj (QD (Qg ?_)))))
 have hE:=(Zi hm).symm
 replace hE:=Qy hLu3 hE
 refine QC [1] Z (H':=[_]) Z ?_
 refine Qi aE hE [6,5,2,1] Z (asK [2,3,4] Z) Z
 rintro aN hE
 try dsimp only
 have hm:=hLj_3
 try rw [hE] at hm
 refine Q1 (wP Z (wP Z ?_))
 obtain ⟨cK,hm⟩:=Qe hm
 refine Qt (d:=29) (v':=.int .i64 ((a5 + 1:Nat):Int)) (S':=V5 ..) Z Z (Q1w (a:=a5) (b:=1) cK) (QT (S':=V5 ..) Z Z Z Z Z (Q4 ?_))
 have hE:=(Zi hm).symm
 replace hE:=QI hLu1 hE
 refine QS (_,a5 + 1,aN) (Nat.lt_succ_self _) hE [6,5,2,1] Z (asK [0,1,2] Z) Z
 replace hm:=QG hm b3
 refine Q2 [5,1] (S':=[_,_]) Z (Q1f (Qj (Qj (QD ?_))))
 have hE:=(Zi hm).symm
 replace hE:=Qy hLu1 hE
 refine QC [] Z (H':=[]) Z ?_
 refine Qi aC hE [5,1] Z (asK [2] Z) Z
 rintro aB hE
 try dsimp only
 have hm:=hLj_1
 try rw [hE] at hm
 refine Q5 ?_
 obtain ⟨bE,hm,hLj_7⟩:=Q1o hm
 refine QL (σ:=Unit) (fun _=>bE = .inl ()) (fun _=>[(5,.int .i64 aB),(1,.slice a6 l2.length a7)]) (fun _=>[.sli 3 Q19 a6 a7 l2]) (fun _=>[]) ?_ ?_
 refine Q5 (Q1 (wP Z (Q4 (Q3 (Qx (Q1j (σ:=Nat × Nat) (fun (aW,a1)=>Q1g (Q2A N l2) aW a1 = some bE) (fun (aW,a1)=>aW) (fun (aW,a1)=>[(10,.int .i64 ((a1:Nat):Int)),(5,.int .i64 aB),(1,.slice a6 l2.length a7)]) (fun (aW,a1)=>[.sli 3 Q19 a6 a7 l2]) (fun (aW,a1)=>[]) (N,0) hm [10,5,1] Z (asK [0] Z) Z (fun s_ hm=>?_)))))))
 obtain ⟨aW,a1⟩:=s_
 try dsimp only at hm ⊢
 obtain ⟨dZ,e0,cL,hq,hLu4⟩:=QU hm
 clear hm
 subst cL
 replace hm:=hq
 clear hq
 unfold Q2A at hm
 try dsimp only at hm
 refine Q5 (Q5 (Q1 (wP Z (wP Z (wN Z Q7s (wP Z (Qt (d:=96) (v':=.bool (decide (a1 < l2.length))) (S':=V6 ..) Z Z (Q2n (a:=a1) (b:=l2.length)) (Q4 (Q3 (Q2 [96,10,5,1] (S':=V4 ..) Z ?_))))))))))
 refine Qs Z (fun b8=>?_) (fun b8=>?_)
 replace hm:=QH hm b8
 refine Q2 [10,5,1] (S':=V3 ..) Z (Qr (Q3 (Q5 ?_)))
 obtain ⟨bF,hm,hLj_8⟩:=Q1o hm
 refine QL (σ:=Unit) (fun _=>bF = .inl ()) (fun _=>[(10,.int .i64 ((a1:Nat):Int)),(5,.int .i64 aB),(1,.slice a6 l2.length a7)]) (fun _=>[.sli 3 Q19 a6 a7 l2]) (fun _=>[]) ?_ ?_
 refine Qx (Q5 (Q5 (Q1 (wP Z (wP Z ?_)))))
 obtain ⟨bG,bK,hm⟩:=Q6 hm
 refine Q1a 0 a1 Z Z Z Zq Z Z Z Z Z bK Q7s Q5g (fun d7 d8 cY cO=>(Q1G Q3t 1 Z (fun d9 bL _=>?_)))
 subst bL
 refine wF Z Qax (Q1F 1 2 Z Z Z Zq Z Z Z (cs:=[_]) Z Q7c Q7b Z Z (wN Z Q5e (wP Z (Qt (d:=105) (v':=.bool (decide (20 < bG.args.length))) (S':=V9 ..) Z Z (natgt (a:=bG.args.length) (b:=20)) (Q4 (Q3 (Q2 [105,10,5,1] (S':=V4 ..) Z ?_)))))))
 refine Qs Z (fun aX=>?_) (fun aX=>?_)
 replace hm:=QH hm aX
 refine Q2 [] (S':=[]) Z (Q5 (Q1 (wP Z (Q4 (Q3 (Qo (Q9 (Ql (Q9 (Q9 (Ql (Q9 ?_))))))))))))
 have hE:=(Zi hm).symm
 replace hE:=Qy hLj_8 hE
 replace hE:=Qy hLu4 hE
 replace hE:=Qy hLj_7 hE
 replace hE:=hE.symm
 subst hE
 refine Qp (Hr:=[]) [] Tryz.results9 (Qf Z) ⟨Z,Z,Z⟩ (asK [] Z) Z Z (.inl Z)
 replace hm:=QG hm aX
 refine Q2 [10,5,1] (S':=V3 ..) Z (Qr (Q3 (Q5 (Q1 (wP Z (Q4 (Q3 (Qx (Q1j (σ:=Nat × Nat) (fun (aY,a8)=>Q1g (Q2B N l2 a1) aY a8 = some bF) (fun (aY,a8)=>aY) (fun (aY,a8)=>[(11,.int .i64 ((a8:Nat):Int)),(10,.int .i64 ((a1:Nat):Int)),(5,.int .i64 aB),(1,.slice a6 l2.length a7)]) (fun (aY,a8)=>[.sli 3 Q19 a6 a7 l2]) (fun (aY,a8)=>[]) (N,0) hm [11,10,5,1] Z (asK [3] Z) Z (fun s_ hm=>?_))))))))))
 obtain ⟨aY,a8⟩:=s_
 try dsimp only at hm ⊢
 obtain ⟨e1,e2,cM,hq,hLu5⟩:=QU hm
 clear hm
 subst cM
 replace hm:=hq
 clear hq
 unfold Q2B at hm
 try dsimp only at hm
 refine Q5 (Q5 (Q1 (wP Z (wP Z (wP Z ?_)))))
 obtain ⟨bH,bM,hm⟩:=Q6 hm
 refine Q1a 0 a1 Z Z Z Zq Z Z Z Z Z bM Q7s Q5g (fun dA dB cZ cP=>(Q1G Q3t 1 Z (fun dC bN _=>?_)))
 subst bN
 refine wF Z Qax (Q1F 1 2 Z Z Z Zq Z Z Z (cs:=[_]) Z Q7c Q7b Z Z (wN Z Q5e (wP Z (Qt (d:=113) (v':=.bool (decide (a8 < bH.args.length))) (S':=V11 ..) Z Z (Q2n (a:=a8) (b:=bH.args.length)) (Q4 (Q3 (Q2 [113,11,10,5,1] (S':=V5 ..) Z ?_)))))))
 refine Qs Z (fun aZ=>?_) (fun aZ=>?_)
 replace hm:=QH hm aZ
 refine Q2 [11,10,5,1] (S':=V4 ..) Z (Qr (Q3 (Q5 (Qx (Q5 (Q1 (wP Z (wP Z ?_))))))))
 obtain ⟨dD,bO,hm⟩:=Q6 hm
 refine Q1a 3 a1 Z Z Z Zq Z Z Z Z Z bO Q7s Q5g (fun dE dF d0 cQ=>(Q1G Q3t 1 Z (fun dG bP _=>?_)))
 subst bP
 refine wF Z Qax (Q1F 1 2 Z Z Z Zq Z Z Z (cs:=[_]) Z Q7c Q7b Z Z (wP Z ?_))
 obtain ⟨bI,bQ,hm⟩:=Q6 hm
 refine Q1a 0 a8 Z Z Z Zq Z Z Z Z Z bQ Q5e Q1z (fun dH dI d1 cR=>(Q1G Q63 1 Z (fun dJ bR _=>?_)))
 subst bR
 refine wF Z tF_57_2 (Q1F 0 2 Z Z Z Zq Z Z Z (cs:=[_]) Z Q2b Q3D Z Z (Q1u Z Z Z Zq (Q44 Z Z Q7f) (wP Z (Qt (d:=126) (v':=.bool (decide (100 < bI.s.size))) (S':=V14 ..) Z Z (natgt (a:=bI.s.size) (b:=100)) (Q4 (Q3 (Q2 [126,11,10,5,1] (S':=V5 ..) Z ?_)))))))
 refine Qs Z (fun b0=>?_) (fun b0=>?_)
 replace hm:=QH hm b0
 refine Q2 [] (S':=[]) Z (Q5 (Q1 (wP Z (Q4 (Q3 (Qo (Ql (Q9 (Q9 (Ql (Ql (Q9 (Q9 ?_)))))))))))))
 refine Ql (Q9 ?_)
 have hE:=(Zi hm).symm
 replace hE:=Qy hLu5 hE
 replace hE:=Qy hLj_8 hE
 replace hE:=Qy hLu4 hE
 replace hE:=Qy hLj_7 hE
 replace hE:=hE.symm
 subst hE
 refine Qp (Hr:=[]) [] Tryz.results9 (Qf Z) ⟨Z,Z,Z⟩ (asK [] Z) Z Z (.inl Z)
 replace hm:=QG hm b0
 refine Q2 [11,10,5,1] (S':=V4 ..) Z (Qr (Qg (Q3 (Q1 (wP Z (wP Z ?_))))))
 obtain ⟨bS,hm⟩:=Qe hm
 refine Qt (d:=115) (v':=.int .i64 ((a8 + 1:Nat):Int)) (S':=V5 ..) Z Z (Q1w (a:=a8) (b:=1) bS) (QT (S':=V5 ..) Z Z Z Z Z (Q4 ?_))
 have hE:=(Zi hm).symm
 replace hE:=QI hLu5 hE
 refine QS (_,a8 + 1) (Nat.lt_succ_self _) hE [11,10,5,1] Z (asK [8] Z) Z
 replace hm:=QG hm aZ
 refine Q2 [10,5,1] (S':=V3 ..) Z (Q1f (Qj (Qj (QD (Qg ?_)))))
 have hE:=(Zi hm).symm
 replace hE:=Qy hLu5 hE
 refine Qi () hE [10,5,1] Z (asK [3] Z) Z
 rintro _ hE
 try dsimp only
 have hm:=QI hLj_8 hE
 try dsimp only at hm
 refine Q1 (wP Z (wP Z ?_))
 obtain ⟨cN,hm⟩:=Qe hm
 refine Qt (d:=98) (v':=.int .i64 ((a1 + 1:Nat):Int)) (S':=V4 ..) Z Z (Q1w (a:=a1) (b:=1) cN) (QT (S':=V4 ..) Z Z Z Z Z (Q4 ?_))
 have hE:=(Zi hm).symm
 replace hE:=QI hLu4 hE
 refine QS (_,a1 + 1) (Nat.lt_succ_self _) hE [10,5,1] Z (asK [0] Z) Z
 replace hm:=QG hm b8
 refine Q2 [5,1] (S':=[_,_]) Z (Q1f (Qj (Qj (QD ?_))))
 have hE:=(Zi hm).symm
 replace hE:=Qy hLu4 hE
 refine Qi () hE [5,1] Z (asK [0] Z) Z
 rintro _ hE
 try dsimp only
 have hm:=QI hLj_7 hE
 try dsimp only at hm
 refine Q5 (Q1 (wP Z (wP Z (wP Z ?_))))
 refine QF (d:=129) (S':=V4 ..) Z Z (fun b1=>?_) (fun b1=>?_)
 replace hm:=QH hm b1
 refine wP Z (wN Z Q7s (wP Z (Qt (d:=132) (v':=.bool (decide (l2.length ≤ 40))) (S':=V7 ..) Z Z (natle (a:=l2.length) (b:=40)) (wP Z (wP Z (Q4 (Q3 (Q2 [4] (S':=[_]) Z (Qo ?_)))))))))
 have hE:=(Zi hm).symm
 replace hE:=hE.symm
 subst hE
 refine Qp (Hr:=[]) [] Tryz.results9 (Qf Z) ⟨Z,Z,Z⟩ (asK [] Z) Z Z (.inl Z)
 replace hm:=QG hm b1
 refine wO Z (wO Z (wO Z (wP Z (wP Z (Q4 (Q3 (Q2 [4] (S':=[_]) Z (Qo ?_))))))))
 have hE:=(Zi hm).symm
 replace hE:=hE.symm
 subst hE
 refine Qp (Hr:=[]) [] Tryz.results9 (Qf Z) ⟨Z,Z,Z⟩ (asK [] Z) Z Z (.inl Z)
theorem Qc7 (N:Nat) (a0:Int) (a1:Int) (o0:Int) (hm:Q56 N a0 a1 = some o0):Q14 Tryz.prog 17 [.int .i64 a0,.int .i64 a1] [] [] (fun v Φr Hr=>v = .int .i64 o0 ∧ Φr = [] ∧ Hr = []):=by
 unfold Q56 at hm
 refine QB Tryz.func17 Z Tryz.ntmps17 Z (S:=[_,_]) Z (fun C=>(Q5 (Q1 (wP Z (Q4 (Q3 (Q2 [0,1] (S':=[_,_]) Z (Q5 (Q5 (Q1 (wP Z (wP Z (Q4 (Q3 ?_))))))))))))))
 refine Q2 [6,0,1] (S':=V3 ..) Z ?_
 refine Qs Z (fun hb6=>?_) (fun hb6=>?_)
 replace hm:=QH hm hb6
 refine Q2 [] (S':=[]) Z (Q5 (Q1 (wP Z (Q4 (Q3 (Qo (Q9 ?_)))))))
 have hE:=(Zi hm).symm
 replace hE:=hE.symm
 subst hE
 refine Qp (Hr:=[]) [] Tryz.results17 (Qf Z) ⟨Z,Z,Z⟩ (asK [] Z) Z Z (.inl Z)
 replace hm:=QG hm hb6
 refine Q2 [0,1] (S':=[_,_]) Z (Qr (Q3 (Q5 (Q1 (wP Z (wP Z ?_))))))
 obtain ⟨hg9,hm⟩:=Qe hm
 refine Q8T Z Z Z Zq Z Z Z (run_rem hg9) (QT (S':=V4 ..) Z Z Z Z Z (Q4 (Q3 (Q2 [0,1] (S':=[_,_]) Z (Q5 ?_)))))
 obtain ⟨bj_1,hm,hLj_1⟩:=Q6 hm
 refine QL (σ:=Int) (fun j_1_0=>bj_1 = j_1_0) (fun j_1_0=>[(0,.int .i64 j_1_0)]) (fun j_1_0=>[]) (fun j_1_0=>[]) ?_ ?_
 refine Q5 (Q1 (wP Z (wP Z (Q4 (Q3 (Q2 [11,0,1] (S':=V3 ..) Z ?_))))))
 refine Qs Z (fun hb11=>?_) (fun hb11=>?_)
 replace hm:=QH hm hb11
 refine Q2 [0,1] (S':=[_,_]) Z (Q1 (wP Z (wP Z (wP Z ?_))))
 obtain ⟨hg14,hm⟩:=Qe hm
 refine Qt (d:=14) (v':=.int .i64 ((Int.tmod a0 a1) + a1)) (S':=V4 ..) Z Z (i64_in hg14) (QT (S':=V4 ..) Z Z Z Z Z (Q4 ?_))
 have hE:=(Zi hm).symm
 refine Qi ((Int.tmod a0 a1) + a1) hE [0] Z (asK [] Z) Z
 replace hm:=QG hm hb11
 refine Q2 [0] (S':=[_]) Z (Qr ?_)
 have hE:=(Zi hm).symm
 refine Qi (Int.tmod a0 a1) hE [0] Z (asK [] Z) Z
 rintro j_1_0 hE
 try dsimp only
 have hm:=hLj_1
 try rw [hE] at hm
 refine Q5 (Q1 (wP Z (wP Z (Q4 (Q3 (Q2 [4] (S':=[_]) Z (Qo ?_)))))))
 have hE:=(Zi hm).symm
 replace hE:=hE.symm
 subst hE
 refine Qp (Hr:=[]) [] Tryz.results17 (Qf Z) ⟨Z,Z,Z⟩ (asK [] Z) Z Z (.inl Z)
theorem QaH (N:Nat) (a7:OA) (a8:Nat) (l0:List Int) (a9:OA) (aA:Nat) (l1:List Int) (o0:Bool) (hm:Q3x N l0 l1 = some o0):Q14 Tryz.prog 73 [.slice a7 l0.length a8,.slice a9 l1.length aA] [.sli 1 Q25 a7 a8 l0,.sli 1 Q25 a9 aA l1] [] (fun v Φr Hr=>v = .bool o0 ∧ Φr = [] ∧ Hr = []):=by
 unfold Q3x at hm
 refine QB Tryz.func73 Z Tryz.ntmps73 Z (S:=[_,_]) Z (fun C=>(Q5 (Q1 (wP Z (Q4 (Q3 (Q2 [0,1] (S':=[_,_]) Z (Q5 (Q5 (Q1 (wP Z (wN Z Q6l (wP Z (wN Z Q6l ?_))))))))))))))
 refine wP Z (Qt (d:=10) (v':=.bool (l0.length != l1.length)) (S':=V6 ..) Z Z (natne (a:=l0.length) (b:=l1.length)) (Q4 (Q3 (Q2 [10,0,1] (S':=V3 ..) Z ?_))))
 refine Qs Z (fun a0=>?_) (fun a0=>?_)
 replace hm:=QH hm a0
 refine Q2 [] (S':=[]) Z (Q5 (Q1 (wP Z (Q4 (Q3 (Qo (Q9 ?_)))))))
 have hE:=(Zi hm).symm
 replace hE:=hE.symm
 subst hE
 refine Qp (Hr:=[]) [] Tryz.results73 (Qf Z) ⟨Z,Z,Z⟩ (asK [] Z) Z Z (.inl Z)
 replace hm:=QG hm a0
 refine Q2 [0,1] (S':=[_,_]) Z (Qr (Q3 (Q5 ?_)))
 obtain ⟨aC,hm,hLj_1⟩:=Q1o hm
 refine QL (σ:=Unit) (fun _=>aC = .inl ()) (fun _=>[]) (fun _=>[]) (fun _=>[]) ?_ ?_
 refine Q5 (Q1 (wP Z (Q4 (Q3 (Qx (Q1j (σ:=Nat × Nat) (fun (z,s)=>Q1g (Q2U N l0 l1) z s = some aC) (fun (z,s)=>z) (fun (z,s)=>[(5,.int .i64 ((s:Nat):Int)),(0,.slice a7 l0.length a8),(1,.slice a9 l1.length aA)]) (fun (z,s)=>[.sli 1 Q25 a7 a8 l0,.sli 1 Q25 a9 aA l1]) (fun (z,s)=>[]) (N,0) hm [5,0,1] Z (asK [0,1] Z) Z (fun s_ hm=>?_)))))))
 obtain ⟨z,s⟩:=s_
 try dsimp only at hm ⊢
 obtain ⟨aO,aP,aD,hq,hLu1⟩:=QU hm
 clear hm
 subst aD
 replace hm:=hq
 clear hq
 unfold Q2U at hm
 try dsimp only at hm
 refine Q5 (Q5 (Q1 (wP Z (wP Z (wN Z Q6l (wP Z (Qt (d:=14) (v':=.bool (decide (s < l0.length))) (S':=V6 ..) Z Z (Q2n (a:=s) (b:=l0.length)) (Q4 (Q3 (Q2 [14,5,0,1] (S':=V4 ..) Z ?_))))))))))
 refine Qs Z (fun a1=>?_) (fun a1=>?_)
 replace hm:=QH hm a1
 refine Q2 [5,0,1] (S':=V3 ..) Z (Qr (Q3 (Q5 (Qx (Q5 ?_)))))
 obtain ⟨aQ,aE,hm⟩:=Q6 hm
 obtain ⟨aR,aF,hm⟩:=Q6 hm
 refine QV [0,1,2,3,4,5,6,7,8] Z Z (fun hok=>(xP hok 0 Z (xP hok 1 Z (Q2T hok 2 0 s Z Z Z Zq Z Z Z Z Z Z aE Q6l Q1l (fun aS aT aM aJ=>(Q3G Qan 1 Z (fun aU aG _=>?_)))))))
 subst aG
 refine Q4R hok 3 0 0 Z Z Z Zq Z Z Z Z (cs:=[_]) Z Q1l Q1H Z Z (xP hok 4 Z (xP hok 5 Z (Q2T hok 6 3 s Z Z Z Zq Z Z Z Z Z Z aF Q6l Q1l (fun aV aW aN aK=>(Q3G Qan 1 Z (fun aX aH _=>?_))))))
 subst aH
 refine Q4R hok 7 0 0 Z Z Z Zq Z Z Z Z (cs:=[_]) Z Q1l Q1H Z Z (xP hok 8 Z (QR hok Z (Q3 (Q2 [25,5,0,1] (S':=V4 ..) Z ?_))))
 refine Qs Z (fun a5=>?_) (fun a5=>?_)
 replace hm:=QH hm a5
 refine Q2 [] (S':=[]) Z (Q5 (Q1 (wP Z (Q4 (Q3 (Qo (Ql (Q9 (Q9 (Ql (Q9 ?_)))))))))))
 have hE:=(Zi hm).symm
 replace hE:=Qy hLu1 hE
 replace hE:=Qy hLj_1 hE
 replace hE:=hE.symm
 subst hE
 refine Qp (Hr:=[]) [] Tryz.results73 (Qf Z) ⟨Z,Z,Z⟩ (asK [] Z) Z Z (.inl Z)
 replace hm:=QG hm a5
 refine Q2 [5,0,1] (S':=V3 ..) Z (Qr (Qg (Q3 (Q1 (wP Z (wP Z ?_))))))
 obtain ⟨aI,hm⟩:=Qe hm
 refine Qt (d:=16) (v':=.int .i64 ((s + 1:Nat):Int)) (S':=V4 ..) Z Z (Q1w (a:=s) (b:=1) aI) (QT (S':=V4 ..) Z Z Z Z Z (Q4 ?_))
 have hE:=(Zi hm).symm
 replace hE:=QI hLu1 hE
 refine QS (_,s + 1) (Nat.lt_succ_self _) hE [5,0,1] Z (asK [4,5] Z) Z
 replace hm:=QG hm a1
 refine Q2 [] (S':=[]) Z (Q1f (Qj (Qj (QD ?_))))
 have hE:=(Zi hm).symm
 replace hE:=Qy hLu1 hE
 refine Qi () hE [] Z (asK [] Z) Z
 rintro _ hE
 try dsimp only
 have hm:=QI hLj_1 hE
 try dsimp only at hm
 refine Q5 (Q1 (wP Z (Q4 (Q3 (Qo ?_)))))
 have hE:=(Zi hm).symm
 replace hE:=hE.symm
 subst hE
 refine Qp (Hr:=[]) [] Tryz.results73 (Qf Z) ⟨Z,Z,Z⟩ (asK [] Z) Z Z (.inl Z)
theorem Qac (N:Nat) (a0:Int) (qp0:OA) (qc1:Nat) (l1:List Int) (a2:Int) (qp2:OA) (qc3:Nat) (l3:List Int) (o0:Bool) (hm:Q3e N a0 l1 a2 l3 = some o0):Q14 Tryz.prog 37 [.agg #[.int .i64 a0,.slice qp0 l1.length qc1],.agg #[.int .i64 a2,.slice qp2 l3.length qc3]] [.sli 1 Q25 qp0 qc1 l1,.sli 1 Q25 qp2 qc3 l3] [] (fun v Φr Hr=>v = .bool o0 ∧ Φr = [] ∧ Hr = []):=by
 unfold Q3e at hm
 refine QB Tryz.func37 Z Tryz.ntmps37 Z (S:=[_,_]) Z (fun C=>(Q5 (Q1 (wB Z (fun g2=>(wB Z (fun g3=>(wP Z (Q4 (Q3 (Q2 [3,2] (S':=[_,_]) Z (Q5 (Q1 (wF Z tF_41_0 (wD 1 0 Z Q1l Q1H Z (wF Z tF_41_0 ?_))))))))))))))))
 refine wD 0 0 Z Q1l Q1H Z (wP Z (wP Z ?_))
 refine QF (d:=10) (S':=V7 ..) Z Z (fun hs10=>?_) (fun hs10=>?_)
 replace hm:=QH hm hs10
 refine wF Z Qat (wD 1 1 Z Q9E tA_39 Z (wF Z Qat (wD 0 1 Z Q9E tA_39 Z ?_)))
 obtain ⟨v15,hc15,hm⟩:=Q6 hm
 refine wC [] [0,1] Z fn_73 Z (QaH N qp0 qc1 l1 qp2 qc3 l3 _ hc15) (asK [0,1] Z) Z (H':=[_,_]) Z ?_
 rintro _ _ _ ⟨rfl,rfl,rfl⟩
 refine wP Z (wP Z (Q4 (Q3 (Q2 [4] (S':=[_]) Z (Qo ?_)))))
 have hE:=(Zi hm).symm
 replace hE:=hE.symm
 subst hE
 refine Qp (Hr:=[]) [] Tryz.results37 (Qf Z) ⟨Z,Z,Z⟩ (asK [] Z) Z Z (.inl Z)
 replace hm:=QG hm hs10
 refine wO Z (wO Z (wO Z (wO Z (wO Z (wP Z (wP Z (Q4 (Q3 (Q2 [4] (S':=[_]) Z (Qo ?_))))))))))
 have hE:=(Zi hm).symm
 replace hE:=hE.symm
 subst hE
 refine Qp (Hr:=[]) [] Tryz.results37 (Qf Z) ⟨Z,Z,Z⟩ (asK [] Z) Z Z (.inl Z)
theorem Qa8 (N:Nat) (a7:OA) (a8:Nat) (l0:List Qu) (a9:OA) (aA:Nat) (l1:List Qu) (o0:Bool) (hm:Q34 N l0 l1 = some o0):Q14 Tryz.prog 14 [.slice a7 l0.length a8,.slice a9 l1.length aA] [.sli 2 Q1Y a7 a8 l0,.sli 2 Q1Y a9 aA l1] [] (fun v Φr Hr=>v = .bool o0 ∧ Φr = [] ∧ Hr = []):=by
 unfold Q34 at hm
 refine QB Tryz.func14 Z Tryz.ntmps14 Z (S:=[_,_]) Z (fun C=>(Q5 (Q1 (wP Z (Q4 (Q3 (Q2 [0,1] (S':=[_,_]) Z (Q5 (Q5 (Q1 (wP Z (wN Z Q9C (wP Z (wN Z Q9C ?_))))))))))))))
 refine wP Z (Qt (d:=10) (v':=.bool (l0.length != l1.length)) (S':=V6 ..) Z Z (natne (a:=l0.length) (b:=l1.length)) (Q4 (Q3 (Q2 [10,0,1] (S':=V3 ..) Z ?_))))
 refine Qs Z (fun a0=>?_) (fun a0=>?_)
 replace hm:=QH hm a0
 refine Q2 [] (S':=[]) Z (Q5 (Q1 (wP Z (Q4 (Q3 (Qo (Q9 ?_)))))))
 have hE:=(Zi hm).symm
 replace hE:=hE.symm
 subst hE
 refine Qp (Hr:=[]) [] Tryz.results14 (Qf Z) ⟨Z,Z,Z⟩ (asK [] Z) Z Z (.inl Z)
 replace hm:=QG hm a0
 refine Q2 [0,1] (S':=[_,_]) Z (Qr (Q3 (Q5 ?_)))
 obtain ⟨aC,hm,hLj_1⟩:=Q1o hm
 refine QL (σ:=Unit) (fun _=>aC = .inl ()) (fun _=>[]) (fun _=>[]) (fun _=>[]) ?_ ?_
 refine Q5 (Q1 (wP Z (Q4 (Q3 (Qx (Q1j (σ:=Nat × Nat) (fun (z,s)=>Q1g (Q2F N l0 l1) z s = some aC) (fun (z,s)=>z) (fun (z,s)=>[(5,.int .i64 ((s:Nat):Int)),(0,.slice a7 l0.length a8),(1,.slice a9 l1.length aA)]) (fun (z,s)=>[.sli 2 Q1Y a7 a8 l0,.sli 2 Q1Y a9 aA l1]) (fun (z,s)=>[]) (N,0) hm [5,0,1] Z (asK [0,1] Z) Z (fun s_ hm=>?_)))))))
 obtain ⟨z,s⟩:=s_
 try dsimp only at hm ⊢
 obtain ⟨aT,aU,aD,hq,hLu1⟩:=QU hm
 clear hm
 subst aD
 replace hm:=hq
 clear hq
 unfold Q2F at hm
 try dsimp only at hm
 refine Q5 (Q5 (Q1 (wP Z (wP Z (wN Z Q9C (wP Z (Qt (d:=14) (v':=.bool (decide (s < l0.length))) (S':=V6 ..) Z Z (Q2n (a:=s) (b:=l0.length)) (Q4 (Q3 (Q2 [14,5,0,1] (S':=V4 ..) Z ?_))))))))))
 refine Qs Z (fun a1=>?_) (fun a1=>?_)
 replace hm:=QH hm a1
 refine Q2 [5,0,1] (S':=V3 ..) Z (Qr (Q3 (Q5 (Qx (Q5 ?_)))))
 obtain ⟨aE,aF,hm⟩:=Q6 hm
 obtain ⟨aG,aH,hm⟩:=Q6 hm
 obtain ⟨aV,aI,hm⟩:=Q6 hm
 refine QV [0,1,2,3,4,5,6,7,9] Z Z (fun hok=>(xP hok 0 Z (xP hok 1 Z (Q2T hok 2 0 s Z Z Z Zq Z Z Z Z Z Z aF Q9C Q9d (fun aW aX aR aO=>(Q3G Q26 1 Z (fun aJ aK _=>?_)))))))
 subst aK
 refine Q4R hok 3 1 0 Z Z Z Zq Z Z Z Z (cs:=[_,_]) Z Q9d tA_41 Z Z (xP hok 4 Z (xP hok 5 Z (Q2T hok 6 4 s Z Z Z Zq Z Z Z Z Z Z aH Q9C Q9d (fun aY aZ aS aP=>(Q3G Q26 1 Z (fun aL aM _=>?_))))))
 subst aM
 refine Q4R hok 7 1 0 Z Z Z Zq Z Z Z Z (cs:=[_,_]) Z Q9d tA_41 Z Z (xS hok 8 Z (wC [] [] Z fn_37 Z (Qac N aE.rule aJ.1 aJ.2 aE.ids aG.rule aL.1 aL.2 aG.ids _ aI) (asK [3,0] Z) Z (H':=[]) Z ?_))
 rintro _ _ _ ⟨rfl,rfl,rfl⟩
 refine Q4 (QO [0,1,2,3,4,5,6,7] [] Z Z (xP hok 9 Z (QR hok Z (Q3 (Q2 [26,5,0,1] (S':=V4 ..) Z ?_)))))
 refine Qs Z (fun a5=>?_) (fun a5=>?_)
 replace hm:=QH hm a5
 refine Q2 [] (S':=[]) Z (Q5 (Q1 (wP Z (Q4 (Q3 (Qo (Ql (Q9 (Q9 (Ql (Q9 ?_)))))))))))
 have hE:=(Zi hm).symm
 replace hE:=Qy hLu1 hE
 replace hE:=Qy hLj_1 hE
 replace hE:=hE.symm
 subst hE
 refine Qp (Hr:=[]) [] Tryz.results14 (Qf Z) ⟨Z,Z,Z⟩ (asK [] Z) Z Z (.inl Z)
 replace hm:=QG hm a5
 refine Q2 [5,0,1] (S':=V3 ..) Z (Qr (Qg (Q3 (Q1 (wP Z (wP Z ?_))))))
 obtain ⟨aN,hm⟩:=Qe hm
 refine Qt (d:=16) (v':=.int .i64 ((s + 1:Nat):Int)) (S':=V4 ..) Z Z (Q1w (a:=s) (b:=1) aN) (QT (S':=V4 ..) Z Z Z Z Z (Q4 ?_))
 have hE:=(Zi hm).symm
 replace hE:=QI hLu1 hE
 refine QS (_,s + 1) (Nat.lt_succ_self _) hE [5,0,1] Z (asK [6,7] Z) Z
 replace hm:=QG hm a1
 refine Q2 [] (S':=[]) Z (Q1f (Qj (Qj (QD ?_))))
 have hE:=(Zi hm).symm
 replace hE:=Qy hLu1 hE
 refine Qi () hE [] Z (asK [] Z) Z
 rintro _ hE
 try dsimp only
 have hm:=QI hLj_1 hE
 try dsimp only at hm
 refine Q5 (Q1 (wP Z (Q4 (Q3 (Qo ?_)))))
 have hE:=(Zi hm).symm
 replace hE:=hE.symm
 subst hE
 refine Qp (Hr:=[]) [] Tryz.results14 (Qf Z) ⟨Z,Z,Z⟩ (asK [] Z) Z Z (.inl Z)
theorem Q9r (N:Nat) (aR:OA) (aS:Nat) (l0:List Qk) (aY:OA) (aZ:Nat) (l1:List Qh) (aT:OA) (aU:Nat) (l2:List QE) (a3:Int) (o0:Bool) (hm:Q2L N l0 l1 l2 a3 = some o0):Q14 Tryz.prog 7 [.agg #[.slice aR l0.length aS,.slice aY l1.length aZ],.slice aT l2.length aU,.int .i64 a3] [.sli 2 Qc aR aS l0,.sli 5 Qb aY aZ l1,.sli 3 Q19 aT aU l2] [] (fun v Φr Hr=>v = .bool o0 ∧ Φr = [] ∧ Hr = []):=by
 unfold Q2L at hm
 refine QB Tryz.func7 Z Tryz.ntmps7 Z (S:=V3 ..) Z (fun C=>(Q5 (Q1 (wB Z (fun g3=>(wP Z (Q4 (Q3 (Q2 [3,1,2] (S':=V3 ..) Z (Q5 (Q5 (Q1 ?_))))))))))))
 obtain ⟨c5,bJ,hm⟩:=Q6 hm
 refine wC [] [0] Z fn_8 Z (Qb3 N _ bJ) (asK [] Z) Z (H':=[_]) Z ?_
 rintro _ _ _ ⟨rfl,rfl,rfl⟩
 refine wP Z (Q4 (Q3 (Q2 [15,3,1,2] (S':=V4 ..) Z ?_)))
 refine Qs Z (fun b1=>?_) (fun b1=>?_)
 replace hm:=QH hm b1
 refine Q2 [] (S':=[]) Z (Q5 (Q1 (wP Z (Q4 (Q3 (Qo (Q9 ?_)))))))
 have hE:=(Zi hm).symm
 replace hE:=hE.symm
 subst hE
 refine Qp (Hr:=[]) [] Tryz.results7 (Qf Z) ⟨Z,Z,Z⟩ (asK [] Z) Z Z (.inl Z)
 replace hm:=QG hm b1
 refine Q2 [3,1,2] (S':=V3 ..) Z (Qr (Q3 (Q5 (Q5 ?_))))
 obtain ⟨bK,hm,hLj_1⟩:=Q6 hm
 refine QL (σ:=Bool) (fun aG=>bK = aG) (fun aG=>[(3,.pointer (some ⟨g3,0,none⟩)),(1,.slice aT l2.length aU),(2,.int .i64 a3),(25,.bool aG)]) (fun aG=>[.sli 2 Qc aR aS l0,.sli 5 Qb aY aZ l1,.sli 3 Q19 aT aU l2]) (fun aG=>[.blk g3 [.slice aR l0.length aS,.slice aY l1.length aZ] 25]) ?_ ?_
 refine Q1 (QN 0 0 Z Z Z Zq Z Z Z (cs:=[_,_]) Z Q9c tA_25 Z Z (wP Z ?_))
 obtain ⟨c6,bL,hm⟩:=Q6 hm
 refine wC [] [0] Z fn_9 Z (Qb4 N aR aS l0 aY aZ l1 aT aU l2 _ bL) (asK [0,1,2] Z) Z (H':=[_]) Z ?_
 rintro _ _ _ ⟨rfl,rfl,rfl⟩
 refine wP Z (wP Z ?_)
 refine QF (d:=20) (S':=V7 ..) Z Z (fun b2=>?_) (fun b2=>?_)
 replace hm:=QH hm b2
 refine wO Z (wO Z (wO Z (wO Z (wP Z (Q4 ?_)))))
 have hE:=(Zi hm).symm
 refine Qi true hE [3,1,2,25] Z (asK [0,1,2] Z) Z
 replace hm:=QG hm b2
 refine wF Z Q5M (wD 0 1 Z Q9b Q9B Z (wN Z Q7F (wP Z (Qt (d:=24) (v':=.bool (l1.length == 0)) (S':=V11 ..) Z Z (Q4n (a:=l1.length) (b:=0)) (wP Z (Q4 ?_))))))
 have hE:=(Zi hm).symm
 refine Qi (l1.length == 0) hE [3,1,2,25] Z (asK [0,1,2] Z) Z
 rintro aG hE
 try dsimp only
 have hm:=hLj_1
 try rw [hE] at hm
 refine Qs Z (fun b3=>?_) (fun b3=>?_)
 replace hm:=QH hm b3
 refine Q2 [] (S':=[]) Z (Q5 (Q1 (wP Z (Q4 (Q3 (Qo (Q9 ?_)))))))
 have hE:=(Zi hm).symm
 replace hE:=hE.symm
 subst hE
 refine Qp (Hr:=[]) [] Tryz.results7 (Qf Z) ⟨Z,Z,Z⟩ (asK [] Z) Z Z (.inl Z)
 replace hm:=QG hm b3
 refine Q2 [3,1,2] (S':=V3 ..) Z (Qr (Q3 (Q5 (Q1 (QN 0 0 Z Z Z Zq Z Z Z (cs:=[_,_]) Z Q9c tA_25 Z Z (wP Z ?_))))))
 obtain ⟨⟨aH,b4⟩,bM,hm⟩:=Q6 hm
 try dsimp only at hm
 refine wC [] [0] Z fn_12 Z (Q8P N aR aS l0 aY aZ l1 aT aU l2 _ _ bM) (asK [0,1,2] Z) Z (H':=[_]) Z ?_
 rintro _ _ _ ⟨aJ,aK,aL,rfl,rfl,rfl⟩
 refine Q31 [.own 41 2 Q1Y (.slice aJ aL aK) aH,_] (fun _ h=>h.letgo Q8e 0 Z) (wP Z (wP Z (wP Z (wP Z (wP Z (Q4 (Q3 (Q2 [8,7,3,1,2] (S':=V5 ..) Z (Q5 (Q5 (Q1 (wP Z (wP Z ?_)))))))))))))
 refine Qt (d:=33) (v':=.bool (b4 != 0)) (S':=V6 ..) Z Z (natne (a:=b4) (b:=0)) (Q4 (Q3 (Q2 [33,7,3,1,2] (S':=V5 ..) Z ?_)))
 refine Qs Z (fun b5=>?_) (fun b5=>?_)
 replace hm:=QH hm b5
 refine Q2 [] (S':=[]) Z (Q5 (Q1 (wP Z (Q4 (Q3 (Qo (Q9 ?_)))))))
 have hE:=(Zi hm).symm
 replace hE:=hE.symm
 subst hE
 refine Qp (Hr:=[]) [] Tryz.results7 (Qf Z) ⟨Z,Z,Z⟩ (asK [] Z) Z Z (.inl Z)
 replace hm:=QG hm b5
 refine Q2 [7,3,1,2] (S':=V4 ..) Z (Qr (Q3 (Q5 (Q1 (wP Z (wF Z Q5M (wD 1 1 Z Q9b Q9B Z (wN Z Q7F ?_))))))))
 obtain ⟨bA,bN,hm⟩:=Q6 hm
 refine wC [] [0,1] Z fn_17 Z (Qc7 N a3 ((l1.length:Nat):Int) _ bN) (asK [] Z) Z (H':=[_,_]) Z ?_
 rintro _ _ _ ⟨rfl,rfl,rfl⟩
 refine wP Z (Q4 (Q3 (Q2 [9,7,3,1] (S':=V4 ..) Z (Q5 ?_))))
 obtain ⟨bO,hm⟩:=Qe hm
 obtain ⟨aO,bP,hm⟩:=Q6 hm
 obtain ⟨⟨aM,aN⟩,bQ,hm⟩:=Q6 hm
 try dsimp only at hm
 refine QV [0,1,2,3,4,5,6,8,9,11,12,13] Z Z (fun hok=>(Q8 hok 0 Z Z Z Zq Z Z Z Q5n (Qn hok 1 1 0 Z Z Z Zq Z Z Z Z (cs:=[_]) Z Q8E Q97 Z Z (Q8 hok 2 Z Z Z Zq Z Z Z Q5M (Qn hok 3 1 1 Z Z Z Zq Z Z Z Z (cs:=[_]) Z Q9b Q9B Z Z (xP hok 4 Z (Q2T hok 5 1 bA.toNat Z Z Z Zq Z Z Z Z Z (Q1t bO) bP Q7F Q5f (fun c7 c8 c4 bZ=>(Q3G Q3u 1 Z (fun aP bR _=>?_))))))))))
 subst bR
 refine Q4R hok 6 2 0 Z Z Z Zq Z Z Z Z (cs:=V5 ..) Z Q5f Qas Z Z (xP hok 9 Z (xS hok 7 Z (QA Z Z Z Zq Z Q7F Q5f tZ_52 Z (zs:=[.string ((⟨#[]⟩ : ByteArray)),.int .i64 0,.int .i64 0,V1,V1]) (by kernel_rfl) Z (out:=V5 ..) Z (fun bS=>(Q4 (QO [0,1,2,3,4,5,6] [2,2] Z Z (Q8v hok 8 Z Z Z Zq Z Z tZ_25 tP_25 Z (out:=[_,_]) Z (xS hok 10 Z (Q2j (sz:=5) (m:=1) Qb [aO] 0 Z (fun F w hφ=>⟨[.string aO.name,.int .i64 (aO.salience),.int .i64 (aO.vars),.slice aP.1.1 aO.conds.length aP.1.2,.slice aP.2.1 aO.acts.length aP.2.2],[],Z,Z,⟨((aP.1.1,aP.1.2),(aP.2.1,aP.2.2)),Z,(QZ (hφ _ (Q12 (k:=0) Z)) (QZ (hφ _ (Q12 (k:=1) Z)) Qv))⟩,Z⟩) Z (by decide) (H':=V3 ..) Z (Q1N 0 Z (H':=[_,_]) Z (Q2h (.sli 5 Qb (some ⟨bS,0,none⟩) 1 [aO]) (fun F w hφ=>Q1x (hφ _ (Q12 (k:=0) Z))) (wC [] [0,1] Z fn_12 Z (Q8P N aR aS l0 (some ⟨bS,0,none⟩) 1 [aO] aT aU l2 _ _ bQ) (asK [6,0,8] Z) Z (H':=[_,_]) Z ?_))))))))))))
 rintro _ _ _ ⟨aE,aF,aI,rfl,rfl,rfl⟩
 refine Q31 [.own 41 2 Q1Y (.slice aE aI aF) aM,_,_] (fun _ h=>h.letgo Q8e 0 Z) (Q4 (QO [2,3,4,5,6,7,8] [2,2] Z Z (xP hok 11 Z (xP hok 12 Z (xP hok 13 Z (xS hok 14 Z (wP Z (Q4 (QO [0,1,2,3,4,5,6,7,8] [] Z Z (xS hok 15 Z (wP Z (Q4 (QO [0,1,2,3,4,5,6,7,8] [] Z Z ?_)))))))))))))
 refine QR hok Z (Q3 (Q2 [11,10,9,7] (S':=V4 ..) Z (Q5 (Q1 (wP Z (Q4 (Q3 (Q5 ?_))))))))
 obtain ⟨bD,hm,hLj_2⟩:=Q6 hm
 refine QL (σ:=(List Qu) × OA × Nat × Nat) (fun (a6,a7,a8,aD)=>bD = a6) (fun (a6,a7,a8,aD)=>[(11,.int .i64 ((aN:Nat):Int)),(10,.slice aE aI aF),(12,.slice a7 aD a8)]) (fun (a6,a7,a8,aD)=>[]) (fun (a6,a7,a8,aD)=>[.own 41 2 Q1Y (.slice aE aI aF) aM,.own 41 2 Q1Y (.slice a7 aD a8) a6]) ?_ ?_
 refine Q5 (Q1 (wP Z (Q4 (Q3 (Qx (Q4C 41 2 Q1Y (Q7e [0,1,2] Z (H':=V3 ..) Z (Q1j (σ:=Nat × Nat × (List Qu) × OA × Nat × Nat) (fun (aV,z,s,a0,a1,a5)=>Q1g (Q1U N aH bA) aV (z,s) = some bD) (fun (aV,z,s,a0,a1,a5)=>aV) (fun (aV,z,s,a0,a1,a5)=>[(13,.int .i64 ((z:Nat):Int)),(12,.slice a0 a5 a1),(11,.int .i64 ((aN:Nat):Int)),(10,.slice aE aI aF),(9,.int .i64 bA),(7,.slice aJ aL aK)]) (fun (aV,z,s,a0,a1,a5)=>[]) (fun (aV,z,s,a0,a1,a5)=>[.own 41 2 Q1Y (.slice a0 a5 a1) s,.own 41 2 Q1Y (.slice aE aI aF) aM,.own 41 2 Q1Y (.slice aJ aL aK) aH]) (N,0,[],none,0,0) hm [13,12,11,10,9,7] Z (asK [] Z) Z (fun s_ hm=>?_)))))))))
 obtain ⟨aV,z,s,a0,a1,a5⟩:=s_
 try dsimp only at hm ⊢
 obtain ⟨c9,cA,bT,hq,hLu1⟩:=QU hm
 clear hm
 subst bT
 replace hm:=hq
 clear hq
 unfold Q1U at hm
 try dsimp only at hm
 refine Q5 (Q5 (Q1 (wP Z (wP Z (QP 2 Z (fun bU _=>(wN Z Q9C (Qt (d:=55) (v':=.int .i64 ((aH.length:Nat):Int)) (S':=V8 ..) Z Z (Q7Y bU) (wP Z (Qt (d:=56) (v':=.bool (decide (z < aH.length))) (S':=V9 ..) Z Z (Q2n (a:=z) (b:=aH.length)) (Q4 (Q3 (Q2 [56,13,12,11,10,9,7] (S':=V7 ..) Z ?_)))))))))))))
 refine Qs Z (fun b6=>?_) (fun b6=>?_)
 replace hm:=QH hm b6
 refine Q2 [13,12,11,10,9,7] (S':=V6 ..) Z (Qr (Q3 (Q5 ?_)))
 obtain ⟨bV,hm,hLj_3⟩:=Q6 hm
 refine QL (σ:=(List Qu) × OA × Nat × Nat) (fun (a9,aA,aB,aC)=>bV = a9) (fun (a9,aA,aB,aC)=>[(13,.int .i64 ((z:Nat):Int)),(12,.slice aA aC aB),(11,.int .i64 ((aN:Nat):Int)),(10,.slice aE aI aF),(9,.int .i64 bA),(7,.slice aJ aL aK)]) (fun (a9,aA,aB,aC)=>[]) (fun (a9,aA,aB,aC)=>[.own 41 2 Q1Y (.slice aA aC aB) a9,.own 41 2 Q1Y (.slice aE aI aF) aM,.own 41 2 Q1Y (.slice aJ aL aK) aH]) ?_ ?_
 refine Qx (Q5 (Q1 (wP Z (wP Z ?_))))
 obtain ⟨c0,bE,hm⟩:=Q6 hm
 refine Q89 2 z Z Z Z Zq Z Z Z Z Z (Q3c bE) Q9C Q9d (fun cB bW=>?_)
 subst bW
 refine wF Z tF_41_0 (Q2t Q26 2 z 0 Z Z Z Zq Z Z Z bE Q1l Q1H (v:=fun c1=>.int .i64 (c0.rule)) (fun _=>Z) (fun _=>Z) (fun c1 _=>(wP Z (wP Z (Q4 (Q3 (Q2 [65,13,12,11,10,9,7] (S':=V7 ..) Z ?_)))))))
 refine Qs Z (fun b7=>?_) (fun b7=>?_)
 replace hm:=QH hm b7
 refine Q2 [13,12,11,10,9,7] (S':=V6 ..) Z (Q1 (wP Z (wP Z (wP Z ?_))))
 obtain ⟨aW,bF,hm⟩:=Q6 hm
 refine Q8a 2 z Z Z Z Zq Z Z Z Z Z (Q3c bF) Q9C Q9d (wF Z Qat (Q2t Q26 2 z 1 Z Z Z Zq Z Z Z bF Q9E tA_39 (v:=fun aX=>.slice aX.1 aW.ids.length aX.2) (fun _=>Z) (fun _=>Z) (fun aX _=>(Q1q Z Z Z Zq Z tZ_41 tP_41 Z (out:=[_,_]) Z (QA Z Z Z Zq Z Q9C Q9d tZ_41 Z (zs:=[.int .i64 0,V1]) (by kernel_rfl) Z (out:=[_,_]) Z (fun cC=>?_))))))
 obtain ⟨bG,hm⟩:=Qe hm
 refine Q2c ([(⟨0,aW.ids⟩ : Qu)]) 1 0 Z Z Z Zq Z Z Z Z Z (fun F w hφ=>⟨[.int .i64 0,.slice aX.1 aW.ids.length aX.2],[],Z,Z,⟨(aX.1,aX.2),Z,(QZ (hφ _ (Q12 (k:=0) Z)) Qv)⟩,Z⟩) Q9C tR_41 Z Z (Nat.le_trans bG (by decide)) (Nat.le_trans (Nat.mul_le_mul_right _ bG) (by decide)) (H2:=fun bH bI=>[_,.own 41 2 Q1Y (.slice bH ((s ++ ([(⟨0,aW.ids⟩ : Qu)])).length) bI) (s ++ ([(⟨0,aW.ids⟩ : Qu)])),_,_]) (fun _ _=>Z) (fun bH bI=>(Q3q 0 Z (H':=V3 ..) Z (QT (S':=V14 ..) Z Z Z Z Z (Q4 (Qg ?_)))))
 have hE:=(Zi hm).symm
 refine Qi ((s ++ ([(⟨0,aW.ids⟩ : Qu)])),bH,bI,((s ++ ([(⟨0,aW.ids⟩ : Qu)])).length)) hE [13,12,11,10,9,7] Z (asK [] Z) Z
 replace hm:=QG hm b7
 refine Q2 [13,12,11,10,9,7] (S':=V6 ..) Z (Qr (Qg ?_))
 have hE:=(Zi hm).symm
 refine Qi (s,a0,a1,a5) hE [13,12,11,10,9,7] Z (asK [] Z) Z
 rintro ⟨a9,aA,aB,aC⟩ hE
 try dsimp only
 have hm:=hLj_3
 try rw [hE] at hm
 refine Q1 (wP Z (wP Z ?_))
 obtain ⟨bX,hm⟩:=Qe hm
 refine Qt (d:=58) (v':=.int .i64 ((z + 1:Nat):Int)) (S':=V7 ..) Z Z (Q1w (a:=z) (b:=1) bX) (QT (S':=V7 ..) Z Z Z Z Z (Q4 ?_))
 have hE:=(Zi hm).symm
 replace hE:=QI hLu1 hE
 refine QS (_,z + 1,a9,aA,aB,aC) (Nat.lt_succ_self _) hE [13,12,11,10,9,7] Z (asK [] Z) Z
 replace hm:=QG hm b6
 refine Q2 [12,11,10] (S':=V3 ..) Z (Q1f (Qj (Qj (QD ?_))))
 have hE:=(Zi hm).symm
 replace hE:=Qy hLu1 hE
 refine QC [1,0] Z (H':=[_,_]) Z ?_
 refine Qi (s,a0,a1,a5) hE [11,10,12] Z (asK [] Z) Z
 rintro ⟨a6,a7,a8,aD⟩ hE
 try dsimp only
 have hm:=hLj_2
 try rw [hE] at hm
 refine Q5 (Q1 (wP Z (wP Z (Qt (d:=76) (v':=.bool (aN == 0)) (S':=V4 ..) Z Z (Q4n (a:=aN) (b:=0)) (wP Z ?_)))))
 refine QF (d:=77) (S':=V5 ..) Z Z (fun b8=>?_) (fun b8=>?_)
 replace hm:=QH hm b8
 refine wP Z (wP Z (QP 1 Z (fun aQ _=>?_)))
 subst aQ
 refine QP 0 Z (fun b9 _=>?_)
 subst b9
 obtain ⟨cD,bY,hm⟩:=Q6 hm
 refine Q5o [] [0,1] [1,0] Z Z Z Zq Z Z fn_14 Z (Qa8 N a7 a8 a6 aE aF aM _ bY) (fun F w hφ hh=>(QZ (Q1x (hh _ (Q12 (k:=0) Z))) (QZ (Q1x (hh _ (Q12 (k:=1) Z))) Qv))) (fun _ _ _ hR=>by obtain ⟨rfl,rfl,rfl⟩:=hR; exact ⟨Z,(fun _ h=>Q3N h)⟩) Z Z (H':=[_,_]) Z ?_
 rintro _ _ _ ⟨rfl,rfl,rfl⟩
 refine wP Z (wP Z (Q4 (Q3 (Q2 [6] (S':=[_]) Z (Qo ?_)))))
 have hE:=(Zi hm).symm
 replace hE:=hE.symm
 subst hE
 refine Qp (Hr:=[]) [] Tryz.results7 (Qf Z) ⟨Z,Z,Z⟩ (asK [] Z) Z Z (.inl Z)
 replace hm:=QG hm b8
 refine wO Z (wO Z (wO Z (wP Z (wP Z (Q4 (Q3 (Q2 [6] (S':=[_]) Z (Qo ?_))))))))
 have hE:=(Zi hm).symm
 replace hE:=hE.symm
 subst hE
 refine Qp (Hr:=[]) [] Tryz.results7 (Qf Z) ⟨Z,Z,Z⟩ (asK [] Z) Z Z (.inl Z)
end Go.Proofs.YtbgodclhmgmcgaaGreatDoor
