import Derived.Test.YtbgodclhmgmcgaaGreatDoorXW9
namespace Go.Proofs.YtbgodclhmgmcgaaGreatDoor
open Go.RowKit
set_option maxRecDepth 100000
set_option maxHeartbeats 4000000
theorem w_naive_Vars_s (N:Nat) (bD:OA) (bE:Nat) (l0:List Qn) (bF:OA) (bG:Nat) (l1:List Qp) (a2:Int) (b0:OA) (b1:Nat) (l3:List Int) (aX:OA) (aY:Nat) (l4:List QU) (o2:List V) (o4:Bool) (hm:QaE N l0 l1 a2 l3 l4 = some (o2,o4)):Q1o Tryz.prog 18 [.agg #[.slice bD l0.length bE,.slice bF l1.length bG],.agg #[.int .i64 a2,.slice b0 l3.length b1],.slice aX l4.length aY] [.sli 2 Qf bD bE l0,.sli 5 Qe bF bG l1,.sli 1 Q2i b0 b1 l3,.sli 3 Q4N aX aY l4] [] (fun v Φr Hr=>∃ (o0:OA) (o1:Nat) (o3:Nat),v = .tuple #[.slice o0 o3 o1,.bool o4] ∧ Φr = [] ∧ Hr = [.own 57 3 R_V (.slice o0 o3 o1) o2]):=by
 unfold QaE at hm
 refine QD Tryz.func18 Z Tryz.ntmps18 Z (S:=V3 ..) Z (fun C=>(Q5 (Q1 (wB Z (fun g3=>(wB Z (fun g4=>(wP Z (wP Z (Q3 (Q4 (Q2 [4,3,2] (S':=V3 ..) Z (Q5 (Q5 ?_))))))))))))))
 obtain ⟨cH,hm,hLj_1⟩:=Q6 hm
 unfold Qb6 at hm
 refine QI (σ:=Bool) (fun aW=>cH = aW) (fun aW=>[(4,.pointer (some ⟨g4,0,none⟩)),(3,.pointer (some ⟨g3,0,none⟩)),(2,.slice aX l4.length aY),(38,.bool aW)]) (fun aW=>[.sli 1 Q2i b0 b1 l3,.sli 2 Qf bD bE l0,.sli 5 Qe bF bG l1,.sli 3 Q4N aX aY l4]) (fun aW=>[.blk g4 [.int .i64 a2,.slice b0 l3.length b1] 41,.blk g3 [.slice bD l0.length bE,.slice bF l1.length bG] 25]) ?_ ?_
 refine Q1 (QR 1 0 Z Z Z Zq Z Z Z (cs:=[_,_]) Z Q6R Q9r Z Z ?_)
 obtain ⟨dN,cI,hm⟩:=Q6 hm
 refine wC [] [0,1] Z fn_30 Z (Qb8 N bD bE l0 bF bG l1 _ cI) (asK [0,1] Z) Z (H':=[_,_]) Z ?_
 rintro _ _ _ ⟨rfl,rfl,rfl⟩
 refine wP Z (wP Z ?_)
 refine Qt (d:=20) (S':=V6 ..) Z Z (fun bH=>?_) (fun bH=>?_)
 replace hm:=QA hm bH
 refine wO Z (wO Z (wO Z (wO Z (wP Z (wP Z (wO Z (wO Z (wO Z (wP Z (wP Z (wO Z (wO Z (wO Z ?_)))))))))))))
 refine wO Z (wO Z (wO Z (wP Z (Q3 ?_))))
 have hE:=(Zi hm).symm
 refine Q9 true hE [4,3,2,38] Z (asK [2,0,1,3] Z) Z
 replace hm:=Qz hm bH
 refine QR 1 0 Z Z Z Zq Z Z Z (cs:=[_,_]) Z Q6R Q9r Z Z (wP Z ?_)
 obtain ⟨dO,cJ,hm⟩:=Q6 hm
 refine wC [] [0,1] Z fn_31 Z (Qba N bD bE l0 bF bG l1 aX aY l4 _ cJ) (asK [0,1,3] Z) Z (H':=[_,_]) Z ?_
 rintro _ _ _ ⟨rfl,rfl,rfl⟩
 refine wP Z (wP Z (wP Z ?_))
 refine Qt (d:=26) (S':=V12 ..) Z Z (fun bI=>?_) (fun bI=>?_)
 replace hm:=QA hm bI
 refine wO Z (wO Z (wO Z (wP Z (wP Z (wO Z (wO Z (wO Z (wO Z (wO Z (wO Z (wP Z (Q3 ?_))))))))))))
 have hE:=(Zi hm).symm
 refine Q9 true hE [4,3,2,38] Z (asK [2,0,1,3] Z) Z
 replace hm:=Qz hm bI
 refine wF Z tF_41_0 (wD 0 0 Z Q1A Q1N Z (wP Z (wP Z (wP Z ?_))))
 refine Qt (d:=31) (S':=V17 ..) Z Z (fun bJ=>?_) (fun bJ=>?_)
 replace hm:=QA hm bJ
 refine wO Z (wO Z (wO Z (wO Z (wO Z (wO Z (wP Z (Q3 ?_)))))))
 have hE:=(Zi hm).symm
 refine Q9 true hE [4,3,2,38] Z (asK [2,0,1,3] Z) Z
 replace hm:=Qz hm bJ
 refine wF Z tF_41_0 (wD 0 0 Z Q1A Q1N Z (wF Z Q6w (wD 1 1 Z Q9T tA_23 Z (wN Z Q7K (wP Z (wP Z (Q3 ?_)))))))
 have hE:=(Zi hm).symm
 refine Q9 (decide (a2 ≥ ((l1.length:Nat):Int))) hE [4,3,2,38] Z (asK [2,0,1,3] Z) Z
 rintro aW hE
 try dsimp only
 have hm:=hLj_1
 rw [hE] at hm
 refine Qj Z (fun bK=>?_) (fun bK=>?_)
 replace hm:=QA hm bK
 refine Q2 [] (S':=[]) Z (Q5 (Q1 (wP Z (wP Z (Q3 (Q4 (Qb (Q7 ?_))))))))
 have hE:=(Zi hm).symm
 obtain ⟨hE0,hE1⟩:=Prod.mk.inj hE
 clear hE
 replace hE0:=hE0.symm
 subst hE0
 replace hE1:=hE1.symm
 subst hE1
 refine Q23 57 3 R_V ?_
 refine Q1r (Hr:=[_]) [0] Tryz.results18 (Qc Z) (Qc Z) ⟨none,0,0,Z,Z,Z⟩ (asK [] Z) Z Z (.inl Z)
 replace hm:=Qz hm bK
 refine Q2 [4,3,2] (S':=V3 ..) Z (Qq (Q4 (Q5 (Q1 (wF Z Q6w (wD 1 1 Z Q9T tA_23 Z (wF Z tF_41_0 (wD 0 0 Z Q1A Q1N Z ?_))))))))
 obtain ⟨cK,hm⟩:=Qu hm
 obtain ⟨aZ,cL,hm⟩:=Q6 hm
 refine Q1F 2 a2.toNat Z Z Z Zq Z Z Z Z (Q1G cK) cL Q7K Q4W (fun dP dQ dI d3=>(Q22 Q3T 1 Z (fun b2 cM _=>?_)))
 subst cM
 refine Q21 2 0 Z Z Z Zq Z Z Z (cs:=V5 ..) Z Q4W tA_52 Z Z (QE Z Z Z Zq Z tZ_52 Z (fun g8=>(wS 0 0 Z Q4W (all':=V5 ..) Z (H':=V3 ..) Z (Q3 (Q4 (Q2 [8,4,2] (S':=V3 ..) Z (Q5 (Q1 (wF Z QaL (wD 0 2 Z Q1A Q1N Z ?_))))))))))
 obtain ⟨⟨bW,bX⟩,cN,hm⟩:=Q6 hm
 try dsimp only at hm
 refine wC [] [0,1,2] Z fn_43 Z (Q8N N aZ.vars _ _ cN) (asK [] Z) Z (H':=V3 ..) Z ?_
 rintro _ _ _ ⟨bY,bZ,c0,c1,c2,c3,rfl,rfl,rfl⟩
 refine QE Z Z Z Zq Z Q7N Z (fun g9=>(wS 0 0 Z Q2v (all':=[_,_]) Z (H':=V6 ..) Z (wP Z (Q3 (Q4 (Q2 [10,9,8,4,2] (S':=V5 ..) Z (Q5 ?_)))))))
 obtain ⟨bU,hm,hLj_2⟩:=Q1w hm
 refine QI (σ:=Nat × (List Bool) × (List V) × OA × Nat × Nat × OA × Nat × Nat) (fun (aS,aL,aM,aN,aO,aP,a7,a8,a9)=>bU = .inl (aS,aL,aM)) (fun (aS,aL,aM,aN,aO,aP,a7,a8,a9)=>[(10,.int .i64 ((aS:Nat):Int)),(9,.pointer (some ⟨g9,0,none⟩)),(4,.pointer (some ⟨g4,0,none⟩))]) (fun (aS,aL,aM,aN,aO,aP,a7,a8,a9)=>[.sli 1 Q2i b0 b1 l3]) (fun (aS,aL,aM,aN,aO,aP,a7,a8,a9)=>[.blk g9 [.slice aN aP aO,.slice a7 a9 a8] 100,.own 4 1 Q1v (.slice aN aP aO) aL,.own 57 3 R_V (.slice a7 a9 a8) aM,.blk g4 [.int .i64 a2,.slice b0 l3.length b1] 41]) ?_ ?_
 refine Q5 (Q1 (wF Z Q62 (wD 3 3 Z Q9z tA_49 Z (wN Z Q8u (wP Z (Q3 (Q4 (Q2 [51,50,49,10,9,4,2] (S':=V7 ..) Z (Qw (Q4X [0,1,2,4] Z (H':=V4 ..) Z (Q1E (σ:=Nat × Nat × Nat × (List Bool) × (List V) × OA × Nat × Nat × OA × Nat × Nat) (fun (b6,aK,aA,a0,j,a1,a5,a6,q,z,aB)=>Q1M (Q8J N aZ l4 l3) b6 (aK,aA,a0,j) = some bU) (fun (b6,aK,aA,a0,j,a1,a5,a6,q,z,aB)=>b6) (fun (b6,aK,aA,a0,j,a1,a5,a6,q,z,aB)=>[(51,.int .i64 ((aK:Nat):Int)),(50,.int .i64 ((aZ.conds.length:Nat):Int)),(49,.slice b2.1.1 aZ.conds.length b2.1.2),(10,.int .i64 ((aA:Nat):Int)),(9,.pointer (some ⟨g9,0,none⟩)),(4,.pointer (some ⟨g4,0,none⟩)),(2,.slice aX l4.length aY)]) (fun (b6,aK,aA,a0,j,a1,a5,a6,q,z,aB)=>[.sli 10 QZ b2.1.1 b2.1.2 aZ.conds,.sli 1 Q2i b0 b1 l3,.sli 3 Q4N aX aY l4]) (fun (b6,aK,aA,a0,j,a1,a5,a6,q,z,aB)=>[.blk g9 [.slice a1 a6 a5,.slice q aB z] 100,.own 4 1 Q1v (.slice a1 a6 a5) a0,.own 57 3 R_V (.slice q aB z) j,.blk g4 [.int .i64 a2,.slice b0 l3.length b1] 41]) (N,0,0,bW,bX,bY,bZ,c0,c1,c2,c3) hm [51,50,49,10,9,4,2] Z (asK [0,4,7] Z) Z (fun s_ hm=>?_))))))))))))
 obtain ⟨b6,aK,aA,a0,j,a1,a5,a6,q,z,aB⟩:=s_
 try dsimp only at hm ⊢
 obtain ⟨dR,dS,cO,hq,hLu1⟩:=Q1e hm
 clear hm
 subst cO
 replace hm:=hq
 clear hq
 unfold Q8J at hm
 try dsimp only at hm
 refine Q5 (Q1 (wP Z (QH (d:=52) (v':=.bool (decide (aK < aZ.conds.length))) (S':=V7 ..) Z Z (Q2z (a:=aK) (b:=aZ.conds.length)) (Q3 (Q4 (Q5 ?_))))))
 refine Qj Z (fun bL=>?_) (fun bL=>?_)
 replace hm:=QA hm bL
 refine Q2 [51,50,49,10,9,4,2] (S':=V7 ..) Z (Qq (Q4 (Q5 ?_)))
 obtain ⟨cP,hm,hLj_3⟩:=Q1w hm
 unfold Qb7 at hm
 refine QI (σ:=Nat × (List Bool) × (List V) × OA × Nat × Nat × OA × Nat × Nat) (fun (aU,aC,aD,aE,aF,aG,aH,aI,aJ)=>cP = .inl (aU,aC,aD)) (fun (aU,aC,aD,aE,aF,aG,aH,aI,aJ)=>[(51,.int .i64 ((aK:Nat):Int)),(50,.int .i64 ((aZ.conds.length:Nat):Int)),(49,.slice b2.1.1 aZ.conds.length b2.1.2),(10,.int .i64 ((aU:Nat):Int)),(9,.pointer (some ⟨g9,0,none⟩)),(4,.pointer (some ⟨g4,0,none⟩)),(2,.slice aX l4.length aY)]) (fun (aU,aC,aD,aE,aF,aG,aH,aI,aJ)=>[.sli 10 QZ b2.1.1 b2.1.2 aZ.conds,.sli 1 Q2i b0 b1 l3,.sli 3 Q4N aX aY l4]) (fun (aU,aC,aD,aE,aF,aG,aH,aI,aJ)=>[.blk g9 [.slice aE aG aF,.slice aH aJ aI] 100,.own 4 1 Q1v (.slice aE aG aF) aC,.own 57 3 R_V (.slice aH aJ aI) aD,.blk g4 [.int .i64 a2,.slice b0 l3.length b1] 41]) ?_ ?_
 refine Qw (Q5 (Q1 ?_))
 obtain ⟨aR,cQ,hm⟩:=Q6 hm
 refine Q1F 0 aK Z Z Z Zq Z Z Z Z Z cQ Q8u Q4A (fun dT dU dJ d4=>(Q22 Q6t 1 Z (fun b3 cR _=>?_)))
 subst cR
 refine Q21 2 0 Z Z Z Zq Z Z Z (cs:=V10 ..) Z Q4A Q9t Z Z (QE Z Z Z Zq Z Q9B Z (fun dV=>(wS 0 0 Z Q4A (all':=V10 ..) Z (H':=V5 ..) Z (Q3 (Q4 (Q2 [12,51,50,49,10,9,4,2] (S':=V8 ..) Z (Q5 (Q1 (wF Z Q9S (wD 0 0 Z tS_53 tA_53 Z (Q3 (Q4 (Q2 [56,12,51,50,49,10,9,4,2] (S':=V9 ..) Z (Qw ?_))))))))))))))
 refine Q5 (Q1 (wP Z (wP Z (Q3 (Q4 (Q2 [88,56,12,51,50,49,10,9,4,2] (S':=V10 ..) Z ?_))))))
 refine Qj Z (fun bM=>?_) (fun bM=>?_)
 replace hm:=QA hm bM
 refine Q2 [12,51,50,49,10,9,4,2] (S':=V8 ..) Z (Q5 (Q1 (wF Z tF_67_3 (QR 0 3 Z Z Z Zq Z Z Z (cs:=V7 ..) Z Q2S Q5J Z Z (wF Z Q6P (wD 1 1 Z Q7i Q7g Z (Q15 3 Z (fun aQ _=>?_))))))))
 subst aQ
 obtain ⟨⟨d5,c4,d6,bN⟩,cS,hm⟩:=Q6 hm
 try dsimp only at hm
 refine Q3g [] [0,1,2,3,4] [3] Z Z Z Zq Z Z fn_44 Z (Q7j N aR.test.kind aR.test.value.k aR.test.value.n aR.test.value.s aR.test.var aR.test.op b3.2.1 b3.2.2 aR.test.kids q z j _ _ _ _ cS) (fun F w hφ hh=>(QS (hφ _ (Q10 (k:=1) Z)) (QS (Q1K (hh _ (Q10 (k:=0) Z))) Qr))) (fun _ _ _ hR=>by obtain ⟨rfl,rfl,rfl⟩:=hR; exact ⟨Z,(fun _ h=>Q2A h)⟩) Z Z (H':=V5 ..) Z ?_
 rintro _ _ _ ⟨rfl,rfl,rfl⟩
 refine wP Z (wP Z (wP Z (QE Z Z Z Zq Z Q2Y Z (fun dW=>(wS 0 0 Z Q1H (all':=V3 ..) Z (H':=V6 ..) Z (wP Z (Q3 (Q4 (Q2 [14,13,51,50,49,10,9,4,2] (S':=V9 ..) Z (Q5 ?_))))))))))
 obtain ⟨cT,hm,hLj_4⟩:=Q6 hm
 refine QI (σ:=Bool) (fun aT=>cT = aT) (fun aT=>[(51,.int .i64 ((aK:Nat):Int)),(50,.int .i64 ((aZ.conds.length:Nat):Int)),(49,.slice b2.1.1 aZ.conds.length b2.1.2),(10,.int .i64 ((aA:Nat):Int)),(9,.pointer (some ⟨g9,0,none⟩)),(4,.pointer (some ⟨g4,0,none⟩)),(2,.slice aX l4.length aY),(109,.bool aT)]) (fun aT=>[.sli 10 QZ b2.1.1 b2.1.2 aZ.conds,.sli 1 Q2i b0 b1 l3,.sli 3 Q4N aX aY l4]) (fun aT=>[.blk g9 [.slice a1 a6 a5,.slice q j.length z] 100,.own 4 1 Q1v (.slice a1 a6 a5) a0,.own 57 3 R_V (.slice q j.length z) j,.blk g4 [.int .i64 a2,.slice b0 l3.length b1] 41]) ?_ ?_
 refine Q1 (wP Z (wP Z (QH (d:=99) (v':=.bool (bN != 0)) (S':=V10 ..) Z Z (natne (a:=bN) (b:=0)) (wP Z ?_))))
 refine Qt (d:=100) (S':=V11 ..) Z Z (fun b7=>?_) (fun b7=>?_)
 replace hm:=QA hm b7
 refine wO Z (wO Z (wO Z (wP Z (wP Z (wO Z (wO Z (wO Z (wP Z (Q3 ?_)))))))))
 have hE:=(Zi hm).symm
 refine Qs [2,3,4,5] Z (H':=V4 ..) Z ?_
 refine Q9 true hE [51,50,49,10,9,4,2,109] Z (asK [4,5,6] Z) Z
 replace hm:=Qz hm b7
 refine wF Z tF_57_0 (wD 0 0 Z tS_55 tA_55 Z (wP Z (wP Z (wP Z ?_))))
 refine Qt (d:=105) (S':=V16 ..) Z Z (fun b8=>?_) (fun b8=>?_)
 replace hm:=QA hm b8
 refine wO Z (wO Z (wO Z (wP Z (Q3 ?_))))
 have hE:=(Zi hm).symm
 refine Qs [2,3,4,5] Z (H':=V4 ..) Z ?_
 refine Q9 true hE [51,50,49,10,9,4,2,109] Z (asK [4,5,6] Z) Z
 replace hm:=Qz hm b8
 refine wF Z Q31 (wD 0 1 Z tS_2 tA_2 Z (wP Z (wP Z (Q3 ?_))))
 have hE:=(Zi hm).symm
 refine Qs [2,3,4,5] Z (H':=V4 ..) Z ?_
 refine Q9 (c4 == 0) hE [51,50,49,10,9,4,2,109] Z (asK [4,5,6] Z) Z
 rintro aT hE
 try dsimp only
 have hm:=hLj_4
 rw [hE] at hm
 refine Qj Z (fun b9=>?_) (fun b9=>?_)
 replace hm:=QA hm b9
 refine Q2 [] (S':=[]) Z (Q5 (Q1 (wP Z (wP Z (Q3 (Q4 (Qb (Qg (Qg (Q7 (Q7 (Qg (Q7 ?_)))))))))))))
 have hE:=(Zi hm).symm
 replace hE:=Qv hLj_3 hE
 replace hE:=Qv hLu1 hE
 replace hE:=Qv hLj_2 hE
 obtain ⟨hE0,hE1⟩:=Prod.mk.inj hE
 clear hE
 replace hE0:=hE0.symm
 subst hE0
 replace hE1:=hE1.symm
 subst hE1
 refine Q23 57 3 R_V ?_
 refine Q1r (Hr:=[_]) [0] Tryz.results18 (Qc Z) (Qc Z) ⟨none,0,0,Z,Z,Z⟩ (asK [] Z) Z Z (.inl Z)
 replace hm:=Qz hm b9
 refine Q2 [51,50,49,10,9,4,2] (S':=V7 ..) Z (Qq (Qh (Qh ?_)))
 have hE:=(Zi hm).symm
 refine Q9 (aA,a0,j,a1,a5,a6,q,z,j.length) hE [51,50,49,10,9,4,2] Z (asK [0,1,2] Z) Z
 replace hm:=Qz hm bM
 refine Q2 [56,12,51,50,49,10,9,4,2] (S':=V9 ..) Z (Q5 (Q1 (wP Z (wP Z (Q3 (Q4 (Q2 [110,12,51,50,49,10,9,4,2] (S':=V9 ..) Z ?_)))))))
 refine Qj Z (fun bA=>?_) (fun bA=>?_)
 replace hm:=QA hm bA
 refine Q2 [12,51,50,49,10,9,4,2] (S':=V8 ..) Z (Q5 (Q1 (QR 0 0 Z Z Z Zq Z Z Z (cs:=V10 ..) Z Q4A Q9t Z Z (QR 1 0 Z Z Z Zq Z Z Z (cs:=[_,_]) Z Q2v Q57 Z Z (wP Z (Q15 2 Z (fun aV _=>?_)))))))
 subst aV
 refine Q15 3 Z (fun aQ _=>?_)
 subst aQ
 obtain ⟨dK,c5,hm⟩:=Q6 hm
 refine Q3g [] [0,1,2,3,4] [2,3] Z Z Z Zq Z Z fn_45 Z (Q8d N aR.kind aR.type b3.1.1 b3.1.2 aR.args aR.test.kind aR.test.value.k aR.test.value.n aR.test.value.s aR.test.var aR.test.op b3.2.1 b3.2.2 aR.test.kids a1 a5 a0 q z j aX aY l4 _ c5) (fun F w hφ hh=>(QS (hφ _ (Q10 (k:=0) Z)) (QS (hφ _ (Q10 (k:=1) Z)) (QS (Q1K (hh _ (Q10 (k:=0) Z))) (QS (Q1K (hh _ (Q10 (k:=1) Z))) (QS (hφ _ (Q10 (k:=6) Z)) Qr)))))) (fun _ _ _ hR=>by obtain ⟨rfl,rfl,rfl⟩:=hR; exact ⟨Z,(fun _ h=>Q2A h)⟩) Z Z (H':=V5 ..) Z ?_
 rintro _ _ _ ⟨rfl,rfl,rfl⟩
 refine Q3 (Q4 (Q2 [115,51,50,49,10,9,4,2] (S':=V8 ..) Z ?_))
 refine Qj Z (fun bB=>?_) (fun bB=>?_)
 replace hm:=QA hm bB
 refine Q2 [] (S':=[]) Z (Q5 (Q1 (wP Z (wP Z (Q3 (Q4 (Qb (Qg (Qg (Q7 (Q7 (Qg (Q7 ?_)))))))))))))
 have hE:=(Zi hm).symm
 replace hE:=Qv hLj_3 hE
 replace hE:=Qv hLu1 hE
 replace hE:=Qv hLj_2 hE
 obtain ⟨hE0,hE1⟩:=Prod.mk.inj hE
 clear hE
 replace hE0:=hE0.symm
 subst hE0
 replace hE1:=hE1.symm
 subst hE1
 refine Q23 57 3 R_V ?_
 refine Q1r (Hr:=[_]) [0] Tryz.results18 (Qc Z) (Qc Z) ⟨none,0,0,Z,Z,Z⟩ (asK [] Z) Z Z (.inl Z)
 replace hm:=Qz hm bB
 refine Q2 [51,50,49,10,9,4,2] (S':=V7 ..) Z (Qq (Qh (Qh ?_)))
 have hE:=(Zi hm).symm
 refine Qs [1,2,3,4] Z (H':=V4 ..) Z ?_
 refine Q9 (aA,a0,j,a1,a5,a0.length,q,z,j.length) hE [51,50,49,10,9,4,2] Z (asK [4,5,6] Z) Z
 replace hm:=Qz hm bA
 refine Q2 [12,51,50,49,10,9,4,2] (S':=V8 ..) Z (Q5 (Q5 (Q1 (wP Z (wF Z tF_41_1 (wD 4 1 Z tS_39 tA_39 Z (wN Z Q71 (wP Z (QH (d:=61) (v':=.bool (decide (l3.length ≤ aA))) (S':=V12 ..) Z Z (natge (a:=aA) (b:=l3.length)) (Q3 (Q4 (Q2 [61,12,51,50,49,10,9,4,2] (S':=V9 ..) Z ?_))))))))))))
 refine Qj Z (fun bO=>?_) (fun bO=>?_)
 replace hm:=QA hm bO
 refine Q2 [] (S':=[]) Z (Q5 (Q1 (wP Z (wP Z (Q3 (Q4 (Qb (Q7 (Qg (Qg (Q7 (Q7 (Qg ?_)))))))))))))
 refine Q7 ?_
 have hE:=(Zi hm).symm
 replace hE:=Qv hLj_3 hE
 replace hE:=Qv hLu1 hE
 replace hE:=Qv hLj_2 hE
 obtain ⟨hE0,hE1⟩:=Prod.mk.inj hE
 clear hE
 replace hE0:=hE0.symm
 subst hE0
 replace hE1:=hE1.symm
 subst hE1
 refine Q23 57 3 R_V ?_
 refine Q1r (Hr:=[_]) [0] Tryz.results18 (Qc Z) (Qc Z) ⟨none,0,0,Z,Z,Z⟩ (asK [] Z) Z Z (.inl Z)
 replace hm:=Qz hm bO
 refine Q2 [12,51,50,49,10,9,4,2] (S':=V8 ..) Z (Qq (Q4 (Q5 (Q1 (wP Z (wF Z tF_41_1 (wD 4 1 Z tS_39 tA_39 Z (wP Z ?_))))))))
 obtain ⟨d7,cU,hm⟩:=Q6 hm
 refine Q1F 5 aA Z Z Z Zq Z Z Z Z Z cU Q71 Q1A (fun dX dY dL d8=>(Q22 R_i64_opens 1 Z (fun dZ cV _=>?_)))
 subst cV
 refine Q21 0 0 Z Z Z Zq Z Z Z (cs:=[_]) Z Q1A Q1N Z Z ?_
 obtain ⟨⟨c6,d9⟩,cW,hm⟩:=Q6 hm
 try dsimp only at hm
 refine wC [] [0,1,2,3,4] Z fn_46 Z (Q7T N aX aY l4 d7 _ _ cW) (asK [8] Z) Z (H':=V5 ..) Z ?_
 rintro _ _ _ ⟨rfl,rfl,rfl⟩
 refine wP Z (wP Z (wP Z (wP Z (wP Z (Q3 (Q4 (Q2 [16,15,12,51,50,49,10,9,4,2] (S':=V10 ..) Z (Q5 (Q5 (Q1 (wP Z (wP Z (Q3 ?_)))))))))))))
 refine Q4 (Q2 [73,15,12,51,50,49,10,9,4,2] (S':=V10 ..) Z ?_)
 refine Qj Z (fun bP=>?_) (fun bP=>?_)
 replace hm:=QA hm bP
 refine Q2 [] (S':=[]) Z (Q5 (Q1 (wP Z (wP Z (Q3 (Q4 (Qb (Q7 (Qg (Qg (Q7 (Q7 (Qg ?_)))))))))))))
 refine Q7 ?_
 have hE:=(Zi hm).symm
 replace hE:=Qv hLj_3 hE
 replace hE:=Qv hLu1 hE
 replace hE:=Qv hLj_2 hE
 obtain ⟨hE0,hE1⟩:=Prod.mk.inj hE
 clear hE
 replace hE0:=hE0.symm
 subst hE0
 replace hE1:=hE1.symm
 subst hE1
 refine Q23 57 3 R_V ?_
 refine Q1r (Hr:=[_]) [0] Tryz.results18 (Qc Z) (Qc Z) ⟨none,0,0,Z,Z,Z⟩ (asK [] Z) Z Z (.inl Z)
 replace hm:=Qz hm bP
 refine Q2 [15,12,51,50,49,10,9,4,2] (S':=V9 ..) Z (Qq (Q4 (Q5 (Q5 ?_))))
 obtain ⟨cX,hm⟩:=Qu hm
 obtain ⟨c7,cY,hm⟩:=Q6 hm
 obtain ⟨⟨c8,c9,dA⟩,cZ,hm⟩:=Q6 hm
 try dsimp only at hm
 refine Q18 [0,1,2,3,4,5,7,8,9] Z Z (fun hok=>(Qm hok 0 0 0 Z Z Z Zq Z Z Z Z (cs:=V10 ..) Z Q4A Q9t Z Z (xP hok 1 Z (xP hok 2 Z (Q4L hok 3 8 c6.toNat Z Z Z Zq Z Z Z Z Z (Q1G cX) cY Q7A Q4s (fun e0 e1 dM dB=>(Q6c Q74 1 Z (fun d0 d1 _=>?_))))))))
 subst d1
 refine Q7n hok 4 1 0 Z Z Z Zq Z Z Z Z (cs:=V3 ..) Z Q4s tA_71 Z Z (Qm hok 5 1 0 Z Z Z Zq Z Z Z Z (cs:=[_,_]) Z Q2v Q57 Z Z (xS hok 6 Z (Q15 2 Z (fun aV _=>?_))))
 subst aV
 refine Q15 3 Z (fun aQ _=>?_)
 subst aQ
 refine Q3g [] [0,1,2,3,4] [2,3] Z Z Z Zq Z Z fn_49 Z (Q6x N aR.kind aR.type b3.1.1 b3.1.2 aR.args aR.test.kind aR.test.value.k aR.test.value.n aR.test.value.s aR.test.var aR.test.op b3.2.1 b3.2.2 aR.test.kids c7.id c7.ty d0.1 d0.2 c7.args a1 a5 a0 q z j _ _ _ cZ) (fun F w hφ hh=>(QS (hφ _ (Q10 (k:=5) Z)) (QS (hφ _ (Q10 (k:=6) Z)) (QS (hφ _ (Q10 (k:=0) Z)) (QS (Q1K (hh _ (Q10 (k:=0) Z))) (QS (Q1K (hh _ (Q10 (k:=1) Z))) Qr)))))) (fun _ _ _ hR=>by obtain ⟨_,_,_,_,_,_,rfl,rfl,rfl⟩:=hR; exact ⟨Z,(Q80 (Q9n Q7v) (Q80 (Q9n Q7v) (fun _ h=>Q2A h)))⟩) Z Z (H':=V5 ..) Z ?_
 rintro _ _ _ ⟨cA,cB,cC,cD,cE,cF,rfl,rfl,rfl⟩
 refine Q3 (QV [0,1,2,3,4,5,6,7,8,9,10,11] [] Z Z (xP hok 7 Z (xP hok 8 Z (xP hok 9 Z (xS hok 10 Z (wS 3 0 Z Q2v (all':=[_,_]) Z (H':=V7 ..) Z (Q3 (QV [0,1,2,3,4,5,6,7,8,9,10,11] [] Z Z (xS hok 11 Z (wP Z (Q3 (QV [0,1,2,3,4,5,6,7,8,9,10,11] [] Z Z (Q11 hok Z ?_)))))))))))))
 refine Q4 (Q2 [16,51,50,49,10,9,4,2] (S':=V8 ..) Z (Q5 (Q1 (wP Z (wP Z (Q3 (Q4 (Q2 [85,51,50,49,10,9,4,2] (S':=V8 ..) Z ?_))))))))
 refine Qj Z (fun bQ=>?_) (fun bQ=>?_)
 replace hm:=QA hm bQ
 refine Q2 [] (S':=[]) Z (Q5 (Q1 (wP Z (wP Z (Q3 (Q4 (Qb (Q7 (Qg (Qg (Q7 (Q7 (Qg ?_)))))))))))))
 refine Q7 ?_
 have hE:=(Zi hm).symm
 replace hE:=Qv hLj_3 hE
 replace hE:=Qv hLu1 hE
 replace hE:=Qv hLj_2 hE
 obtain ⟨hE0,hE1⟩:=Prod.mk.inj hE
 clear hE
 replace hE0:=hE0.symm
 subst hE0
 replace hE1:=hE1.symm
 subst hE1
 refine Q23 57 3 R_V ?_
 refine Q1r (Hr:=[_]) [0] Tryz.results18 (Qc Z) (Qc Z) ⟨none,0,0,Z,Z,Z⟩ (asK [] Z) Z Z (.inl Z)
 replace hm:=Qz hm bQ
 refine Q2 [51,50,49,10,9,4,2] (S':=V7 ..) Z (Qq (Q4 (Q1 (wP Z (wP Z ?_)))))
 obtain ⟨d2,hm⟩:=Qu hm
 refine QH (d:=87) (v':=.int .i64 ((aA + 1:Nat):Int)) (S':=V8 ..) Z Z (Q1J (a:=aA) (b:=1) d2) (Q1b (S':=V8 ..) Z Z Z Z Z (Q3 (Qh (Qh ?_))))
 have hE:=(Zi hm).symm
 refine Qs [3,0,1,6] Z (H':=V4 ..) Z ?_
 refine Q9 (aA + 1,c8,c9,cA,cB,cC,cD,cE,cF) hE [51,50,49,10,9,4,2] Z (asK [9,10,11] Z) Z
 rintro ⟨aU,aC,aD,aE,aF,aG,aH,aI,aJ⟩ hE
 try dsimp only
 have hm:=QO hLj_3 hE
 try dsimp only at hm
 refine Q1 (wP Z ?_)
 obtain ⟨cG,hm⟩:=Qu hm
 refine QH (d:=116) (v':=.int .i64 ((aK + 1:Nat):Int)) (S':=V7 ..) Z Z (Q1J (a:=aK) (b:=1) cG) (Q1b (S':=V7 ..) Z Z Z Z Z (Q3 ?_))
 have hE:=(Zi hm).symm
 replace hE:=QO hLu1 hE
 refine Q1a (_,aK + 1,aU,aC,aD,aE,aF,aG,aH,aI,aJ) (Nat.lt_succ_self _) hE [51,50,49,10,9,4,2] Z (asK [0,1,2] Z) Z
 replace hm:=Qz hm bL
 refine Q2 [10,9,4] (S':=V3 ..) Z (Q1x (Qk (Qk (QJ ?_))))
 have hE:=(Zi hm).symm
 replace hE:=Qv hLu1 hE
 refine Q9 (aA,a0,j,a1,a5,a6,q,z,aB) hE [10,9,4] Z (asK [1] Z) Z
 rintro ⟨aS,aL,aM,aN,aO,aP,a7,a8,a9⟩ hE
 try dsimp only
 have hm:=QO hLj_2 hE
 try dsimp only at hm
 refine Q5 (Q5 (Q1 (wP Z (wF Z tF_41_1 (wD 3 1 Z tS_39 tA_39 Z (wN Z Q71 (wP Z (QH (d:=121) (v':=.bool (decide (aS < l3.length))) (S':=V7 ..) Z Z (Q2z (a:=aS) (b:=l3.length)) (Q3 (Q4 (Q2 [121,9] (S':=[_,_]) Z ?_)))))))))))
 refine Qj Z (fun bC=>?_) (fun bC=>?_)
 replace hm:=QA hm bC
 refine Q2 [] (S':=[]) Z (Q5 (Q1 (wP Z (wP Z (Q3 (Q4 (Qb (Q7 ?_))))))))
 have hE:=(Zi hm).symm
 obtain ⟨hE0,hE1⟩:=Prod.mk.inj hE
 clear hE
 replace hE0:=hE0.symm
 subst hE0
 replace hE1:=hE1.symm
 subst hE1
 refine Q23 57 3 R_V ?_
 refine Q1r (Hr:=[_]) [0] Tryz.results18 (Qc Z) (Qc Z) ⟨none,0,0,Z,Z,Z⟩ (asK [] Z) Z Z (.inl Z)
 replace hm:=Qz hm bC
 refine Q2 [9] (S':=[_]) Z (Qq (Q4 (Q5 (Q1 (wF Z Q6P (wD 0 1 Z Q7i Q7g Z (wP Z (wP Z (Q3 (Q4 (Q2 [7,6] (S':=[_,_]) Z (Qb ?_))))))))))))
 have hE:=(Zi hm).symm
 obtain ⟨hE0,hE1⟩:=Prod.mk.inj hE
 clear hE
 replace hE0:=hE0.symm
 subst hE0
 replace hE1:=hE1.symm
 subst hE1
 refine Q1r (Hr:=[_]) [2] Tryz.results18 (Qc Z) (Qc Z) ⟨a7,a8,a9,Z,Z,Z⟩ (asK [] Z) Z Z (.inl Z)
theorem Qas (N:Nat)  (o0:Bool) (hm:Q4v N = some o0):Q1o Tryz.prog 8 [] [] [] (fun v Φr Hr=>v = .bool o0 ∧ Φr = [] ∧ Hr = []):=by
 unfold Q4v at hm
 refine QD Tryz.func8 Z Tryz.ntmps8 Z (S:=[]) Z (fun C=>(Q5 (Q1 (wP Z (Q3 (Q4 (Q2 [] (S':=[]) Z (Q5 (Q1 ?_)))))))))
 obtain ⟨⟨b0,b1⟩,c0,hm⟩:=Q6 hm
 try dsimp only at hm
 refine wC [] [] Z fn_24 Z (Q4G N _ _ c0) (asK [] Z) Z (H':=[]) Z ?_
 rintro _ _ _ ⟨bJ,bK,c8,bL,bM,c9,rfl,rfl,rfl⟩
 obtain ⟨_,c1,hm⟩:=Q6 hm
 try dsimp only at hm
 refine wC [] [0,1] Z fn_21 Z (Q20 N 1 1 1 c1) (asK [] Z) Z (H':=[_,_]) Z ?_
 rintro _ _ _ ⟨aC,rfl,rfl,rfl⟩
 obtain ⟨_,c2,hm⟩:=Q6 hm
 try dsimp only at hm
 refine wC [] [0,1,2] Z fn_21 Z (Q20 N 2 1 2 c2) (asK [] Z) Z (H':=V3 ..) Z ?_
 rintro _ _ _ ⟨aD,rfl,rfl,rfl⟩
 refine Qy Z Z Z Zq Z Q7A Q4s tZ_71 Z (zs:=[.int .i64 0,.int .i64 0,V1,.int .i64 0,.int .i64 0,V1]) (by kernel_rfl) Z (out:=V6 ..) Z (fun g9=>(Q2f (sz:=3) (m:=2) R_V ([(⟨1,1,(⟨#[]⟩ : ByteArray)⟩ : V),(⟨1,1,(⟨#[]⟩ : ByteArray)⟩ : V)]) 2 Z (fun F w hφ=>⟨[.int .u8 1,.int .i64 1,.string ((⟨#[]⟩ : ByteArray))],[.int .u8 1,.int .i64 1,.string ((⟨#[]⟩ : ByteArray))],Z,Z,⟨(),Z,Qr⟩,⟨[.int .u8 1,.int .i64 1,.string ((⟨#[]⟩ : ByteArray))],[],Z,Z,⟨(),Z,Qr⟩,Z⟩⟩) Z (by decide) (H':=V5 ..) Z (Q2f (sz:=3) (m:=2) R_V ([(⟨1,1,(⟨#[]⟩ : ByteArray)⟩ : V),(⟨1,2,(⟨#[]⟩ : ByteArray)⟩ : V)]) 1 Z (fun F w hφ=>⟨[.int .u8 1,.int .i64 1,.string ((⟨#[]⟩ : ByteArray))],[.int .u8 1,.int .i64 2,.string ((⟨#[]⟩ : ByteArray))],Z,Z,⟨(),Z,Qr⟩,⟨[.int .u8 1,.int .i64 2,.string ((⟨#[]⟩ : ByteArray))],[],Z,Z,⟨(),Z,Qr⟩,Z⟩⟩) Z (by decide) (H':=V5 ..) Z (Q2f (sz:=3) (m:=2) QM.pair ([((⟨1,0,[(⟨1,1,(⟨#[]⟩ : ByteArray)⟩ : V),(⟨1,1,(⟨#[]⟩ : ByteArray)⟩ : V)]⟩ : QU),(some (⟨aC,0,none⟩ : Addr),2)),((⟨2,0,[(⟨1,1,(⟨#[]⟩ : ByteArray)⟩ : V),(⟨1,2,(⟨#[]⟩ : ByteArray)⟩ : V)]⟩ : QU),(some (⟨aD,0,none⟩ : Addr),2))]) 0 Z (fun F w hφ=>⟨[.int .i64 1,.int .i64 0,.slice (some ⟨aC,0,none⟩) 2 2],[.int .i64 2,.int .i64 0,.slice (some ⟨aD,0,none⟩) 2 2],Z,Z,Z,⟨[.int .i64 2,.int .i64 0,.slice (some ⟨aD,0,none⟩) 2 2],[],Z,Z,Z,Z⟩⟩) Z (by decide) (H':=V5 ..) Z (Q3A [Q2L QM [] none,_,_,_,_,_] (fun _ h=>h.bagNil QM) (Q4z [3,0,1,2,4,5] Z (H':=V6 ..) Z (Q3A [Q2L QM ([((⟨1,0,[(⟨1,1,(⟨#[]⟩ : ByteArray)⟩ : V),(⟨1,1,(⟨#[]⟩ : ByteArray)⟩ : V)]⟩ : QU),(some (⟨aC,0,none⟩ : Addr),2))]) none,_,_,_,_] (fun _ h=>Q1j.bagPush (T:=QM) (x:=(⟨1,0,[(⟨1,1,(⟨#[]⟩ : ByteArray)⟩ : V),(⟨1,1,(⟨#[]⟩ : ByteArray)⟩ : V)]⟩ : QU)) (r:=(some (⟨aC,0,none⟩ : Addr),2)) (zs:=[]) (H:=V5 ..) h 0 Z) (Q4z [2,0,1,3,4] Z (H':=V5 ..) Z (Q3A [Q2L QM (([((⟨1,0,[(⟨1,1,(⟨#[]⟩ : ByteArray)⟩ : V),(⟨1,1,(⟨#[]⟩ : ByteArray)⟩ : V)]⟩ : QU),(some (⟨aC,0,none⟩ : Addr),2))]) ++ [((⟨2,0,[(⟨1,1,(⟨#[]⟩ : ByteArray)⟩ : V),(⟨1,2,(⟨#[]⟩ : ByteArray)⟩ : V)]⟩ : QU),(some (⟨aD,0,none⟩ : Addr),2))]) none,_,_,_] (fun _ h=>Q1j.bagPush (T:=QM) (x:=(⟨2,0,[(⟨1,1,(⟨#[]⟩ : ByteArray)⟩ : V),(⟨1,2,(⟨#[]⟩ : ByteArray)⟩ : V)]⟩ : QU)) (r:=(some (⟨aD,0,none⟩ : Addr),2)) (zs:=[((⟨1,0,[(⟨1,1,(⟨#[]⟩ : ByteArray)⟩ : V),(⟨1,1,(⟨#[]⟩ : ByteArray)⟩ : V)]⟩ : QU),(some (⟨aC,0,none⟩ : Addr),2))]) (H:=V4 ..) h 0 Z) (Q8V 0 (φ':=Q2L QM ([((⟨1,0,[(⟨1,1,(⟨#[]⟩ : ByteArray)⟩ : V),(⟨1,1,(⟨#[]⟩ : ByteArray)⟩ : V)]⟩ : QU),(some (⟨aC,0,none⟩ : Addr),2)),((⟨2,0,[(⟨1,1,(⟨#[]⟩ : ByteArray)⟩ : V),(⟨1,2,(⟨#[]⟩ : ByteArray)⟩ : V)]⟩ : QU),(some (⟨aD,0,none⟩ : Addr),2))]) none) Z Z (H':=V4 ..) Z (Q3A [Q2d QM 71 3 (.slice (some ⟨g9,0,none⟩) 2 2) ([(⟨1,0,[(⟨1,1,(⟨#[]⟩ : ByteArray)⟩ : V),(⟨1,1,(⟨#[]⟩ : ByteArray)⟩ : V)]⟩ : QU),(⟨2,0,[(⟨1,1,(⟨#[]⟩ : ByteArray)⟩ : V),(⟨1,2,(⟨#[]⟩ : ByteArray)⟩ : V)]⟩ : QU)]),_,_] (fun _ h=>h.treeIn 1 0 Z Z Z Z) (Q15 1 Z (fun aY _=>?_)))))))))))))
 subst aY
 refine Q15 2 Z (fun aZ _=>?_)
 subst aZ
 refine Q3h 0 Z (fun b2 _=>(wl_at 0 (v':=.slice (some ⟨g9,0,none⟩) ([(⟨1,0,[(⟨1,1,(⟨#[]⟩ : ByteArray)⟩ : V),(⟨1,1,(⟨#[]⟩ : ByteArray)⟩ : V)]⟩ : QU),(⟨2,0,[(⟨1,1,(⟨#[]⟩ : ByteArray)⟩ : V),(⟨1,2,(⟨#[]⟩ : ByteArray)⟩ : V)]⟩ : QU)].length) 2) Z (by rw [b2]) (Q8V 0 (φ':=Q2d QM 71 3 (.slice (some ⟨g9,0,none⟩) ([(⟨1,0,[(⟨1,1,(⟨#[]⟩ : ByteArray)⟩ : V),(⟨1,1,(⟨#[]⟩ : ByteArray)⟩ : V)]⟩ : QU),(⟨2,0,[(⟨1,1,(⟨#[]⟩ : ByteArray)⟩ : V),(⟨1,2,(⟨#[]⟩ : ByteArray)⟩ : V)]⟩ : QU)].length) 2) ([(⟨1,0,[(⟨1,1,(⟨#[]⟩ : ByteArray)⟩ : V),(⟨1,1,(⟨#[]⟩ : ByteArray)⟩ : V)]⟩ : QU),(⟨2,0,[(⟨1,1,(⟨#[]⟩ : ByteArray)⟩ : V),(⟨1,2,(⟨#[]⟩ : ByteArray)⟩ : V)]⟩ : QU)])) Z (by rw [b2]) (H':=V3 ..) Z ?_)))
 obtain ⟨⟨aF,aI⟩,bN,hm⟩:=Q6 hm
 try dsimp only at hm
 refine wC [1,2,0] [] Z fn_12 Z (Q94 N bJ b0.length bK b0 bL b1.length bM b1 (some ⟨g9,0,none⟩) ([(⟨1,0,[(⟨1,1,(⟨#[]⟩ : ByteArray)⟩ : V),(⟨1,1,(⟨#[]⟩ : ByteArray)⟩ : V)]⟩ : QU),(⟨2,0,[(⟨1,1,(⟨#[]⟩ : ByteArray)⟩ : V),(⟨1,2,(⟨#[]⟩ : ByteArray)⟩ : V)]⟩ : QU)].length) 2 [(⟨1,0,[(⟨1,1,(⟨#[]⟩ : ByteArray)⟩ : V),(⟨1,1,(⟨#[]⟩ : ByteArray)⟩ : V)]⟩ : QU),(⟨2,0,[(⟨1,1,(⟨#[]⟩ : ByteArray)⟩ : V),(⟨1,2,(⟨#[]⟩ : ByteArray)⟩ : V)]⟩ : QU)] _ _ bN) (asK [] Z) Z (H':=[]) Z ?_
 rintro _ _ _ ⟨aJ,aK,aL,rfl,rfl,rfl⟩
 refine wP Z (wP Z (wP Z (wP Z (wP Z (Q3 (Q4 (Q2 [2,1] (S':=[_,_]) Z (Q5 (Q5 ?_)))))))))
 obtain ⟨bO,hm,hLj_1⟩:=Q6 hm
 unfold Q79 at hm
 refine QI (σ:=Bool) (fun a7=>bO = a7) (fun a7=>[(1,.slice aJ aL aK),(36,.bool a7)]) (fun a7=>[]) (fun a7=>[.own 41 2 Q12 (.slice aJ aL aK) aF]) ?_ ?_
 refine Q1 (wP Z (wP Z (QH (d:=14) (v':=.bool (aI != 0)) (S':=V3 ..) Z Z (natne (a:=aI) (b:=0)) (wP Z ?_))))
 refine Qt (d:=15) (S':=V4 ..) Z Z (fun aM=>?_) (fun aM=>?_)
 replace hm:=QA hm aM
 refine wO Z (wO Z (wO Z (wP Z (wP Z (wO Z (wO Z (wO Z (wO Z (wO Z (wO Z (wP Z (wP Z (wO Z ?_)))))))))))))
 refine wO Z (wO Z (wO Z (wO Z (wO Z (wO Z (wP Z (Q3 ?_)))))))
 have hE:=(Zi hm).symm
 refine Qs [0] Z (H':=[_]) Z ?_
 refine Q9 true hE [1,36] Z (asK [] Z) Z
 replace hm:=Qz hm aM
 refine wP Z (Q15 0 Z (fun bP _=>(wN Z tE_31 (QH (d:=17) (v':=.int .i64 ((aF.length:Nat):Int)) (S':=V6 ..) Z Z (Q4Y bP) (wP Z (QH (d:=18) (v':=.bool (aF.length != 2)) (S':=V7 ..) Z Z (natne (a:=aF.length) (b:=2)) (wP Z (wP Z ?_))))))))
 refine Qt (d:=20) (S':=V9 ..) Z Z (fun aN=>?_) (fun aN=>?_)
 replace hm:=QA hm aN
 refine wO Z (wO Z (wO Z (wO Z (wO Z (wO Z (wP Z (wP Z (wO Z (wO Z (wO Z (wO Z (wO Z (wO Z ?_)))))))))))))
 refine wO Z (wP Z (Q3 ?_))
 have hE:=(Zi hm).symm
 refine Qs [0] Z (H':=[_]) Z ?_
 refine Q9 true hE [1,36] Z (asK [] Z) Z
 replace hm:=Qz hm aN
 refine wP Z ?_
 obtain ⟨b8,b3,hm⟩:=Q6 hm
 refine Q5D 0 1 Z Z Z Zq Z Z Z Z Z (Q2t b3) tE_31 tS_41 (fun cB bQ=>?_)
 subst bQ
 refine wF Z tF_41_1 (Q1T Q2U 0 1 1 Z Z Z Zq Z Z Z b3 tS_39 tA_39 (v:=fun b9=>.slice b9.1 b8.ids.length b9.2) (fun _=>Z) (fun _=>Z) (fun b9 _=>(wN Z Q71 (wP Z (QH (d:=26) (v':=.bool (b8.ids.length != 2)) (S':=V15 ..) Z Z (natne (a:=b8.ids.length) (b:=2)) (wP Z (wP Z ?_)))))))
 refine Qt (d:=28) (S':=V17 ..) Z Z (fun aO=>?_) (fun aO=>?_)
 replace hm:=QA hm aO
 refine wO Z (wO Z (wO Z (wO Z (wO Z (wO Z (wO Z (wP Z (Q3 ?_))))))))
 have hE:=(Zi hm).symm
 refine Qs [0] Z (H':=[_]) Z ?_
 refine Q9 true hE [1,36] Z (asK [] Z) Z
 replace hm:=Qz hm aO
 refine wP Z ?_
 obtain ⟨c3,b4,hm⟩:=Q6 hm
 refine Q6X 0 1 Z Z Z Zq Z Z Z Z Z (Q2t b4) tE_31 tS_41 (wF Z tF_41_1 (Q1T Q2U 0 1 1 Z Z Z Zq Z Z Z b4 tS_39 tA_39 (v:=fun bA=>.slice bA.1 c3.ids.length bA.2) (fun _=>Z) (fun _=>Z) (fun bA _=>?_)))
 obtain ⟨c4,bR,hm⟩:=Q6 hm
 refine Q1F 0 1 Z Z Z Zq Z Z Z Z Z bR Q71 Q1A (fun cC cD cA c5=>(Q22 R_i64_opens 1 Z (fun cE bS _=>?_)))
 subst bS
 refine Q21 0 0 Z Z Z Zq Z Z Z (cs:=[_]) Z Q1A Q1N Z Z (wP Z (wP Z (Q3 ?_)))
 have hE:=(Zi hm).symm
 refine Qs [0] Z (H':=[_]) Z ?_
 refine Q9 (c4 != 2) hE [1,36] Z (asK [] Z) Z
 rintro a7 hE
 try dsimp only
 have hm:=hLj_1
 rw [hE] at hm
 refine Qj Z (fun aP=>?_) (fun aP=>?_)
 replace hm:=QA hm aP
 refine Q2 [] (S':=[]) Z (Q5 (Q1 (wP Z (Q3 (Q4 (Qb (Q7 ?_)))))))
 have hE:=(Zi hm).symm
 replace hE:=hE.symm
 subst hE
 refine Ql (Hr:=[]) [] Tryz.results8 (Qc Z) ⟨Z,Z,Z⟩ (asK [] Z) Z Z (.inl Z)
 replace hm:=Qz hm aP
 refine Q2 [1] (S':=[_]) Z (Qq (Q4 (Q5 ?_)))
 obtain ⟨⟨bB,bC⟩,b5,hm⟩:=Q6 hm
 try dsimp only at hm
 obtain ⟨aB,aE,hm⟩:=Q6 hm
 obtain ⟨_,aQ,hm⟩:=Q6 hm
 try dsimp only at hm
 obtain ⟨_,aH,hm⟩:=Q6 hm
 try dsimp only at hm
 obtain ⟨⟨aG,bD⟩,bT,hm⟩:=Q6 hm
 try dsimp only at hm
 refine QI (σ:=OA × Nat × Nat) (fun _=>True) (fun (a1,a5,a6)=>[(4,.bool bD),(3,.slice a1 a6 a5)]) (fun (a1,a5,a6)=>[]) (fun (a1,a5,a6)=>[.own 57 3 R_V (.slice a1 a6 a5) aG]) ?_ ?_
 ·
  refine Q18 [1,2,8,9,10] Z Z (fun hok=>(xP hok 1 Z (Q4M hok 2 0 1 Z Z Z Zq Z Z Z Z Z Z (Q2t aE) tE_31 tS_41 (fun cF bU=>?_))))
  subst bU
  refine Q3n hok 0 3 Z Z Z Z Z Z ?_ ?_
  rotate_left
  focus
   refine Q1T Q2U 0 1 0 Z Z Z Zq Z Z Z aE tS_41 tA_41 (v:=fun a0=>.agg #[.int .i64 (aB.rule),.slice a0.1 aB.ids.length a0.2]) (fun _=>Z) (fun _=>Z) (fun a0 _=>(Q3 (QV [] [] Z Z (xS hok 0 Z (wC [] [0] Z fn_24 Z (Q4G N _ _ b5) (asK [] Z) Z (H':=[_]) Z ?_)))))
   rintro _ _ _ ⟨aR,aS,bE,aT,aU,bF,rfl,rfl,rfl⟩
   refine Q3 (QV [0] [] Z Z (xS hok 4 Z (wC [] [0,1,2] Z fn_21 Z (Q20 N 1 1 1 aQ) (asK [] Z) Z (H':=V3 ..) Z ?_)))
   rintro _ _ _ ⟨j,rfl,rfl,rfl⟩
   refine Q3 (QV [0] [] Z Z (xS hok 5 Z (wC [] [0,1,2,3] Z fn_21 Z (Q20 N 2 1 2 aH) (asK [] Z) Z (H':=V4 ..) Z ?_)))
   rintro _ _ _ ⟨q,rfl,rfl,rfl⟩
   refine Q3 (QV [0] [] Z Z (xS hok 6 Z (Qy Z Z Z Zq Z Q7A Q4s tZ_71 Z (zs:=[.int .i64 0,.int .i64 0,V1,.int .i64 0,.int .i64 0,V1]) (by kernel_rfl) Z (out:=V6 ..) Z (fun a8=>(Q3 (QV [0] [] Z Z (xS hok 7 Z (Q2f (sz:=3) (m:=2) R_V ([(⟨1,1,(⟨#[]⟩ : ByteArray)⟩ : V),(⟨1,1,(⟨#[]⟩ : ByteArray)⟩ : V)]) 2 Z (fun F w hφ=>⟨[.int .u8 1,.int .i64 1,.string ((⟨#[]⟩ : ByteArray))],[.int .u8 1,.int .i64 1,.string ((⟨#[]⟩ : ByteArray))],Z,Z,⟨(),Z,Qr⟩,⟨[.int .u8 1,.int .i64 1,.string ((⟨#[]⟩ : ByteArray))],[],Z,Z,⟨(),Z,Qr⟩,Z⟩⟩) Z (by decide) (H':=V6 ..) Z (Q2f (sz:=3) (m:=2) R_V ([(⟨1,1,(⟨#[]⟩ : ByteArray)⟩ : V),(⟨1,2,(⟨#[]⟩ : ByteArray)⟩ : V)]) 1 Z (fun F w hφ=>⟨[.int .u8 1,.int .i64 1,.string ((⟨#[]⟩ : ByteArray))],[.int .u8 1,.int .i64 2,.string ((⟨#[]⟩ : ByteArray))],Z,Z,⟨(),Z,Qr⟩,⟨[.int .u8 1,.int .i64 2,.string ((⟨#[]⟩ : ByteArray))],[],Z,Z,⟨(),Z,Qr⟩,Z⟩⟩) Z (by decide) (H':=V6 ..) Z (Q2f (sz:=3) (m:=2) QM.pair ([((⟨1,0,[(⟨1,1,(⟨#[]⟩ : ByteArray)⟩ : V),(⟨1,1,(⟨#[]⟩ : ByteArray)⟩ : V)]⟩ : QU),(some (⟨j,0,none⟩ : Addr),2)),((⟨2,0,[(⟨1,1,(⟨#[]⟩ : ByteArray)⟩ : V),(⟨1,2,(⟨#[]⟩ : ByteArray)⟩ : V)]⟩ : QU),(some (⟨q,0,none⟩ : Addr),2))]) 0 Z (fun F w hφ=>⟨[.int .i64 1,.int .i64 0,.slice (some ⟨j,0,none⟩) 2 2],[.int .i64 2,.int .i64 0,.slice (some ⟨q,0,none⟩) 2 2],Z,Z,Z,⟨[.int .i64 2,.int .i64 0,.slice (some ⟨q,0,none⟩) 2 2],[],Z,Z,Z,Z⟩⟩) Z (by decide) (H':=V6 ..) Z (Q3A [Q2L QM [] none,_,_,_,_,_,_] (fun _ h=>h.bagNil QM) (Q4z [3,0,1,2,4,5,6] Z (H':=V7 ..) Z (Q3A [Q2L QM ([((⟨1,0,[(⟨1,1,(⟨#[]⟩ : ByteArray)⟩ : V),(⟨1,1,(⟨#[]⟩ : ByteArray)⟩ : V)]⟩ : QU),(some (⟨j,0,none⟩ : Addr),2))]) none,_,_,_,_,_] (fun _ h=>Q1j.bagPush (T:=QM) (x:=(⟨1,0,[(⟨1,1,(⟨#[]⟩ : ByteArray)⟩ : V),(⟨1,1,(⟨#[]⟩ : ByteArray)⟩ : V)]⟩ : QU)) (r:=(some (⟨j,0,none⟩ : Addr),2)) (zs:=[]) (H:=V6 ..) h 0 Z) (Q4z [2,0,1,3,4,5] Z (H':=V6 ..) Z ?_))))))))))))))
   refine Q3A [Q2L QM (([((⟨1,0,[(⟨1,1,(⟨#[]⟩ : ByteArray)⟩ : V),(⟨1,1,(⟨#[]⟩ : ByteArray)⟩ : V)]⟩ : QU),(some (⟨j,0,none⟩ : Addr),2))]) ++ [((⟨2,0,[(⟨1,1,(⟨#[]⟩ : ByteArray)⟩ : V),(⟨1,2,(⟨#[]⟩ : ByteArray)⟩ : V)]⟩ : QU),(some (⟨q,0,none⟩ : Addr),2))]) none,_,_,_,_] (fun _ h=>Q1j.bagPush (T:=QM) (x:=(⟨2,0,[(⟨1,1,(⟨#[]⟩ : ByteArray)⟩ : V),(⟨1,2,(⟨#[]⟩ : ByteArray)⟩ : V)]⟩ : QU)) (r:=(some (⟨q,0,none⟩ : Addr),2)) (zs:=[((⟨1,0,[(⟨1,1,(⟨#[]⟩ : ByteArray)⟩ : V),(⟨1,1,(⟨#[]⟩ : ByteArray)⟩ : V)]⟩ : QU),(some (⟨j,0,none⟩ : Addr),2))]) (H:=V5 ..) h 0 Z) (Q8V 0 (φ':=Q2L QM ([((⟨1,0,[(⟨1,1,(⟨#[]⟩ : ByteArray)⟩ : V),(⟨1,1,(⟨#[]⟩ : ByteArray)⟩ : V)]⟩ : QU),(some (⟨j,0,none⟩ : Addr),2)),((⟨2,0,[(⟨1,1,(⟨#[]⟩ : ByteArray)⟩ : V),(⟨1,2,(⟨#[]⟩ : ByteArray)⟩ : V)]⟩ : QU),(some (⟨q,0,none⟩ : Addr),2))]) none) Z Z (H':=V5 ..) Z (Q3A [Q2d QM 71 3 (.slice (some ⟨a8,0,none⟩) 2 2) ([(⟨1,0,[(⟨1,1,(⟨#[]⟩ : ByteArray)⟩ : V),(⟨1,1,(⟨#[]⟩ : ByteArray)⟩ : V)]⟩ : QU),(⟨2,0,[(⟨1,1,(⟨#[]⟩ : ByteArray)⟩ : V),(⟨1,2,(⟨#[]⟩ : ByteArray)⟩ : V)]⟩ : QU)]),_,_,_] (fun _ h=>h.treeIn 1 0 Z Z Z Z) (Q15 1 Z (fun s _=>?_))))
   subst s
   refine Q15 2 Z (fun z _=>?_)
   subst z
   refine Q3h 0 Z (fun a9 _=>(wl_at 0 (v':=.slice (some ⟨a8,0,none⟩) ([(⟨1,0,[(⟨1,1,(⟨#[]⟩ : ByteArray)⟩ : V),(⟨1,1,(⟨#[]⟩ : ByteArray)⟩ : V)]⟩ : QU),(⟨2,0,[(⟨1,1,(⟨#[]⟩ : ByteArray)⟩ : V),(⟨1,2,(⟨#[]⟩ : ByteArray)⟩ : V)]⟩ : QU)].length) 2) Z (by rw [a9]) ?_))
  rotate_right
  focus
   refine wC [] [0] Z fn_24 Z (Q4G N _ _ b5) (asK [] Z) Z (H':=[_]) Z ?_
   rintro _ _ _ ⟨aR,aS,bE,aT,aU,bF,rfl,rfl,rfl⟩
   refine Q3 (QV [] [] Z Z ?_)
   refine Q3n hok 3 4 Z Z Z Z Z Z ?_ ?_
   rotate_left
   focus
    refine wC [] [0,1,2] Z fn_21 Z (Q20 N 1 1 1 aQ) (asK [] Z) Z (H':=V3 ..) Z ?_
    rintro _ _ _ ⟨j,rfl,rfl,rfl⟩
    refine Q3 (QV [] [] Z Z ?_)
    refine Q3n hok 3 5 Z Z Z Z Z Z ?_ ?_
    rotate_left
    focus
     refine wC [] [0,1,2,3] Z fn_21 Z (Q20 N 2 1 2 aH) (asK [] Z) Z (H':=V4 ..) Z ?_
     rintro _ _ _ ⟨q,rfl,rfl,rfl⟩
     refine Q3 (QV [] [] Z Z ?_)
     refine Q3n hok 3 6 Z Z Z Z Z Z ?_ ?_
     rotate_left
     focus
      refine Qy Z Z Z Zq Z Q7A Q4s tZ_71 Z (zs:=[.int .i64 0,.int .i64 0,V1,.int .i64 0,.int .i64 0,V1]) (by kernel_rfl) Z (out:=V6 ..) Z (fun a8=>(Q3 (QV [] [] Z Z (xS hok 3 Z (Q1T Q2U 5 1 0 Z Z Z Zq Z Z Z aE tS_41 tA_41 (v:=fun a0=>.agg #[.int .i64 (aB.rule),.slice a0.1 aB.ids.length a0.2]) (fun _=>Z) (fun _=>Z) (fun a0 _=>(Q3 (QV [] [] Z Z (xS hok 7 Z (Q2f (sz:=3) (m:=2) R_V ([(⟨1,1,(⟨#[]⟩ : ByteArray)⟩ : V),(⟨1,1,(⟨#[]⟩ : ByteArray)⟩ : V)]) 2 Z (fun F w hφ=>⟨[.int .u8 1,.int .i64 1,.string ((⟨#[]⟩ : ByteArray))],[.int .u8 1,.int .i64 1,.string ((⟨#[]⟩ : ByteArray))],Z,Z,⟨(),Z,Qr⟩,⟨[.int .u8 1,.int .i64 1,.string ((⟨#[]⟩ : ByteArray))],[],Z,Z,⟨(),Z,Qr⟩,Z⟩⟩) Z (by decide) (H':=V6 ..) Z (Q2f (sz:=3) (m:=2) R_V ([(⟨1,1,(⟨#[]⟩ : ByteArray)⟩ : V),(⟨1,2,(⟨#[]⟩ : ByteArray)⟩ : V)]) 1 Z (fun F w hφ=>⟨[.int .u8 1,.int .i64 1,.string ((⟨#[]⟩ : ByteArray))],[.int .u8 1,.int .i64 2,.string ((⟨#[]⟩ : ByteArray))],Z,Z,⟨(),Z,Qr⟩,⟨[.int .u8 1,.int .i64 2,.string ((⟨#[]⟩ : ByteArray))],[],Z,Z,⟨(),Z,Qr⟩,Z⟩⟩) Z (by decide) (H':=V6 ..) Z (Q2f (sz:=3) (m:=2) QM.pair ([((⟨1,0,[(⟨1,1,(⟨#[]⟩ : ByteArray)⟩ : V),(⟨1,1,(⟨#[]⟩ : ByteArray)⟩ : V)]⟩ : QU),(some (⟨j,0,none⟩ : Addr),2)),((⟨2,0,[(⟨1,1,(⟨#[]⟩ : ByteArray)⟩ : V),(⟨1,2,(⟨#[]⟩ : ByteArray)⟩ : V)]⟩ : QU),(some (⟨q,0,none⟩ : Addr),2))]) 0 Z (fun F w hφ=>⟨[.int .i64 1,.int .i64 0,.slice (some ⟨j,0,none⟩) 2 2],[.int .i64 2,.int .i64 0,.slice (some ⟨q,0,none⟩) 2 2],Z,Z,Z,⟨[.int .i64 2,.int .i64 0,.slice (some ⟨q,0,none⟩) 2 2],[],Z,Z,Z,Z⟩⟩) Z (by decide) (H':=V6 ..) Z (Q3A [Q2L QM [] none,_,_,_,_,_,_] (fun _ h=>h.bagNil QM) (Q4z [3,0,1,2,4,5,6] Z (H':=V7 ..) Z (Q3A [Q2L QM ([((⟨1,0,[(⟨1,1,(⟨#[]⟩ : ByteArray)⟩ : V),(⟨1,1,(⟨#[]⟩ : ByteArray)⟩ : V)]⟩ : QU),(some (⟨j,0,none⟩ : Addr),2))]) none,_,_,_,_,_] (fun _ h=>Q1j.bagPush (T:=QM) (x:=(⟨1,0,[(⟨1,1,(⟨#[]⟩ : ByteArray)⟩ : V),(⟨1,1,(⟨#[]⟩ : ByteArray)⟩ : V)]⟩ : QU)) (r:=(some (⟨j,0,none⟩ : Addr),2)) (zs:=[]) (H:=V6 ..) h 0 Z) ?_)))))))))))))))
      refine Q4z [2,0,1,3,4,5] Z (H':=V6 ..) Z (Q3A [Q2L QM (([((⟨1,0,[(⟨1,1,(⟨#[]⟩ : ByteArray)⟩ : V),(⟨1,1,(⟨#[]⟩ : ByteArray)⟩ : V)]⟩ : QU),(some (⟨j,0,none⟩ : Addr),2))]) ++ [((⟨2,0,[(⟨1,1,(⟨#[]⟩ : ByteArray)⟩ : V),(⟨1,2,(⟨#[]⟩ : ByteArray)⟩ : V)]⟩ : QU),(some (⟨q,0,none⟩ : Addr),2))]) none,_,_,_,_] (fun _ h=>Q1j.bagPush (T:=QM) (x:=(⟨2,0,[(⟨1,1,(⟨#[]⟩ : ByteArray)⟩ : V),(⟨1,2,(⟨#[]⟩ : ByteArray)⟩ : V)]⟩ : QU)) (r:=(some (⟨q,0,none⟩ : Addr),2)) (zs:=[((⟨1,0,[(⟨1,1,(⟨#[]⟩ : ByteArray)⟩ : V),(⟨1,1,(⟨#[]⟩ : ByteArray)⟩ : V)]⟩ : QU),(some (⟨j,0,none⟩ : Addr),2))]) (H:=V5 ..) h 0 Z) (Q8V 0 (φ':=Q2L QM ([((⟨1,0,[(⟨1,1,(⟨#[]⟩ : ByteArray)⟩ : V),(⟨1,1,(⟨#[]⟩ : ByteArray)⟩ : V)]⟩ : QU),(some (⟨j,0,none⟩ : Addr),2)),((⟨2,0,[(⟨1,1,(⟨#[]⟩ : ByteArray)⟩ : V),(⟨1,2,(⟨#[]⟩ : ByteArray)⟩ : V)]⟩ : QU),(some (⟨q,0,none⟩ : Addr),2))]) none) Z Z (H':=V5 ..) Z (Q3A [Q2d QM 71 3 (.slice (some ⟨a8,0,none⟩) 2 2) ([(⟨1,0,[(⟨1,1,(⟨#[]⟩ : ByteArray)⟩ : V),(⟨1,1,(⟨#[]⟩ : ByteArray)⟩ : V)]⟩ : QU),(⟨2,0,[(⟨1,1,(⟨#[]⟩ : ByteArray)⟩ : V),(⟨1,2,(⟨#[]⟩ : ByteArray)⟩ : V)]⟩ : QU)]),_,_,_] (fun _ h=>h.treeIn 1 0 Z Z Z Z) (Q15 1 Z (fun s _=>?_)))))
      subst s
      refine Q15 2 Z (fun z _=>?_)
      subst z
      refine Q3h 0 Z (fun a9 _=>(wl_at 1 (v':=.slice (some ⟨a8,0,none⟩) ([(⟨1,0,[(⟨1,1,(⟨#[]⟩ : ByteArray)⟩ : V),(⟨1,1,(⟨#[]⟩ : ByteArray)⟩ : V)]⟩ : QU),(⟨2,0,[(⟨1,1,(⟨#[]⟩ : ByteArray)⟩ : V),(⟨1,2,(⟨#[]⟩ : ByteArray)⟩ : V)]⟩ : QU)].length) 2) Z (by rw [a9]) ?_))
     rotate_right
     focus
      refine Q1T Q2U 4 1 0 Z Z Z Zq Z Z Z aE tS_41 tA_41 (v:=fun a0=>.agg #[.int .i64 (aB.rule),.slice a0.1 aB.ids.length a0.2]) (fun _=>Z) (fun _=>Z) (fun a0 _=>(Q3 (QV [] [] Z Z (xS hok 6 Z (Qy Z Z Z Zq Z Q7A Q4s tZ_71 Z (zs:=[.int .i64 0,.int .i64 0,V1,.int .i64 0,.int .i64 0,V1]) (by kernel_rfl) Z (out:=V6 ..) Z (fun a8=>(Q3 (QV [0] [] Z Z (xS hok 7 Z (Q2f (sz:=3) (m:=2) R_V ([(⟨1,1,(⟨#[]⟩ : ByteArray)⟩ : V),(⟨1,1,(⟨#[]⟩ : ByteArray)⟩ : V)]) 2 Z (fun F w hφ=>⟨[.int .u8 1,.int .i64 1,.string ((⟨#[]⟩ : ByteArray))],[.int .u8 1,.int .i64 1,.string ((⟨#[]⟩ : ByteArray))],Z,Z,⟨(),Z,Qr⟩,⟨[.int .u8 1,.int .i64 1,.string ((⟨#[]⟩ : ByteArray))],[],Z,Z,⟨(),Z,Qr⟩,Z⟩⟩) Z (by decide) (H':=V6 ..) Z (Q2f (sz:=3) (m:=2) R_V ([(⟨1,1,(⟨#[]⟩ : ByteArray)⟩ : V),(⟨1,2,(⟨#[]⟩ : ByteArray)⟩ : V)]) 1 Z (fun F w hφ=>⟨[.int .u8 1,.int .i64 1,.string ((⟨#[]⟩ : ByteArray))],[.int .u8 1,.int .i64 2,.string ((⟨#[]⟩ : ByteArray))],Z,Z,⟨(),Z,Qr⟩,⟨[.int .u8 1,.int .i64 2,.string ((⟨#[]⟩ : ByteArray))],[],Z,Z,⟨(),Z,Qr⟩,Z⟩⟩) Z (by decide) (H':=V6 ..) Z (Q2f (sz:=3) (m:=2) QM.pair ([((⟨1,0,[(⟨1,1,(⟨#[]⟩ : ByteArray)⟩ : V),(⟨1,1,(⟨#[]⟩ : ByteArray)⟩ : V)]⟩ : QU),(some (⟨j,0,none⟩ : Addr),2)),((⟨2,0,[(⟨1,1,(⟨#[]⟩ : ByteArray)⟩ : V),(⟨1,2,(⟨#[]⟩ : ByteArray)⟩ : V)]⟩ : QU),(some (⟨q,0,none⟩ : Addr),2))]) 0 Z (fun F w hφ=>⟨[.int .i64 1,.int .i64 0,.slice (some ⟨j,0,none⟩) 2 2],[.int .i64 2,.int .i64 0,.slice (some ⟨q,0,none⟩) 2 2],Z,Z,Z,⟨[.int .i64 2,.int .i64 0,.slice (some ⟨q,0,none⟩) 2 2],[],Z,Z,Z,Z⟩⟩) Z (by decide) (H':=V6 ..) Z (Q3A [Q2L QM [] none,_,_,_,_,_,_] (fun _ h=>h.bagNil QM) (Q4z [3,0,1,2,4,5,6] Z (H':=V7 ..) Z (Q3A [Q2L QM ([((⟨1,0,[(⟨1,1,(⟨#[]⟩ : ByteArray)⟩ : V),(⟨1,1,(⟨#[]⟩ : ByteArray)⟩ : V)]⟩ : QU),(some (⟨j,0,none⟩ : Addr),2))]) none,_,_,_,_,_] (fun _ h=>Q1j.bagPush (T:=QM) (x:=(⟨1,0,[(⟨1,1,(⟨#[]⟩ : ByteArray)⟩ : V),(⟨1,1,(⟨#[]⟩ : ByteArray)⟩ : V)]⟩ : QU)) (r:=(some (⟨j,0,none⟩ : Addr),2)) (zs:=[]) (H:=V6 ..) h 0 Z) ?_)))))))))))))))
      refine Q4z [2,0,1,3,4,5] Z (H':=V6 ..) Z (Q3A [Q2L QM (([((⟨1,0,[(⟨1,1,(⟨#[]⟩ : ByteArray)⟩ : V),(⟨1,1,(⟨#[]⟩ : ByteArray)⟩ : V)]⟩ : QU),(some (⟨j,0,none⟩ : Addr),2))]) ++ [((⟨2,0,[(⟨1,1,(⟨#[]⟩ : ByteArray)⟩ : V),(⟨1,2,(⟨#[]⟩ : ByteArray)⟩ : V)]⟩ : QU),(some (⟨q,0,none⟩ : Addr),2))]) none,_,_,_,_] (fun _ h=>Q1j.bagPush (T:=QM) (x:=(⟨2,0,[(⟨1,1,(⟨#[]⟩ : ByteArray)⟩ : V),(⟨1,2,(⟨#[]⟩ : ByteArray)⟩ : V)]⟩ : QU)) (r:=(some (⟨q,0,none⟩ : Addr),2)) (zs:=[((⟨1,0,[(⟨1,1,(⟨#[]⟩ : ByteArray)⟩ : V),(⟨1,1,(⟨#[]⟩ : ByteArray)⟩ : V)]⟩ : QU),(some (⟨j,0,none⟩ : Addr),2))]) (H:=V5 ..) h 0 Z) (Q8V 0 (φ':=Q2L QM ([((⟨1,0,[(⟨1,1,(⟨#[]⟩ : ByteArray)⟩ : V),(⟨1,1,(⟨#[]⟩ : ByteArray)⟩ : V)]⟩ : QU),(some (⟨j,0,none⟩ : Addr),2)),((⟨2,0,[(⟨1,1,(⟨#[]⟩ : ByteArray)⟩ : V),(⟨1,2,(⟨#[]⟩ : ByteArray)⟩ : V)]⟩ : QU),(some (⟨q,0,none⟩ : Addr),2))]) none) Z Z (H':=V5 ..) Z (Q3A [Q2d QM 71 3 (.slice (some ⟨a8,0,none⟩) 2 2) ([(⟨1,0,[(⟨1,1,(⟨#[]⟩ : ByteArray)⟩ : V),(⟨1,1,(⟨#[]⟩ : ByteArray)⟩ : V)]⟩ : QU),(⟨2,0,[(⟨1,1,(⟨#[]⟩ : ByteArray)⟩ : V),(⟨1,2,(⟨#[]⟩ : ByteArray)⟩ : V)]⟩ : QU)]),_,_,_] (fun _ h=>h.treeIn 1 0 Z Z Z Z) (Q15 1 Z (fun s _=>?_)))))
      subst s
      refine Q15 2 Z (fun z _=>?_)
      subst z
      refine Q3h 0 Z (fun a9 _=>(wl_at 0 (v':=.slice (some ⟨a8,0,none⟩) ([(⟨1,0,[(⟨1,1,(⟨#[]⟩ : ByteArray)⟩ : V),(⟨1,1,(⟨#[]⟩ : ByteArray)⟩ : V)]⟩ : QU),(⟨2,0,[(⟨1,1,(⟨#[]⟩ : ByteArray)⟩ : V),(⟨1,2,(⟨#[]⟩ : ByteArray)⟩ : V)]⟩ : QU)].length) 2) Z (by rw [a9]) ?_))
    rotate_right
    focus
     refine Q1T Q2U 3 1 0 Z Z Z Zq Z Z Z aE tS_41 tA_41 (v:=fun a0=>.agg #[.int .i64 (aB.rule),.slice a0.1 aB.ids.length a0.2]) (fun _=>Z) (fun _=>Z) (fun a0 _=>(Q3 (QV [] [] Z Z (xS hok 5 Z (wC [] [0,1,2,3] Z fn_21 Z (Q20 N 2 1 2 aH) (asK [] Z) Z (H':=V4 ..) Z ?_)))))
     rintro _ _ _ ⟨q,rfl,rfl,rfl⟩
     refine Q3 (QV [0] [] Z Z (xS hok 6 Z (Qy Z Z Z Zq Z Q7A Q4s tZ_71 Z (zs:=[.int .i64 0,.int .i64 0,V1,.int .i64 0,.int .i64 0,V1]) (by kernel_rfl) Z (out:=V6 ..) Z (fun a8=>(Q3 (QV [0] [] Z Z (xS hok 7 Z (Q2f (sz:=3) (m:=2) R_V ([(⟨1,1,(⟨#[]⟩ : ByteArray)⟩ : V),(⟨1,1,(⟨#[]⟩ : ByteArray)⟩ : V)]) 2 Z (fun F w hφ=>⟨[.int .u8 1,.int .i64 1,.string ((⟨#[]⟩ : ByteArray))],[.int .u8 1,.int .i64 1,.string ((⟨#[]⟩ : ByteArray))],Z,Z,⟨(),Z,Qr⟩,⟨[.int .u8 1,.int .i64 1,.string ((⟨#[]⟩ : ByteArray))],[],Z,Z,⟨(),Z,Qr⟩,Z⟩⟩) Z (by decide) (H':=V6 ..) Z (Q2f (sz:=3) (m:=2) R_V ([(⟨1,1,(⟨#[]⟩ : ByteArray)⟩ : V),(⟨1,2,(⟨#[]⟩ : ByteArray)⟩ : V)]) 1 Z (fun F w hφ=>⟨[.int .u8 1,.int .i64 1,.string ((⟨#[]⟩ : ByteArray))],[.int .u8 1,.int .i64 2,.string ((⟨#[]⟩ : ByteArray))],Z,Z,⟨(),Z,Qr⟩,⟨[.int .u8 1,.int .i64 2,.string ((⟨#[]⟩ : ByteArray))],[],Z,Z,⟨(),Z,Qr⟩,Z⟩⟩) Z (by decide) (H':=V6 ..) Z (Q2f (sz:=3) (m:=2) QM.pair ([((⟨1,0,[(⟨1,1,(⟨#[]⟩ : ByteArray)⟩ : V),(⟨1,1,(⟨#[]⟩ : ByteArray)⟩ : V)]⟩ : QU),(some (⟨j,0,none⟩ : Addr),2)),((⟨2,0,[(⟨1,1,(⟨#[]⟩ : ByteArray)⟩ : V),(⟨1,2,(⟨#[]⟩ : ByteArray)⟩ : V)]⟩ : QU),(some (⟨q,0,none⟩ : Addr),2))]) 0 Z (fun F w hφ=>⟨[.int .i64 1,.int .i64 0,.slice (some ⟨j,0,none⟩) 2 2],[.int .i64 2,.int .i64 0,.slice (some ⟨q,0,none⟩) 2 2],Z,Z,Z,⟨[.int .i64 2,.int .i64 0,.slice (some ⟨q,0,none⟩) 2 2],[],Z,Z,Z,Z⟩⟩) Z (by decide) (H':=V6 ..) Z (Q3A [Q2L QM [] none,_,_,_,_,_,_] (fun _ h=>h.bagNil QM) (Q4z [3,0,1,2,4,5,6] Z (H':=V7 ..) Z (Q3A [Q2L QM ([((⟨1,0,[(⟨1,1,(⟨#[]⟩ : ByteArray)⟩ : V),(⟨1,1,(⟨#[]⟩ : ByteArray)⟩ : V)]⟩ : QU),(some (⟨j,0,none⟩ : Addr),2))]) none,_,_,_,_,_] (fun _ h=>Q1j.bagPush (T:=QM) (x:=(⟨1,0,[(⟨1,1,(⟨#[]⟩ : ByteArray)⟩ : V),(⟨1,1,(⟨#[]⟩ : ByteArray)⟩ : V)]⟩ : QU)) (r:=(some (⟨j,0,none⟩ : Addr),2)) (zs:=[]) (H:=V6 ..) h 0 Z) (Q4z [2,0,1,3,4,5] Z (H':=V6 ..) Z ?_))))))))))))))
     refine Q3A [Q2L QM (([((⟨1,0,[(⟨1,1,(⟨#[]⟩ : ByteArray)⟩ : V),(⟨1,1,(⟨#[]⟩ : ByteArray)⟩ : V)]⟩ : QU),(some (⟨j,0,none⟩ : Addr),2))]) ++ [((⟨2,0,[(⟨1,1,(⟨#[]⟩ : ByteArray)⟩ : V),(⟨1,2,(⟨#[]⟩ : ByteArray)⟩ : V)]⟩ : QU),(some (⟨q,0,none⟩ : Addr),2))]) none,_,_,_,_] (fun _ h=>Q1j.bagPush (T:=QM) (x:=(⟨2,0,[(⟨1,1,(⟨#[]⟩ : ByteArray)⟩ : V),(⟨1,2,(⟨#[]⟩ : ByteArray)⟩ : V)]⟩ : QU)) (r:=(some (⟨q,0,none⟩ : Addr),2)) (zs:=[((⟨1,0,[(⟨1,1,(⟨#[]⟩ : ByteArray)⟩ : V),(⟨1,1,(⟨#[]⟩ : ByteArray)⟩ : V)]⟩ : QU),(some (⟨j,0,none⟩ : Addr),2))]) (H:=V5 ..) h 0 Z) (Q8V 0 (φ':=Q2L QM ([((⟨1,0,[(⟨1,1,(⟨#[]⟩ : ByteArray)⟩ : V),(⟨1,1,(⟨#[]⟩ : ByteArray)⟩ : V)]⟩ : QU),(some (⟨j,0,none⟩ : Addr),2)),((⟨2,0,[(⟨1,1,(⟨#[]⟩ : ByteArray)⟩ : V),(⟨1,2,(⟨#[]⟩ : ByteArray)⟩ : V)]⟩ : QU),(some (⟨q,0,none⟩ : Addr),2))]) none) Z Z (H':=V5 ..) Z (Q3A [Q2d QM 71 3 (.slice (some ⟨a8,0,none⟩) 2 2) ([(⟨1,0,[(⟨1,1,(⟨#[]⟩ : ByteArray)⟩ : V),(⟨1,1,(⟨#[]⟩ : ByteArray)⟩ : V)]⟩ : QU),(⟨2,0,[(⟨1,1,(⟨#[]⟩ : ByteArray)⟩ : V),(⟨1,2,(⟨#[]⟩ : ByteArray)⟩ : V)]⟩ : QU)]),_,_,_] (fun _ h=>h.treeIn 1 0 Z Z Z Z) (Q15 1 Z (fun s _=>?_))))
     subst s
     refine Q15 2 Z (fun z _=>?_)
     subst z
     refine Q3h 0 Z (fun a9 _=>(wl_at 0 (v':=.slice (some ⟨a8,0,none⟩) ([(⟨1,0,[(⟨1,1,(⟨#[]⟩ : ByteArray)⟩ : V),(⟨1,1,(⟨#[]⟩ : ByteArray)⟩ : V)]⟩ : QU),(⟨2,0,[(⟨1,1,(⟨#[]⟩ : ByteArray)⟩ : V),(⟨1,2,(⟨#[]⟩ : ByteArray)⟩ : V)]⟩ : QU)].length) 2) Z (by rw [a9]) ?_))
   rotate_right
   focus
    refine Q1T Q2U 2 1 0 Z Z Z Zq Z Z Z aE tS_41 tA_41 (v:=fun a0=>.agg #[.int .i64 (aB.rule),.slice a0.1 aB.ids.length a0.2]) (fun _=>Z) (fun _=>Z) (fun a0 _=>(Q3 (QV [] [] Z Z (xS hok 4 Z (wC [] [0,1,2] Z fn_21 Z (Q20 N 1 1 1 aQ) (asK [] Z) Z (H':=V3 ..) Z ?_)))))
    rintro _ _ _ ⟨j,rfl,rfl,rfl⟩
    refine Q3 (QV [0] [] Z Z (xS hok 5 Z (wC [] [0,1,2,3] Z fn_21 Z (Q20 N 2 1 2 aH) (asK [] Z) Z (H':=V4 ..) Z ?_)))
    rintro _ _ _ ⟨q,rfl,rfl,rfl⟩
    refine Q3 (QV [0] [] Z Z (xS hok 6 Z (Qy Z Z Z Zq Z Q7A Q4s tZ_71 Z (zs:=[.int .i64 0,.int .i64 0,V1,.int .i64 0,.int .i64 0,V1]) (by kernel_rfl) Z (out:=V6 ..) Z (fun a8=>(Q3 (QV [0] [] Z Z (xS hok 7 Z (Q2f (sz:=3) (m:=2) R_V ([(⟨1,1,(⟨#[]⟩ : ByteArray)⟩ : V),(⟨1,1,(⟨#[]⟩ : ByteArray)⟩ : V)]) 2 Z (fun F w hφ=>⟨[.int .u8 1,.int .i64 1,.string ((⟨#[]⟩ : ByteArray))],[.int .u8 1,.int .i64 1,.string ((⟨#[]⟩ : ByteArray))],Z,Z,⟨(),Z,Qr⟩,⟨[.int .u8 1,.int .i64 1,.string ((⟨#[]⟩ : ByteArray))],[],Z,Z,⟨(),Z,Qr⟩,Z⟩⟩) Z (by decide) (H':=V6 ..) Z (Q2f (sz:=3) (m:=2) R_V ([(⟨1,1,(⟨#[]⟩ : ByteArray)⟩ : V),(⟨1,2,(⟨#[]⟩ : ByteArray)⟩ : V)]) 1 Z (fun F w hφ=>⟨[.int .u8 1,.int .i64 1,.string ((⟨#[]⟩ : ByteArray))],[.int .u8 1,.int .i64 2,.string ((⟨#[]⟩ : ByteArray))],Z,Z,⟨(),Z,Qr⟩,⟨[.int .u8 1,.int .i64 2,.string ((⟨#[]⟩ : ByteArray))],[],Z,Z,⟨(),Z,Qr⟩,Z⟩⟩) Z (by decide) (H':=V6 ..) Z (Q2f (sz:=3) (m:=2) QM.pair ([((⟨1,0,[(⟨1,1,(⟨#[]⟩ : ByteArray)⟩ : V),(⟨1,1,(⟨#[]⟩ : ByteArray)⟩ : V)]⟩ : QU),(some (⟨j,0,none⟩ : Addr),2)),((⟨2,0,[(⟨1,1,(⟨#[]⟩ : ByteArray)⟩ : V),(⟨1,2,(⟨#[]⟩ : ByteArray)⟩ : V)]⟩ : QU),(some (⟨q,0,none⟩ : Addr),2))]) 0 Z (fun F w hφ=>⟨[.int .i64 1,.int .i64 0,.slice (some ⟨j,0,none⟩) 2 2],[.int .i64 2,.int .i64 0,.slice (some ⟨q,0,none⟩) 2 2],Z,Z,Z,⟨[.int .i64 2,.int .i64 0,.slice (some ⟨q,0,none⟩) 2 2],[],Z,Z,Z,Z⟩⟩) Z (by decide) (H':=V6 ..) Z (Q3A [Q2L QM [] none,_,_,_,_,_,_] (fun _ h=>h.bagNil QM) (Q4z [3,0,1,2,4,5,6] Z (H':=V7 ..) Z (Q3A [Q2L QM ([((⟨1,0,[(⟨1,1,(⟨#[]⟩ : ByteArray)⟩ : V),(⟨1,1,(⟨#[]⟩ : ByteArray)⟩ : V)]⟩ : QU),(some (⟨j,0,none⟩ : Addr),2))]) none,_,_,_,_,_] (fun _ h=>Q1j.bagPush (T:=QM) (x:=(⟨1,0,[(⟨1,1,(⟨#[]⟩ : ByteArray)⟩ : V),(⟨1,1,(⟨#[]⟩ : ByteArray)⟩ : V)]⟩ : QU)) (r:=(some (⟨j,0,none⟩ : Addr),2)) (zs:=[]) (H:=V6 ..) h 0 Z) (Q4z [2,0,1,3,4,5] Z (H':=V6 ..) Z ?_))))))))))))))
    refine Q3A [Q2L QM (([((⟨1,0,[(⟨1,1,(⟨#[]⟩ : ByteArray)⟩ : V),(⟨1,1,(⟨#[]⟩ : ByteArray)⟩ : V)]⟩ : QU),(some (⟨j,0,none⟩ : Addr),2))]) ++ [((⟨2,0,[(⟨1,1,(⟨#[]⟩ : ByteArray)⟩ : V),(⟨1,2,(⟨#[]⟩ : ByteArray)⟩ : V)]⟩ : QU),(some (⟨q,0,none⟩ : Addr),2))]) none,_,_,_,_] (fun _ h=>Q1j.bagPush (T:=QM) (x:=(⟨2,0,[(⟨1,1,(⟨#[]⟩ : ByteArray)⟩ : V),(⟨1,2,(⟨#[]⟩ : ByteArray)⟩ : V)]⟩ : QU)) (r:=(some (⟨q,0,none⟩ : Addr),2)) (zs:=[((⟨1,0,[(⟨1,1,(⟨#[]⟩ : ByteArray)⟩ : V),(⟨1,1,(⟨#[]⟩ : ByteArray)⟩ : V)]⟩ : QU),(some (⟨j,0,none⟩ : Addr),2))]) (H:=V5 ..) h 0 Z) (Q8V 0 (φ':=Q2L QM ([((⟨1,0,[(⟨1,1,(⟨#[]⟩ : ByteArray)⟩ : V),(⟨1,1,(⟨#[]⟩ : ByteArray)⟩ : V)]⟩ : QU),(some (⟨j,0,none⟩ : Addr),2)),((⟨2,0,[(⟨1,1,(⟨#[]⟩ : ByteArray)⟩ : V),(⟨1,2,(⟨#[]⟩ : ByteArray)⟩ : V)]⟩ : QU),(some (⟨q,0,none⟩ : Addr),2))]) none) Z Z (H':=V5 ..) Z (Q3A [Q2d QM 71 3 (.slice (some ⟨a8,0,none⟩) 2 2) ([(⟨1,0,[(⟨1,1,(⟨#[]⟩ : ByteArray)⟩ : V),(⟨1,1,(⟨#[]⟩ : ByteArray)⟩ : V)]⟩ : QU),(⟨2,0,[(⟨1,1,(⟨#[]⟩ : ByteArray)⟩ : V),(⟨1,2,(⟨#[]⟩ : ByteArray)⟩ : V)]⟩ : QU)]),_,_,_] (fun _ h=>h.treeIn 1 0 Z Z Z Z) (Q15 1 Z (fun s _=>?_))))
    subst s
    refine Q15 2 Z (fun z _=>?_)
    subst z
    refine Q3h 0 Z (fun a9 _=>(wl_at 0 (v':=.slice (some ⟨a8,0,none⟩) ([(⟨1,0,[(⟨1,1,(⟨#[]⟩ : ByteArray)⟩ : V),(⟨1,1,(⟨#[]⟩ : ByteArray)⟩ : V)]⟩ : QU),(⟨2,0,[(⟨1,1,(⟨#[]⟩ : ByteArray)⟩ : V),(⟨1,2,(⟨#[]⟩ : ByteArray)⟩ : V)]⟩ : QU)].length) 2) Z (by rw [a9]) ?_))
  all_goals
   refine Q8V 0 (φ':=Q2d QM 71 3 (.slice (some ⟨a8,0,none⟩) ([(⟨1,0,[(⟨1,1,(⟨#[]⟩ : ByteArray)⟩ : V),(⟨1,1,(⟨#[]⟩ : ByteArray)⟩ : V)]⟩ : QU),(⟨2,0,[(⟨1,1,(⟨#[]⟩ : ByteArray)⟩ : V),(⟨1,2,(⟨#[]⟩ : ByteArray)⟩ : V)]⟩ : QU)].length) 2) ([(⟨1,0,[(⟨1,1,(⟨#[]⟩ : ByteArray)⟩ : V),(⟨1,1,(⟨#[]⟩ : ByteArray)⟩ : V)]⟩ : QU),(⟨2,0,[(⟨1,1,(⟨#[]⟩ : ByteArray)⟩ : V),(⟨1,2,(⟨#[]⟩ : ByteArray)⟩ : V)]⟩ : QU)])) Z (by rw [a9]) (H':=V4 ..) Z (Q3g [] [0,1,2,3] [1,2,0] Z Z Z Zq Z Z fn_18 Z (w_naive_Vars_s N aR aS bB aT aU bC aB.rule a0.1 a0.2 aB.ids (some ⟨a8,0,none⟩) 2 [(⟨1,0,[(⟨1,1,(⟨#[]⟩ : ByteArray)⟩ : V),(⟨1,1,(⟨#[]⟩ : ByteArray)⟩ : V)]⟩ : QU),(⟨2,0,[(⟨1,1,(⟨#[]⟩ : ByteArray)⟩ : V),(⟨1,2,(⟨#[]⟩ : ByteArray)⟩ : V)]⟩ : QU)] _ _ bT) (fun F w hφ hh=>(QS (Q1K (hh _ (Q10 (k:=0) Z))) (QS (Q1K (hh _ (Q10 (k:=1) Z))) (QS (hφ _ (Q10 (k:=0) Z)) (QS (tree_sli Q95 (hh _ (Q10 (k:=2) Z)) (fun _ h=>h) (fun _ h=>h)) Qr))))) (fun _ _ _ hR=>by obtain ⟨_,_,_,rfl,rfl,rfl⟩:=hR; exact ⟨Z,(Q80 (Q9n Q7v) (fun _ h=>Q2A h))⟩) Z Z (H':=V4 ..) Z ?_)
   rintro _ _ _ ⟨bG,bH,bI,rfl,rfl,rfl⟩
   refine Q3 (QV [0] [] Z Z (xP hok 8 Z (xP hok 9 Z (xP hok 10 Z (xS hok 11 Z (wP Z (Q3 (QV [0] [] Z Z (xS hok 12 Z (wP Z (Q3 (QV [0] [] Z Z (Q11 hok Z ?_)))))))))))))
   refine Qs [0] Z (H':=[_]) Z ?_
   refine Q9 (bG,bH,bI) trivial [4,3] Z (asK [] Z) Z
 rintro ⟨a1,a5,a6⟩ _
 try dsimp only
 refine Q5 ?_
 obtain ⟨bV,hm,hLj_3⟩:=Q6 hm
 unfold Q7a at hm
 refine QI (σ:=Bool) (fun aA=>bV = aA) (fun aA=>[(0,.bool aA)]) (fun aA=>[]) (fun aA=>[]) ?_ ?_
 refine Q1 (wP Z (wP Z ?_))
 refine Qt (d:=49) (S':=V3 ..) Z Z (fun aV=>?_) (fun aV=>?_)
 replace hm:=QA hm aV
 refine wP Z (Q15 0 Z (fun bW _=>(wN Z Q5a (QH (d:=51) (v':=.int .i64 ((aG.length:Nat):Int)) (S':=V5 ..) Z Z (Q4Y bW) (wP Z (QH (d:=52) (v':=.bool (aG.length == 2)) (S':=V6 ..) Z Z (Q3c (a:=aG.length) (b:=2)) (wP Z (wP Z ?_))))))))
 refine Qt (d:=54) (S':=V8 ..) Z Z (fun aW=>?_) (fun aW=>?_)
 replace hm:=QA hm aW
 refine wP Z ?_
 obtain ⟨c6,b6,hm⟩:=Q6 hm
 refine Q5D 0 0 Z Z Z Zq Z Z Z Z Z (Q2t b6) Q5a Q1H (fun cG bX=>?_)
 subst bX
 refine wF Z Q31 (Q1T Q6d 0 0 1 Z Z Z Zq Z Z Z b6 tS_2 tA_2 (v:=fun _=>.int .i64 (c6.n)) (fun _=>Z) (fun _=>Z) (fun _ _=>(wP Z (wP Z (wP Z ?_)))))
 refine Qt (d:=61) (S':=V15 ..) Z Z (fun aX=>?_) (fun aX=>?_)
 replace hm:=QA hm aX
 refine wP Z ?_
 obtain ⟨bY,b7,hm⟩:=Q6 hm
 refine Q6X 0 1 Z Z Z Zq Z Z Z Z Z (Q2t b7) Q5a Q1H (wF Z Q31 (Q1T Q6d 0 1 1 Z Z Z Zq Z Z Z b7 tS_2 tA_2 (v:=fun _=>.int .i64 (bY.n)) (fun _=>Z) (fun _=>Z) (fun _ _=>(wP Z (wP Z (wP Z (Q3 ?_)))))))
 have hE:=(Zi hm).symm
 refine Qs [] Z (H':=[]) Z ?_
 refine Q9 (bY.n == 2) hE [0] Z (asK [] Z) Z
 replace hm:=Qz hm aX
 refine wO Z (wO Z (wO Z (wO Z (wO Z (wP Z (wP Z (Q3 ?_)))))))
 have hE:=(Zi hm).symm
 refine Qs [] Z (H':=[]) Z ?_
 refine Q9 false hE [0] Z (asK [] Z) Z
 replace hm:=Qz hm aW
 refine wO Z (wO Z (wO Z (wO Z (wO Z (wP Z (wP Z (wO Z (wO Z (wO Z (wO Z (wO Z (wP Z (wP Z ?_)))))))))))))
 refine Q3 ?_
 have hE:=(Zi hm).symm
 refine Qs [] Z (H':=[]) Z ?_
 refine Q9 false hE [0] Z (asK [] Z) Z
 replace hm:=Qz hm aV
 refine wO Z (wO Z (wO Z (wP Z (wP Z (wO Z (wO Z (wO Z (wO Z (wO Z (wP Z (wP Z (wO Z (wO Z ?_)))))))))))))
 refine wO Z (wO Z (wO Z (wP Z (wP Z (Q3 ?_)))))
 have hE:=(Zi hm).symm
 refine Qs [] Z (H':=[]) Z ?_
 refine Q9 false hE [0] Z (asK [] Z) Z
 rintro aA hE
 try dsimp only
 have hm:=hLj_3
 rw [hE] at hm
 refine Qb ?_
 have hE:=(Zi hm).symm
 replace hE:=hE.symm
 subst hE
 refine Ql (Hr:=[]) [] Tryz.results8 (Qc Z) ⟨Z,Z,Z⟩ (asK [] Z) Z Z (.inl Z)
theorem Q8C (N:Nat) (a0:Int) (a1:Int) (o0:Int) (hm:Q3o N a0 a1 = some o0):Q1o Tryz.prog 17 [.int .i64 a0,.int .i64 a1] [] [] (fun v Φr Hr=>v = .int .i64 o0 ∧ Φr = [] ∧ Hr = []):=by
 unfold Q3o at hm
 refine QD Tryz.func17 Z Tryz.ntmps17 Z (S:=[_,_]) Z (fun C=>(Q5 (Q1 (wP Z (Q3 (Q4 (Q2 [0,1] (S':=[_,_]) Z (Q5 (Q5 (Q1 (wP Z (wP Z (Q3 (Q4 ?_))))))))))))))
 refine Q2 [6,0,1] (S':=V3 ..) Z ?_
 refine Qj Z (fun hb6=>?_) (fun hb6=>?_)
 replace hm:=QA hm hb6
 refine Q2 [] (S':=[]) Z (Q5 (Q1 (wP Z (Q3 (Q4 (Qb (Q7 ?_)))))))
 have hE:=(Zi hm).symm
 replace hE:=hE.symm
 subst hE
 refine Ql (Hr:=[]) [] Tryz.results17 (Qc Z) ⟨Z,Z,Z⟩ (asK [] Z) Z Z (.inl Z)
 replace hm:=Qz hm hb6
 refine Q2 [0,1] (S':=[_,_]) Z (Qq (Q4 (Q5 (Q1 (wP Z (wP Z ?_))))))
 obtain ⟨hg9,hm⟩:=Qu hm
 refine Q7Q Z Z Z Zq Z Z Z (run_rem hg9) (Q1b (S':=V4 ..) Z Z Z Z Z (Q3 (Q4 (Q2 [0,1] (S':=[_,_]) Z (Q5 ?_)))))
 obtain ⟨bj_1,hm,hLj_1⟩:=Q6 hm
 refine QI (σ:=Int) (fun j_1_0=>bj_1 = j_1_0) (fun j_1_0=>[(0,.int .i64 j_1_0)]) (fun j_1_0=>[]) (fun j_1_0=>[]) ?_ ?_
 refine Q5 (Q1 (wP Z (wP Z (Q3 (Q4 (Q2 [11,0,1] (S':=V3 ..) Z ?_))))))
 refine Qj Z (fun hb11=>?_) (fun hb11=>?_)
 replace hm:=QA hm hb11
 refine Q2 [0,1] (S':=[_,_]) Z (Q1 (wP Z (wP Z (wP Z ?_))))
 obtain ⟨hg14,hm⟩:=Qu hm
 refine QH (d:=14) (v':=.int .i64 ((Int.tmod a0 a1) + a1)) (S':=V4 ..) Z Z (i64_in hg14) (Q1b (S':=V4 ..) Z Z Z Z Z (Q3 ?_))
 have hE:=(Zi hm).symm
 refine Q9 ((Int.tmod a0 a1) + a1) hE [0] Z (asK [] Z) Z
 replace hm:=Qz hm hb11
 refine Q2 [0] (S':=[_]) Z (Qq ?_)
 have hE:=(Zi hm).symm
 refine Q9 (Int.tmod a0 a1) hE [0] Z (asK [] Z) Z
 rintro j_1_0 hE
 try dsimp only
 have hm:=hLj_1
 rw [hE] at hm
 refine Q5 (Q1 (wP Z (wP Z (Q3 (Q4 (Q2 [4] (S':=[_]) Z (Qb ?_)))))))
 have hE:=(Zi hm).symm
 replace hE:=hE.symm
 subst hE
 refine Ql (Hr:=[]) [] Tryz.results17 (Qc Z) ⟨Z,Z,Z⟩ (asK [] Z) Z Z (.inl Z)
theorem Q99 (N:Nat) (a0:Int) (a1:Int) (o0:Bool) (hm:Q3k N a0 a1 = some o0):Q1o Tryz.prog 5 [.int .i64 a0,.int .i64 a1] [] [] (fun v Φr Hr=>v = .bool o0 ∧ Φr = [] ∧ Hr = []):=by
 unfold Q3k at hm
 refine QD Tryz.func5 Z Tryz.ntmps5 Z (S:=[_,_]) Z (fun C=>(Q5 (Q1 (wP Z (Q3 (Q4 (Q2 [0,1] (S':=[_,_]) Z (Q5 (Q5 (Q1 ?_))))))))))
 obtain ⟨cD,bL,hm⟩:=Q6 hm
 refine wC [] [] Z fn_8 Z (Qas N _ bL) (asK [] Z) Z (H':=[]) Z ?_
 rintro _ _ _ ⟨rfl,rfl,rfl⟩
 refine wP Z (Q3 (Q4 (Q2 [20,0,1] (S':=V3 ..) Z ?_)))
 refine Qj Z (fun b5=>?_) (fun b5=>?_)
 replace hm:=QA hm b5
 refine Q2 [] (S':=[]) Z (Q5 (Q1 (wP Z (Q3 (Q4 (Qb (Q7 ?_)))))))
 have hE:=(Zi hm).symm
 replace hE:=hE.symm
 subst hE
 refine Ql (Hr:=[]) [] Tryz.results5 (Qc Z) ⟨Z,Z,Z⟩ (asK [] Z) Z Z (.inl Z)
 replace hm:=Qz hm b5
 refine Q2 [0,1] (S':=[_,_]) Z (Qq (Q4 (Q5 (Q1 (wP Z ?_)))))
 obtain ⟨aY,bM,hm⟩:=Q6 hm
 refine wC [] [] Z fn_17 Z (Q8C N a0 4 _ bM) (asK [] Z) Z (H':=[]) Z ?_
 rintro _ _ _ ⟨rfl,rfl,rfl⟩
 refine wP Z ?_
 obtain ⟨bN,hm⟩:=Qu hm
 refine QH (d:=23) (v':=.int .i64 (1 + aY)) (S':=V4 ..) Z Z (i64_in bN) (wP Z ?_)
 obtain ⟨aS,bO,hm⟩:=Q6 hm
 refine wC [] [] Z fn_17 Z (Q8C N a1 130 _ bO) (asK [] Z) Z (H':=[]) Z ?_
 rintro _ _ _ ⟨rfl,rfl,rfl⟩
 refine wP Z ?_
 obtain ⟨bP,hm⟩:=Qu hm
 refine QH (d:=26) (v':=.int .i64 (1 + aS)) (S':=V7 ..) Z Z (i64_in bP) (wP Z (wP Z (Q3 (Q4 (Q2 [6,5] (S':=[_,_]) Z (Q5 (Q1 (Q13 Z Z Z Zq Z tZ_52 tP_52 Z (out:=V5 ..) Z (QE Z Z Z Zq Z tZ_52 Z (fun g7=>(wS 0 0 Z Q4W (all':=V5 ..) Z (H':=[_]) Z (Q3 (Q4 (Q2 [7,6,5] (S':=V3 ..) Z ?_))))))))))))))
 refine Q5 ?_
 obtain ⟨bE,hm,hLj_1⟩:=Q6 hm
 refine QI (σ:=(List QN) × OA × Nat × Nat) (fun (q,s,z,a5)=>bE = q) (fun (q,s,z,a5)=>[(7,.pointer (some ⟨g7,0,none⟩)),(6,.int .i64 (1 + aS)),(5,.int .i64 (1 + aY))]) (fun (q,s,z,a5)=>[]) (fun (q,s,z,a5)=>[.blk g7 [.string ((⟨#[114]⟩ : ByteArray)),.int .i64 0,.int .i64 0,.slice s a5 z,V1] 52,.own 67 10 QZ (.slice s a5 z) q]) ?_ ?_
 refine Q5 (Q1 (wP Z (Q3 (Q4 (Qw (Q3i 67 10 QZ (Q4X [1,0] Z (H':=[_,_]) Z (Q1E (σ:=Nat × Nat × (List QN) × OA × Nat × Nat) (fun (aZ,aP,a6,aC,aD,aE)=>Q1M (Q2P N aY) aZ (aP,a6) = some bE) (fun (aZ,aP,a6,aC,aD,aE)=>aZ) (fun (aZ,aP,a6,aC,aD,aE)=>[(8,.int .i64 ((aP:Nat):Int)),(7,.pointer (some ⟨g7,0,none⟩)),(6,.int .i64 (1 + aS)),(5,.int .i64 (1 + aY))]) (fun (aZ,aP,a6,aC,aD,aE)=>[]) (fun (aZ,aP,a6,aC,aD,aE)=>[.blk g7 [.string ((⟨#[114]⟩ : ByteArray)),.int .i64 0,.int .i64 0,.slice aC aE aD,V1] 52,.own 67 10 QZ (.slice aC aE aD) a6]) (N,0,[],none,0,0) hm [8,7,6,5] Z (asK [] Z) Z (fun s_ hm=>?_)))))))))
 obtain ⟨aZ,aP,a6,aC,aD,aE⟩:=s_
 try dsimp only at hm ⊢
 obtain ⟨cE,cF,bQ,hq,hLu1⟩:=Q1e hm
 clear hm
 subst bQ
 replace hm:=hq
 clear hq
 unfold Q2P at hm
 try dsimp only at hm
 refine Q5 (Q5 (Q1 (wP Z (wP Z (wP Z (Q3 (Q4 (Q2 [30,8,7,6,5] (S':=V5 ..) Z ?_))))))))
 refine Qj Z (fun b6=>?_) (fun b6=>?_)
 replace hm:=QA hm b6
 refine Q2 [8,7,6,5] (S':=V4 ..) Z (Qq (Q4 (Q5 (Qw (Q5 (Q1 (Q13 Z Z Z Zq Z tZ_59 tP_59 Z (out:=V5 ..) Z (Q13 Z Z Z Zq Z tZ_59 tP_59 Z (out:=V5 ..) Z (Qy Z Z Z Zq Z tE_60 Q9A tZ_59 Z (zs:=[.int .u8 0,.int .i64 0,.int .u8 0,.int .i64 0,.string ((⟨#[]⟩ : ByteArray)),.int .u8 0,.int .i64 0,.int .u8 0,.int .i64 0,.string ((⟨#[]⟩ : ByteArray))]) (by kernel_rfl) Z (out:=V10 ..) Z (fun bI=>(Q13 Z Z Z Zq Z Q9B tP_67 Z (out:=V10 ..) Z (QE Z Z Z Zq Z Q9B Z (fun g9=>(wS 0 0 Z Q4A (all':=V10 ..) Z (H':=V4 ..) Z (Q3 ?_)))))))))))))))
 refine Q4 (Q2 [9,8,7,6,5] (S':=V5 ..) Z (Q1 (wF Z Q62 (wD 2 3 Z Q9z tA_49 Z (QR 0 0 Z Z Z Zq Z Z Z (cs:=V10 ..) Z Q4A Q9t Z Z (Qy Z Z Z Zq Z Q8u Q4A Q9B Z (zs:=[.int .u8 0,.int .i64 0,V1,.int .u8 0,.int .u8 0,.int .i64 0,.string ((⟨#[]⟩ : ByteArray)),.int .i64 0,.int .u8 0,V1]) (by kernel_rfl) Z (out:=V10 ..) Z (fun cG=>(Q2f (sz:=5) (m:=2) Q2x ([(⟨1,0,(⟨0,0,(⟨#[]⟩ : ByteArray)⟩ : V)⟩ : Q3B),(⟨1,0,(⟨0,0,(⟨#[]⟩ : ByteArray)⟩ : V)⟩ : Q3B)]) 2 Z (fun F w hφ=>⟨[.int .u8 1,.int .i64 0,.int .u8 0,.int .i64 0,.string ((⟨#[]⟩ : ByteArray))],[.int .u8 1,.int .i64 0,.int .u8 0,.int .i64 0,.string ((⟨#[]⟩ : ByteArray))],Z,Z,⟨(),Z,Qr⟩,⟨[.int .u8 1,.int .i64 0,.int .u8 0,.int .i64 0,.string ((⟨#[]⟩ : ByteArray))],[],Z,Z,⟨(),Z,Qr⟩,Z⟩⟩) Z (by decide) (H':=V5 ..) Z (Q2w 2 Z (H':=V4 ..) Z (Q3f (.sli 5 Q2x (some ⟨bI,0,none⟩) 2 ([(⟨1,0,(⟨0,0,(⟨#[]⟩ : ByteArray)⟩ : V)⟩ : Q3B),(⟨1,0,(⟨0,0,(⟨#[]⟩ : ByteArray)⟩ : V)⟩ : Q3B)])) (fun F w hφ=>Q1K (hφ _ (Q10 (k:=0) Z))) ?_))))))))))
 obtain ⟨bF,hm⟩:=Qu hm
 refine Q1S ([(⟨1,0,[(⟨1,0,(⟨0,0,(⟨#[]⟩ : ByteArray)⟩ : V)⟩ : Q3B),(⟨1,0,(⟨0,0,(⟨#[]⟩ : ByteArray)⟩ : V)⟩ : Q3B)],(⟨0,(⟨0,0,(⟨#[]⟩ : ByteArray)⟩ : V),0,0,[]⟩ : Qo)⟩ : QN)]) 3 0 Z Z Z Zq Z Z Z Z Z (fun F w hφ=>⟨[.int .u8 1,.int .i64 0,.slice (some ⟨bI,0,none⟩) 2 2,.int .u8 0,.int .u8 0,.int .i64 0,.string ((⟨#[]⟩ : ByteArray)),.int .i64 0,.int .u8 0,V1],[],Z,Z,⟨((some ⟨bI,0,none⟩,2),(none,0)),Z,(QS (hφ _ (Q10 (k:=0) Z)) (QS Q3Q Qr))⟩,Z⟩) Q8u tR_67 Z Z (Nat.le_trans bF (by decide)) (Nat.le_trans (Nat.mul_le_mul_right _ bF) (by decide)) (H2:=fun bJ bK=>[_,_,_,.own 67 10 QZ (.slice bJ ((a6 ++ ([(⟨1,0,[(⟨1,0,(⟨0,0,(⟨#[]⟩ : ByteArray)⟩ : V)⟩ : Q3B),(⟨1,0,(⟨0,0,(⟨#[]⟩ : ByteArray)⟩ : V)⟩ : Q3B)],(⟨0,(⟨0,0,(⟨#[]⟩ : ByteArray)⟩ : V),0,0,[]⟩ : Qo)⟩ : QN)])).length) bK) (a6 ++ ([(⟨1,0,[(⟨1,0,(⟨0,0,(⟨#[]⟩ : ByteArray)⟩ : V)⟩ : Q3B),(⟨1,0,(⟨0,0,(⟨#[]⟩ : ByteArray)⟩ : V)⟩ : Q3B)],(⟨0,(⟨0,0,(⟨#[]⟩ : ByteArray)⟩ : V),0,0,[]⟩ : Qo)⟩ : QN)]))]) (fun _ _=>Z) (fun bJ bK=>(Q2s 0 Z (H':=V3 ..) Z (wF Z Q62 (wS 1 3 Z Q9z (all':=V5 ..) Z (H':=V3 ..) Z (Q3 (Qh (Q4 (Q2 [8,7,6,5] (S':=V4 ..) Z (Q1 (wP Z (wP Z ?_)))))))))))
 obtain ⟨bR,hm⟩:=Qu hm
 refine QH (d:=32) (v':=.int .i64 ((aP + 1:Nat):Int)) (S':=V5 ..) Z Z (Q1J (a:=aP) (b:=1) bR) (Q1b (S':=V5 ..) Z Z Z Z Z (Q3 ?_))
 have hE:=(Zi hm).symm
 replace hE:=QO hLu1 hE
 refine Qs [1,2] Z (H':=[_,_]) Z ?_
 refine Q1a (_,aP + 1,(a6 ++ ([(⟨1,0,[(⟨1,0,(⟨0,0,(⟨#[]⟩ : ByteArray)⟩ : V)⟩ : Q3B),(⟨1,0,(⟨0,0,(⟨#[]⟩ : ByteArray)⟩ : V)⟩ : Q3B)],(⟨0,(⟨0,0,(⟨#[]⟩ : ByteArray)⟩ : V),0,0,[]⟩ : Qo)⟩ : QN)])),bJ,bK,((a6 ++ ([(⟨1,0,[(⟨1,0,(⟨0,0,(⟨#[]⟩ : ByteArray)⟩ : V)⟩ : Q3B),(⟨1,0,(⟨0,0,(⟨#[]⟩ : ByteArray)⟩ : V)⟩ : Q3B)],(⟨0,(⟨0,0,(⟨#[]⟩ : ByteArray)⟩ : V),0,0,[]⟩ : Qo)⟩ : QN)])).length)) (Nat.lt_succ_self _) hE [8,7,6,5] Z (asK [] Z) Z
 replace hm:=Qz hm b6
 refine Q2 [7,6,5] (S':=V3 ..) Z (Q1x (Qk (Qk (QJ ?_))))
 have hE:=(Zi hm).symm
 replace hE:=Qv hLu1 hE
 refine Q9 (a6,aC,aD,aE) hE [7,6,5] Z (asK [] Z) Z
 rintro ⟨q,s,z,a5⟩ hE
 try dsimp only
 have hm:=hLj_1
 rw [hE] at hm
 refine Q5 (Q1 (Q13 Z Z Z Zq Z tZ_69 tP_69 Z (out:=[_,_]) Z (Qy Z Z Z Zq Z Q7z tS_69 tZ_69 Z (zs:=[.string ((⟨#[]⟩ : ByteArray)),.int .i64 0]) (by kernel_rfl) Z (out:=[_,_]) Z (fun aQ=>(QR 1 0 Z Z Z Zq Z Z Z (cs:=V5 ..) Z Q4W tA_52 Z Z (Qy Z Z Z Zq Z Q7K Q4W tZ_52 Z (zs:=[.string ((⟨#[]⟩ : ByteArray)),.int .i64 0,.int .i64 0,V1,V1]) (by kernel_rfl) Z (out:=V5 ..) Z (fun aR=>(Q13 Z Z Z Zq Z tZ_25 tP_25 Z (out:=[_,_]) Z (QE Z Z Z Zq Z tZ_25 Z (fun aU=>(wS 0 0 Z Q6R (all':=[_,_]) Z (H':=V5 ..) Z (Q3 (Q4 (Q2 [10,6,5] (S':=V3 ..) Z (Q5 (Q1 ?_))))))))))))))))
 refine wP Z (Q3 (Q4 (Q5 ?_)))
 obtain ⟨bG,hm,hLj_2⟩:=Q6 hm
 refine QI (σ:=(List QU) × OA × Nat × Nat) (fun (aA,a8,a9,aB)=>bG = aA) (fun (aA,a8,a9,aB)=>[(10,.pointer (some ⟨aU,0,none⟩)),(6,.int .i64 (1 + aS)),(5,.int .i64 (1 + aY)),(11,.slice a8 aB a9)]) (fun (aA,a8,a9,aB)=>[]) (fun (aA,a8,a9,aB)=>[.blk aU [.slice (some ⟨aQ,0,none⟩) 1 1,.slice (some ⟨aR,0,none⟩) 1 1] 25,.blk aQ [.string ((⟨#[112]⟩ : ByteArray)),.int .i64 2] 69,.blk aR [.string ((⟨#[114]⟩ : ByteArray)),.int .i64 0,.int .i64 0,.slice s a5 z,V1] 52,.own 67 10 QZ (.slice s a5 z) q,Q2d QM 71 3 (.slice a8 aB a9) aA]) ?_ ?_
 refine Q5 (Q1 (wP Z (Q3 (Q4 (Qw (wc_sh [Q2d QM 71 3 (V1) [],_,_,_,_,_] (fun _ h=>h.treeNil QM 71 3) (Q4X [0,1,3,2,5] Z (H':=V5 ..) Z (Q1E (σ:=Nat × Nat × (List QU) × OA × Nat × Nat) (fun (b0,j,a7,aF,aG,aH)=>Q1M (Q25 N aS) b0 (j,a7) = some bG) (fun (b0,j,a7,aF,aG,aH)=>b0) (fun (b0,j,a7,aF,aG,aH)=>[(12,.int .i64 ((j:Nat):Int)),(11,.slice aF aH aG),(10,.pointer (some ⟨aU,0,none⟩)),(6,.int .i64 (1 + aS)),(5,.int .i64 (1 + aY))]) (fun (b0,j,a7,aF,aG,aH)=>[]) (fun (b0,j,a7,aF,aG,aH)=>[Q2d QM 71 3 (.slice aF aH aG) a7,.blk aU [.slice (some ⟨aQ,0,none⟩) 1 1,.slice (some ⟨aR,0,none⟩) 1 1] 25,.blk aQ [.string ((⟨#[112]⟩ : ByteArray)),.int .i64 2] 69,.blk aR [.string ((⟨#[114]⟩ : ByteArray)),.int .i64 0,.int .i64 0,.slice s a5 z,V1] 52,.own 67 10 QZ (.slice s a5 z) q]) (N,0,[],none,0,0) hm [12,11,10,6,5] Z (asK [] Z) Z (fun s_ hm=>?_)))))))))
 obtain ⟨b0,j,a7,aF,aG,aH⟩:=s_
 try dsimp only at hm ⊢
 obtain ⟨cH,cI,bS,hq,hLu2⟩:=Q1e hm
 clear hm
 subst bS
 replace hm:=hq
 clear hq
 unfold Q25 at hm
 try dsimp only at hm
 refine Q5 (Q5 (Q1 (wP Z (wP Z (wP Z (Q3 (Q4 (Q2 [50,12,11,10,6,5] (S':=V6 ..) Z ?_))))))))
 refine Qj Z (fun b7=>?_) (fun b7=>?_)
 replace hm:=QA hm b7
 refine Q2 [12,11,10,6,5] (S':=V5 ..) Z (Qq (Q4 (Q5 (Qw (Q5 (Q1 (wP Z (wP Z ?_))))))))
 obtain ⟨bT,hm⟩:=Qu hm
 refine QH (d:=54) (v':=.int .i64 ((j + 1:Nat):Int)) (S':=V6 ..) Z Z (Q1J (a:=j) (b:=1) bT) (wP Z ?_)
 obtain ⟨_,bU,hm⟩:=Q6 hm
 try dsimp only at hm
 refine wC [] [0,1,2,3,4] Z fn_21 Z (Q20 N ((j + 1:Nat):Int) ((j:Nat):Int) 0 bU) (asK [] Z) Z (H':=V5 ..) Z ?_
 rintro _ _ _ ⟨aL,rfl,rfl,rfl⟩
 refine QE Z Z Z Zq Z tZ_71 Z (fun cJ=>(wS 0 0 Z Q4s (all':=V3 ..) Z (H':=V7 ..) Z (Q3 (Q4 (Q2 [13,12,11,10,6,5] (S':=V6 ..) Z (Q1 (wP Z (QR 0 0 Z Z Z Zq Z Z Z (cs:=V3 ..) Z Q4s tA_71 Z Z (Qy Z Z Z Zq Z Q7A Q4s tZ_71 Z (zs:=[.int .i64 0,.int .i64 0,V1]) (by kernel_rfl) Z (out:=V3 ..) Z (fun cK=>(Q3h 3 Z (fun bV _=>?_))))))))))))
 subst bV
 refine Q2f (sz:=3) (m:=2) R_V ([(⟨1,(((j:Nat):Int)),(⟨#[]⟩ : ByteArray)⟩ : V),(⟨1,0,(⟨#[]⟩ : ByteArray)⟩ : V)]) 2 Z (fun F w hφ=>⟨[.int .u8 1,.int .i64 ((j:Nat):Int),.string ((⟨#[]⟩ : ByteArray))],[.int .u8 1,.int .i64 0,.string ((⟨#[]⟩ : ByteArray))],Z,Z,⟨(),Z,Qr⟩,⟨[.int .u8 1,.int .i64 0,.string ((⟨#[]⟩ : ByteArray))],[],Z,Z,⟨(),Z,Qr⟩,Z⟩⟩) Z (by decide) (H':=V8 ..) Z (Qb4 3 Z (fun aT b8=>?_))
 obtain ⟨bW,hm⟩:=Qu hm
 have b1:List.map (fun x:QU × (OA × Nat)=>x.1) (aT ++ [((⟨(((j + 1:Nat):Int)),0,[(⟨1,(((j:Nat):Int)),(⟨#[]⟩ : ByteArray)⟩ : V),(⟨1,0,(⟨#[]⟩ : ByteArray)⟩ : V)]⟩ : QU),(some (⟨aL,0,none⟩ : Addr),2))]) = a7 ++ [(⟨(((j + 1:Nat):Int)),0,[(⟨1,(((j:Nat):Int)),(⟨#[]⟩ : ByteArray)⟩ : V),(⟨1,0,(⟨#[]⟩ : ByteArray)⟩ : V)]⟩ : QU)]:=pair_app b8 (us:=[(⟨(((j + 1:Nat):Int)),0,[(⟨1,(((j:Nat):Int)),(⟨#[]⟩ : ByteArray)⟩ : V),(⟨1,0,(⟨#[]⟩ : ByteArray)⟩ : V)]⟩ : QU)]) rfl
 have b9:aT.length + ([((⟨(((j + 1:Nat):Int)),0,[(⟨1,(((j:Nat):Int)),(⟨#[]⟩ : ByteArray)⟩ : V),(⟨1,0,(⟨#[]⟩ : ByteArray)⟩ : V)]⟩ : QU),(some (⟨aL,0,none⟩ : Addr),2))] : List (QU × (OA × Nat))).length ≤ 3518437208883:=by rw [pair_len b8]; exact bW
 refine Q1S (R:=QM.pair) ([((⟨(((j + 1:Nat):Int)),0,[(⟨1,(((j:Nat):Int)),(⟨#[]⟩ : ByteArray)⟩ : V),(⟨1,0,(⟨#[]⟩ : ByteArray)⟩ : V)]⟩ : QU),(some (⟨aL,0,none⟩ : Addr),2))]) 4 1 Z Z Z Zq Z Z Z Z Z (fun F w hφ=>⟨[.int .i64 ((j + 1:Nat):Int),.int .i64 0,.slice (some ⟨aL,0,none⟩) 2 2],[],Z,Z,Z,Z⟩) Q7A tR_71 Z Z (Nat.le_trans b9 (by decide)) (Nat.le_trans (Nat.mul_le_mul_right _ b9) (by decide)) (H2:=fun b3 b4=>[_,_,_,_,.own 71 3 QM.pair (.slice b3 ((aT ++ [((⟨(((j + 1:Nat):Int)),0,[(⟨1,(((j:Nat):Int)),(⟨#[]⟩ : ByteArray)⟩ : V),(⟨1,0,(⟨#[]⟩ : ByteArray)⟩ : V)]⟩ : QU),(some (⟨aL,0,none⟩ : Addr),2))]).length) b4) (aT ++ [((⟨(((j + 1:Nat):Int)),0,[(⟨1,(((j:Nat):Int)),(⟨#[]⟩ : ByteArray)⟩ : V),(⟨1,0,(⟨#[]⟩ : ByteArray)⟩ : V)]⟩ : QU),(some (⟨aL,0,none⟩ : Addr),2))]),_,_,_,_]) (fun _ _=>Z) (fun b3 b4=>(Q2s 1 Z (H':=V8 ..) Z (QH (d:=60) (v':=.slice b3 ((a7 ++ [(⟨(((j + 1:Nat):Int)),0,[(⟨1,(((j:Nat):Int)),(⟨#[]⟩ : ByteArray)⟩ : V),(⟨1,0,(⟨#[]⟩ : ByteArray)⟩ : V)]⟩ : QU)]).length) b4) (S':=V9 ..) Z Z (by rw [pair_len b1]) (Q8V 3 (φ':=.own 71 3 QM.pair (.slice b3 ((a7 ++ [(⟨(((j + 1:Nat):Int)),0,[(⟨1,(((j:Nat):Int)),(⟨#[]⟩ : ByteArray)⟩ : V),(⟨1,0,(⟨#[]⟩ : ByteArray)⟩ : V)]⟩ : QU)]).length) b4) (aT ++ [((⟨(((j + 1:Nat):Int)),0,[(⟨1,(((j:Nat):Int)),(⟨#[]⟩ : ByteArray)⟩ : V),(⟨1,0,(⟨#[]⟩ : ByteArray)⟩ : V)]⟩ : QU),(some (⟨aL,0,none⟩ : Addr),2))])) Z (by rw [pair_len b1]) (H':=V8 ..) Z (Q4z [2,0,1,3,4,5,6,7] Z (H':=V8 ..) Z (Q3A [Q2L QM (aT ++ [((⟨(((j + 1:Nat):Int)),0,[(⟨1,(((j:Nat):Int)),(⟨#[]⟩ : ByteArray)⟩ : V),(⟨1,0,(⟨#[]⟩ : ByteArray)⟩ : V)]⟩ : QU),(some (⟨aL,0,none⟩ : Addr),2))]) none,_,_,_,_,_,_] (fun _ h=>Q1j.bagPush (T:=QM) (x:=(⟨(((j + 1:Nat):Int)),0,[(⟨1,(((j:Nat):Int)),(⟨#[]⟩ : ByteArray)⟩ : V),(⟨1,0,(⟨#[]⟩ : ByteArray)⟩ : V)]⟩ : QU)) (r:=(some (⟨aL,0,none⟩ : Addr),2)) (zs:=aT) (H:=V7 ..) h 0 Z) (Q3A [_,Q2d QM 71 3 (.slice b3 ((a7 ++ [(⟨(((j + 1:Nat):Int)),0,[(⟨1,(((j:Nat):Int)),(⟨#[]⟩ : ByteArray)⟩ : V),(⟨1,0,(⟨#[]⟩ : ByteArray)⟩ : V)]⟩ : QU)]).length) b4) (a7 ++ [(⟨(((j + 1:Nat):Int)),0,[(⟨1,(((j:Nat):Int)),(⟨#[]⟩ : ByteArray)⟩ : V),(⟨1,0,(⟨#[]⟩ : ByteArray)⟩ : V)]⟩ : QU)]),_,_,_,_] (fun _ h=>h.treeIn 2 0 Z Z Z b1) (Q1b (S':=V9 ..) Z Z Z Z Z (Q3 (Qh (Q4 (Q2 [11,12,10,6,5] (S':=V5 ..) Z (Q1 (wP Z ?_))))))))))))))
 refine wP Z ?_
 obtain ⟨bX,hm⟩:=Qu hm
 refine QH (d:=52) (v':=.int .i64 ((j + 1:Nat):Int)) (S':=V6 ..) Z Z (Q1J (a:=j) (b:=1) bX) (Q1b (S':=V6 ..) Z Z Z Z Z (Q3 ?_))
 have hE:=(Zi hm).symm
 replace hE:=QO hLu2 hE
 refine Qs [1,2,3,4,5] Z (H':=V5 ..) Z ?_
 refine Q1a (_,j + 1,(a7 ++ [(⟨(((j + 1:Nat):Int)),0,[(⟨1,(((j:Nat):Int)),(⟨#[]⟩ : ByteArray)⟩ : V),(⟨1,0,(⟨#[]⟩ : ByteArray)⟩ : V)]⟩ : QU)]),b3,b4,((a7 ++ [(⟨(((j + 1:Nat):Int)),0,[(⟨1,(((j:Nat):Int)),(⟨#[]⟩ : ByteArray)⟩ : V),(⟨1,0,(⟨#[]⟩ : ByteArray)⟩ : V)]⟩ : QU)]).length)) (Nat.lt_succ_self _) hE [12,11,10,6,5] Z (asK [] Z) Z
 replace hm:=Qz hm b7
 refine Q2 [11,10,6,5] (S':=V4 ..) Z (Q1x (Qk (Qk (QJ ?_))))
 have hE:=(Zi hm).symm
 replace hE:=Qv hLu2 hE
 refine Qs [1,2,3,4,0] Z (H':=V5 ..) Z ?_
 refine Q9 (a7,aF,aG,aH) hE [10,6,5,11] Z (asK [] Z) Z
 rintro ⟨aA,a8,a9,aB⟩ hE
 try dsimp only
 have hm:=hLj_2
 rw [hE] at hm
 refine Q5 (Q1 (wP Z (wP Z (Q3 (Q4 (Q5 ?_))))))
 obtain ⟨bH,hm,hLj_3⟩:=Q6 hm
 refine QI (σ:=Int × Int) (fun (aN,aO)=>bH = (aN,aO)) (fun (aN,aO)=>[(10,.pointer (some ⟨aU,0,none⟩)),(11,.slice a8 aB a9),(14,.int .i64 aN),(15,.int .i64 aO)]) (fun (aN,aO)=>[]) (fun (aN,aO)=>[.blk aU [.slice (some ⟨aQ,0,none⟩) 1 1,.slice (some ⟨aR,0,none⟩) 1 1] 25,.blk aQ [.string ((⟨#[112]⟩ : ByteArray)),.int .i64 2] 69,.blk aR [.string ((⟨#[114]⟩ : ByteArray)),.int .i64 0,.int .i64 0,.slice s a5 z,V1] 52,.own 67 10 QZ (.slice s a5 z) q,Q2d QM 71 3 (.slice a8 aB a9) aA]) ?_ ?_
 refine Q5 (Q1 (wP Z (Q3 (Q4 (Qw (Q1E (σ:=Nat × Nat × Int × Int) (fun (b2,aJ,aI,aK)=>Q1M (Q26 N aY aS) b2 (aJ,aI,aK) = some bH) (fun (b2,aJ,aI,aK)=>b2) (fun (b2,aJ,aI,aK)=>[(16,.int .i64 ((aJ:Nat):Int)),(15,.int .i64 aI),(14,.int .i64 aK),(10,.pointer (some ⟨aU,0,none⟩)),(6,.int .i64 (1 + aS)),(5,.int .i64 (1 + aY)),(11,.slice a8 aB a9)]) (fun (b2,aJ,aI,aK)=>[]) (fun (b2,aJ,aI,aK)=>[.blk aU [.slice (some ⟨aQ,0,none⟩) 1 1,.slice (some ⟨aR,0,none⟩) 1 1] 25,.blk aQ [.string ((⟨#[112]⟩ : ByteArray)),.int .i64 2] 69,.blk aR [.string ((⟨#[114]⟩ : ByteArray)),.int .i64 0,.int .i64 0,.slice s a5 z,V1] 52,.own 67 10 QZ (.slice s a5 z) q,Q2d QM 71 3 (.slice a8 aB a9) aA]) (N,0,1,0) hm [16,15,14,10,6,5,11] Z (asK [] Z) Z (fun s_ hm=>?_)))))))
 obtain ⟨b2,aJ,aI,aK⟩:=s_
 try dsimp only at hm ⊢
 obtain ⟨cL,cM,bY,hq,hLu3⟩:=Q1e hm
 clear hm
 subst bY
 replace hm:=hq
 clear hq
 unfold Q26 at hm
 try dsimp only at hm
 refine Q5 (Q5 (Q1 (wP Z (wP Z (wP Z (Q3 (Q4 (Q2 [63,16,15,14,10,6,5,11] (S':=V8 ..) Z ?_))))))))
 refine Qj Z (fun bA=>?_) (fun bA=>?_)
 replace hm:=QA hm bA
 refine Q2 [16,15,14,10,6,5,11] (S':=V7 ..) Z (Qq (Q4 (Q5 (Qw (Q5 (Q1 (wP Z (wP Z (wP Z ?_)))))))))
 obtain ⟨bZ,hm⟩:=Qu hm
 refine QH (d:=68) (v':=.int .i64 (aI * (1 + aS))) (S':=V9 ..) Z Z (i64_in bZ) (Q1b (S':=V9 ..) Z Z Z Z Z (Q3 (Q4 (Q2 [15,16,14,10,6,5,11] (S':=V7 ..) Z (Q1 (wP Z (wP Z (wP Z ?_))))))))
 obtain ⟨c0,hm⟩:=Qu hm
 refine QH (d:=71) (v':=.int .i64 (aK + (aI * (1 + aS)))) (S':=V9 ..) Z Z (i64_in c0) (Q1b (S':=V9 ..) Z Z Z Z Z (Q3 (Qh (Q4 (Q2 [14,15,16,10,6,5,11] (S':=V7 ..) Z (Q1 (wP Z (wP Z ?_))))))))
 obtain ⟨c1,hm⟩:=Qu hm
 refine QH (d:=65) (v':=.int .i64 ((aJ + 1:Nat):Int)) (S':=V8 ..) Z Z (Q1J (a:=aJ) (b:=1) c1) (Q1b (S':=V8 ..) Z Z Z Z Z (Q3 ?_))
 have hE:=(Zi hm).symm
 replace hE:=QO hLu3 hE
 refine Q1a (_,aJ + 1,aI * (1 + aS),aK + (aI * (1 + aS))) (Nat.lt_succ_self _) hE [16,15,14,10,6,5,11] Z (asK [] Z) Z
 replace hm:=Qz hm bA
 refine Q2 [15,14,10,11] (S':=V4 ..) Z (Q1x (Qk (Qk (QJ ?_))))
 have hE:=(Zi hm).symm
 replace hE:=Qv hLu3 hE
 refine Q9 (aK,aI) hE [10,11,14,15] Z (asK [] Z) Z
 rintro ⟨aN,aO⟩ hE
 try dsimp only
 have hm:=hLj_3
 rw [hE] at hm
 try dsimp only at hm
 refine Q5 (Q1 (QR 0 0 Z Z Z Zq Z Z Z (cs:=[_,_]) Z Q6R Q9r Z Z (wP Z (Q2f (sz:=2) (m:=1) Qf ([(⟨(⟨#[112]⟩ : ByteArray),2⟩ : Qn)]) 1 Z (fun F w hφ=>⟨[.string ((⟨#[112]⟩ : ByteArray)),.int .i64 2],[],Z,Z,⟨(),Z,Qr⟩,Z⟩) Z (by decide) (H':=V5 ..) Z (Q15 3 Z (fun aV _=>?_))))))
 subst aV
 refine Q2w 3 Z (H':=V4 ..) Z (Q3f (.sli 10 QZ s z q) (fun F w hφ=>Q1K (hφ _ (Q10 (k:=0) Z))) (Q2f (sz:=5) (m:=1) Qe ([(⟨(⟨#[114]⟩ : ByteArray),0,0,q,[]⟩ : Qp)]) 2 Z (fun F w hφ=>⟨[.string ((⟨#[114]⟩ : ByteArray)),.int .i64 0,.int .i64 0,.slice s q.length z,V1],[],Z,Z,⟨((s,z),(none,0)),Z,(QS (hφ _ (Q10 (k:=0) Z)) (QS Q3Q Qr))⟩,Z⟩) Z (by decide) (H':=V4 ..) Z (Q3h 3 Z (fun c2 _=>?_))))
 subst c2
 obtain ⟨⟨aW,aX⟩,c3,hm⟩:=Q6 hm
 try dsimp only at hm
 refine wC [1,2,3] [0] Z fn_12 Z (Q94 N (some ⟨aQ,0,none⟩) ([(⟨(⟨#[112]⟩ : ByteArray),2⟩ : Qn)].length) 1 [(⟨(⟨#[112]⟩ : ByteArray),2⟩ : Qn)] (some ⟨aR,0,none⟩) ([(⟨(⟨#[114]⟩ : ByteArray),0,0,q,[]⟩ : Qp)].length) 1 [(⟨(⟨#[114]⟩ : ByteArray),0,0,q,[]⟩ : Qp)] a8 aA.length a9 aA _ _ c3) (asK [] Z) Z (H':=[_]) Z ?_
 rintro _ _ _ ⟨c9,cA,cB,rfl,rfl,rfl⟩
 obtain ⟨aM,hm⟩:=Qu hm
 refine wl_at 2 (v':=.agg #[.slice (some ⟨aQ,0,none⟩) ([(⟨(⟨#[112]⟩ : ByteArray),2⟩ : Qn)].length) 1,.slice (some ⟨aR,0,none⟩) 1 1]) Z (by rw [aM]) (Q8V 3 (φ':=.blk aU [.slice (some ⟨aQ,0,none⟩) ([(⟨(⟨#[112]⟩ : ByteArray),2⟩ : Qn)].length) 1,.slice (some ⟨aR,0,none⟩) 1 1] 25) Z (by rw [aM]) (H':=V4 ..) Z ?_)
 obtain ⟨aM,hm⟩:=Qu hm
 refine wl_at 2 (v':=.agg #[.slice (some ⟨aQ,0,none⟩) ([(⟨(⟨#[112]⟩ : ByteArray),2⟩ : Qn)].length) 1,.slice (some ⟨aR,0,none⟩) ([(⟨(⟨#[114]⟩ : ByteArray),0,0,q,[]⟩ : Qp)].length) 1]) Z (by rw [aM]) (Q8V 3 (φ':=.blk aU [.slice (some ⟨aQ,0,none⟩) ([(⟨(⟨#[112]⟩ : ByteArray),2⟩ : Qn)].length) 1,.slice (some ⟨aR,0,none⟩) ([(⟨(⟨#[114]⟩ : ByteArray),0,0,q,[]⟩ : Qp)].length) 1] 25) Z (by rw [aM]) (H':=V4 ..) Z (wP Z (wP Z (wP Z (wP Z (wP Z (Q3 (Q4 (Q2 [18,17,14,15] (S':=V4 ..) Z (Q5 (Q5 (Q1 (wP Z ?_)))))))))))))
 refine wP Z (Q3 (Q4 (Q2 [79,18,17,15] (S':=V4 ..) Z ?_)))
 refine Qj Z (fun bB=>?_) (fun bB=>?_)
 replace hm:=QA hm bB
 refine Q2 [18,17] (S':=[_,_]) Z (Q5 (Q1 (wP Z (wP Z (QH (d:=81) (v':=.bool (aX == 204)) (S':=V3 ..) Z Z (Q3c (a:=aX) (b:=204)) (wP Z ?_))))))
 refine Qt (d:=82) (S':=V4 ..) Z Z (fun bC=>?_) (fun bC=>?_)
 replace hm:=QA hm bC
 refine wP Z (Q15 0 Z (fun c4 _=>(wN Z tE_31 (QH (d:=84) (v':=.int .i64 ((aW.length:Nat):Int)) (S':=V6 ..) Z Z (Q4Y c4) (wP Z (QH (d:=85) (v':=.bool (aW.length == 0)) (S':=V7 ..) Z Z (Q3c (a:=aW.length) (b:=0)) (wP Z (wP Z (Q3 (Q4 (Q2 [4] (S':=[_]) Z (Qb (Q7 ?_)))))))))))))
 have hE:=(Zi hm).symm
 replace hE:=hE.symm
 subst hE
 refine Ql (Hr:=[]) [] Tryz.results5 (Qc Z) ⟨Z,Z,Z⟩ (asK [] Z) Z Z (.inl Z)
 replace hm:=Qz hm bC
 refine wO Z (wO Z (wO Z (wP Z (wP Z (Q3 (Q4 (Q2 [4] (S':=[_]) Z (Qb (Q7 ?_)))))))))
 have hE:=(Zi hm).symm
 replace hE:=hE.symm
 subst hE
 refine Ql (Hr:=[]) [] Tryz.results5 (Qc Z) ⟨Z,Z,Z⟩ (asK [] Z) Z Z (.inl Z)
 replace hm:=Qz hm bB
 refine Q2 [18,17,15] (S':=V3 ..) Z (Qq (Q4 (Q5 (Q1 (wP Z (wP Z (QH (d:=88) (v':=.bool (aX == 0)) (S':=V4 ..) Z Z (Q3c (a:=aX) (b:=0)) (wP Z ?_))))))))
 refine Qt (d:=89) (S':=V5 ..) Z Z (fun bD=>?_) (fun bD=>?_)
 replace hm:=QA hm bD
 refine wP Z (Q15 0 Z (fun c5 _=>(wN Z tE_31 (QH (d:=91) (v':=.int .i64 ((aW.length:Nat):Int)) (S':=V7 ..) Z Z (Q4Y c5) (wP Z (wP Z (wP Z (wP Z (Q3 (Q4 (Q2 [4] (S':=[_]) Z (Qb ?_))))))))))))
 have hE:=(Zi hm).symm
 replace hE:=hE.symm
 subst hE
 refine Ql (Hr:=[]) [] Tryz.results5 (Qc Z) ⟨Z,Z,Z⟩ (asK [] Z) Z Z (.inl Z)
 replace hm:=Qz hm bD
 refine wO Z (wO Z (wO Z (wO Z (wP Z (wP Z (Q3 (Q4 (Q2 [4] (S':=[_]) Z (Qb ?_)))))))))
 have hE:=(Zi hm).symm
 replace hE:=hE.symm
 subst hE
 refine Ql (Hr:=[]) [] Tryz.results5 (Qc Z) ⟨Z,Z,Z⟩ (asK [] Z) Z Z (.inl Z)
end Go.Proofs.YtbgodclhmgmcgaaGreatDoor
