import Derived.Test.YtbgodclhmgmcgaaGreatDoorXW3
namespace Go.Proofs.YtbgodclhmgmcgaaGreatDoor
open Go.RowKit
set_option maxRecDepth 100000
set_option maxHeartbeats 4000000
theorem QaL (N:Nat)(aD:Nat)(a1:OA)(a6:Nat)(l0:List Qg)(aA:OA)(aB:Nat)(l1:List Qj)(a2:Int)(a3:Int)(a4:Int)(a5:Int)(aI:OA)(aJ:Nat)(l6:List Q3S)(a7:Int)(a8:Int)(a9:Int)(aN:ByteArray)(aO:Int)(aP:Int)(aG:OA)(aH:Nat)(aE:List Qe)(o0:Bool)(o1:Int)(o2:Int)(hm:Q5a N l0 l1 a2 a3 a4 a5 l6 a7 a8 a9 aN aO aP aE=some (o0,o1,o2)):Q1d Tryz.prog 102 [.pointer (some ⟨aD,0,none⟩),.agg #[.int .u8 a4,.int .i64 a5,.slice aI l6.length aJ,.int .u8 a7,.int .u8 a8,.int .i64 a9,.string aN,.int .i64 aO,.int .u8 aP,.slice aG aE.length aH]] [.sli 2 Qh a1 a6 l0,.sli 5 Qi aA aB l1,.sli 5 Q2w aI aJ l6,.sli 7 Qs aG aH aE] [.blk aD [.slice a1 l0.length a6,.slice aA l1.length aB,.int .i64 a2,.int .i64 a3] 124] (fun v Φr Hr=>v=.bool o0∧Φr=[.sli 2 Qh a1 a6 l0,.sli 5 Qi aA aB l1]∧Hr=[.blk aD [.slice a1 l0.length a6,.slice aA l1.length aB,.int .i64 o1,.int .i64 o2] 124]):=by
 unfold Q5a at hm
 refine QI Tryz.func102 Z Tryz.ntmps102 Z (S:=[_,_]) Z (fun C=>(Q5 (Q1 (wB Z (fun g3=>(wP Z (Q4 (Q3 (Q2 [3,0] (S':=[_,_]) Z (Q5 (Q5 (Q1 (wF Z Q6o (wD 0 0 Z tS_53 tA_53 Z (Q4 ?_)))))))))))))))
 refine Q3 (Q2 [8,3,0] (S':=V3 ..) Z (Qx (Q5 ?_)))
 obtain ⟨bC,hm,hLj_1⟩:=Q7 hm
 refine QF (σ:=Bool) (fun aF=>bC=aF) (fun aF=>[(8,.int .u8 a4),(3,.pointer (some ⟨g3,0,none⟩)),(0,.pointer (some ⟨aD,0,none⟩)),(9,.bool aF)]) (fun aF=>[.sli 5 Q2w aI aJ l6,.sli 7 Qs aG aH aE,.sli 2 Qh a1 a6 l0,.sli 5 Qi aA aB l1]) (fun aF=>[.blk g3 [.int .u8 a4,.int .i64 a5,.slice aI l6.length aJ,.int .u8 a7,.int .u8 a8,.int .i64 a9,.string aN,.int .i64 aO,.int .u8 aP,.slice aG aE.length aH] 67,.blk aD [.slice a1 l0.length a6,.slice aA l1.length aB,.int .i64 a2,.int .i64 a3] 124]) ?_ ?_
 refine Q5 (Q1 (wP Z (wP Z (Q4 (Q3 (Q2 [9,8,3,0] (S':=V4 ..) Z ?_))))))
 refine Qm Z (fun aQ=>?_) (fun aQ=>?_)
 replace hm:=Qw hm aQ
 refine Qt ?_
 have hE:=(Zi hm).symm
 refine Qd (a4==1) hE [8,3,0,9] Z (asK [2,3,0,1] Z) Z
 replace hm:=Qv hm aQ
 refine Q2 [8,3,0] (S':=V3 ..) Z (Q1 (wP Z (wP Z (Q4 ?_))))
 have hE:=(Zi hm).symm
 refine Qd (a4==2) hE [8,3,0,9] Z (asK [2,3,0,1] Z) Z
 rintro aF hE
 try dsimp only
 have hm:=hLj_1
 try rw [hE] at hm
 refine Qm Z (fun aQ=>?_) (fun aQ=>?_)
 replace hm:=Qw hm aQ
 refine Q2 [3,0] (S':=[_,_]) Z (Q5 (Q5 ?_))
 obtain ⟨bD,hm,hLj_2⟩:=Q7 hm
 unfold Q5b at hm
 refine QF (σ:=Bool) (fun aC=>bD=aC) (fun aC=>[(3,.pointer (some ⟨g3,0,none⟩)),(0,.pointer (some ⟨aD,0,none⟩)),(31,.bool aC)]) (fun aC=>[.sli 5 Q2w aI aJ l6,.sli 7 Qs aG aH aE,.sli 2 Qh a1 a6 l0,.sli 5 Qi aA aB l1]) (fun aC=>[.blk g3 [.int .u8 a4,.int .i64 a5,.slice aI l6.length aJ,.int .u8 a7,.int .u8 a8,.int .i64 a9,.string aN,.int .i64 aO,.int .u8 aP,.slice aG aE.length aH] 67,.blk aD [.slice a1 l0.length a6,.slice aA l1.length aB,.int .i64 a2,.int .i64 a3] 124]) ?_ ?_
 refine Q1 (wP Z (wF Z tF_67_1 (wD 0 1 Z QZ Q15 Z (wF Z Q6J (wD 0 2 Z tS_60 tA_60 Z (wN Z Q8Y ?_))))))
 obtain ⟨bV,bE,hm⟩:=Q7 hm
 refine wC [1] [0] Z fn_135 Z (Q7U N aD a1 a6 l0 aA aB l1 a2 a3 a5 ((l6.length:Nat):Int) _ bE) (asK [2,3] Z) Z (H':=[_]) Z ?_
 rintro _ _ _ ⟨rfl,rfl,rfl⟩
 refine wP Z (wP Z ?_)
 refine Qr (d:=20) (S':=V10 ..) Z Z (fun aU=>?_) (fun aU=>?_)
 replace hm:=Qw hm aU
 refine wO Z (wO Z (wO Z (wO Z (wP Z (wP Z (wO Z (wO Z (wO Z (wO Z (wP Z (Q4 ?_)))))))))))
 have hE:=(Zi hm).symm
 refine Qu [1,0] Z (H':=[_,_]) Z ?_
 refine Qd true hE [3,0,31] Z (asK [2,3,0,1] Z) Z
 replace hm:=Qv hm aU
 refine wF Z Q93 (wF Z tF_65_0 (wD 1 3 Z tS_61 tA_61 Z (wP Z (wP Z (wP Z ?_)))))
 refine Qr (d:=26) (S':=V16 ..) Z Z (fun aV=>?_) (fun aV=>?_)
 replace hm:=Qw hm aV
 refine wO Z (wO Z (wO Z (wO Z (wP Z (Q4 ?_)))))
 have hE:=(Zi hm).symm
 refine Qu [1,0] Z (H':=[_,_]) Z ?_
 refine Qd true hE [3,0,31] Z (asK [2,3,0,1] Z) Z
 replace hm:=Qv hm aV
 refine wF Z Q93 (QM 1 3 Z Z Z Zq Z Z Z (cs:=V7 ..) Z Q52 Q6E Z Z ?_)
 obtain ⟨bO,bF,hm⟩:=Q7 hm
 refine wC [] [0,1] Z fn_136 Z (Q55 N a7 a8 a9 aN aO aP aG aH aE false false false _ bF) (asK [3] Z) Z (H':=[_,_]) Z ?_
 rintro _ _ _ ⟨rfl,rfl,rfl⟩
 refine wP Z (wP Z (Q4 ?_))
 have hE:=(Zi hm).symm
 refine Qu [1,0] Z (H':=[_,_]) Z ?_
 refine Qd (!bO) hE [3,0,31] Z (asK [2,3,0,1] Z) Z
 rintro aC hE
 try dsimp only
 have hm:=hLj_2
 try rw [hE] at hm
 refine Qm Z (fun aW=>?_) (fun aW=>?_)
 replace hm:=Qw hm aW
 refine Q2 [] (S':=[]) Z (Q5 (Q1 (wP Z (Q4 (Q3 (Qk (Q8 (Qa (Q8 ?_)))))))))
 have hE:=(Zi hm).symm
 obtain ⟨hE0,hF1⟩:=Prod.mk.inj hE
 obtain ⟨hE1,hE2⟩:=Prod.mk.inj hF1
 clear hE hF1
 replace hE0:=hE0.symm
 subst hE0
 replace hE1:=hE1.symm
 subst hE1
 replace hE2:=hE2.symm
 subst hE2
 refine Qq (Hr:=[_]) [1] Tryz.results102 (Qb Z) ⟨Z,Z,Z⟩ (asK [2,3] Z) Z Z (.inl Z)
 replace hm:=Qv hm aW
 refine Q2 [3,0] (S':=[_,_]) Z (Qt (Q3 (Q5 ?_)))
 obtain ⟨b8,hm,hLj_3⟩:=QN hm
 refine QF (σ:=Int) (fun y=>b8=.inl y) (fun y=>[(3,.pointer (some ⟨g3,0,none⟩)),(0,.pointer (some ⟨aD,0,none⟩))]) (fun y=>[.sli 5 Q2w aI aJ l6,.sli 7 Qs aG aH aE,.sli 2 Qh a1 a6 l0,.sli 5 Qi aA aB l1]) (fun y=>[.blk g3 [.int .u8 a4,.int .i64 a5,.slice aI l6.length aJ,.int .u8 a7,.int .u8 a8,.int .i64 a9,.string aN,.int .i64 aO,.int .u8 aP,.slice aG aE.length aH] 67,.blk aD [.slice a1 l0.length a6,.slice aA l1.length aB,.int .i64 y,.int .i64 a3] 124]) ?_ ?_
 refine Q5 (Q1 (wF Z Q6J (wD 0 2 Z tS_60 tA_60 Z (wN Z Q8Y (wP Z (Q4 (Q3 (Q2 [35,34,33,3,0] (S':=V5 ..) Z (Qx (Q1o (σ:=Nat×Nat×Int) (fun (aR,z,h)=>Q19 (Q2K N l6 l0 l1 a3 a4) aR (z,h)=some b8) (fun (aR,z,h)=>aR) (fun (aR,z,h)=>[(35,.int .i64 ((z:Nat):Int)),(34,.int .i64 ((l6.length:Nat):Int)),(33,.slice aI l6.length aJ),(3,.pointer (some ⟨g3,0,none⟩)),(0,.pointer (some ⟨aD,0,none⟩))]) (fun (aR,z,h)=>[.sli 5 Q2w aI aJ l6,.sli 7 Qs aG aH aE,.sli 2 Qh a1 a6 l0,.sli 5 Qi aA aB l1]) (fun (aR,z,h)=>[.blk g3 [.int .u8 a4,.int .i64 a5,.slice aI l6.length aJ,.int .u8 a7,.int .u8 a8,.int .i64 a9,.string aN,.int .i64 aO,.int .u8 aP,.slice aG aE.length aH] 67,.blk aD [.slice a1 l0.length a6,.slice aA l1.length aB,.int .i64 h,.int .i64 a3] 124]) (N,0,a2) hm [35,34,33,3,0] Z (asK [0,1,2,3] Z) Z (fun s_ hm=>?_)))))))))))
 obtain ⟨aR,z,h⟩:=s_
 try dsimp only at hm ⊢
 obtain ⟨bW,bX,bG,hq,hLu1⟩:=Q10 hm
 clear hm
 subst bG
 replace hm:=hq
 clear hq
 unfold Q2K at hm
 try dsimp only at hm
 refine Q5 (Q1 (wP Z (QD (d:=36) (v':=.bool (decide (z < l6.length))) (S':=V5 ..) Z Z (Q2E (a:=z) (b:=l6.length)) (Q4 (Q3 (Q5 ?_))))))
 refine Qm Z (fun aX=>?_) (fun aX=>?_)
 replace hm:=Qw hm aX
 refine Q2 [35,34,33,3,0] (S':=V5 ..) Z (Qt (Q3 (Q5 (Qx (Q5 (Q1 ?_))))))
 obtain ⟨aY,bH,hm⟩:=Q7 hm
 refine QT 0 z Z Z Z Zq Z Z Z Z Z bH Q8Y tS_59 (fun bY bZ bU bP=>(Q1h Q89 1 Z (fun c0 bI _=>?_)))
 subst bI
 refine Q1g 0 0 Z Z Z Zq Z Z Z (cs:=V5 ..) Z tS_59 tA_59 Z Z (Q13 Z Z Z Zq Z tZ_59 Z (fun g6=>(wS 0 0 Z tS_59 (all':=V5 ..) Z (H':=V3 ..) Z (Q4 (Q3 (Q2 [6,35,34,33,3,0] (S':=V6 ..) Z (Q5 (Q1 (wP Z (QM 0 0 Z Z Z Zq Z Z Z (cs:=V5 ..) Z tS_59 tA_59 Z Z (wF Z Q6o (wD 1 0 Z tS_53 tA_53 Z (wP Z ?_)))))))))))))
 obtain ⟨⟨bQ,bB⟩,bJ,hm⟩:=Q7 hm
 try dsimp only at hm
 refine wC [2] [0,1] Z fn_137 Z (QaW N aD a1 a6 l0 aA aB l1 h a3 aY.k aY.var aY.v.k aY.v.n aY.v.s (a4==1) _ _ bJ) (asK [4,5] Z) Z (H':=[_,_]) Z ?_
 rintro _ _ _ ⟨rfl,rfl,rfl⟩
 refine wP Z (Q4 (Q3 (Q2 [45,35,34,33,3,0] (S':=V6 ..) Z ?_)))
 refine Qm Z (fun aZ=>?_) (fun aZ=>?_)
 replace hm:=Qw hm aZ
 refine Q2 [] (S':=[]) Z (Q5 (Q1 (wP Z (Q4 (Q3 (Qk (Qa (Q8 (Q8 (Qa (Q8 (Qa (Q8 ?_)))))))))))))
 have hE:=(Zi hm).symm
 replace hE:=Qn hLu1 hE
 replace hE:=Qn hLj_3 hE
 obtain ⟨hE0,hF1⟩:=Prod.mk.inj hE
 obtain ⟨hE1,hE2⟩:=Prod.mk.inj hF1
 clear hE hF1
 replace hE0:=hE0.symm
 subst hE0
 replace hE1:=hE1.symm
 subst hE1
 replace hE2:=hE2.symm
 subst hE2
 refine Qq (Hr:=[_]) [0] Tryz.results102 (Qb Z) ⟨Z,Z,Z⟩ (asK [0,1] Z) Z Z (.inl Z)
 replace hm:=Qv hm aZ
 refine Q2 [35,34,33,3,0] (S':=V5 ..) Z (Qt (Qf (Q3 (Q1 (wP Z ?_)))))
 obtain ⟨bK,hm⟩:=Qz hm
 refine QD (d:=46) (v':=.int .i64 ((z+1:Nat):Int)) (S':=V5 ..) Z Z (Q1f (a:=z) (b:=1) bK) (QS (S':=V5 ..) Z Z Z Z Z (Q4 ?_))
 have hE:=(Zi hm).symm
 replace hE:=QA hLu1 hE
 refine Qu [2,0] Z (H':=[_,_]) Z ?_
 refine QY (_,z+1,bB) (Nat.lt_succ_self _) hE [35,34,33,3,0] Z (asK [4,5,0,1] Z) Z
 replace hm:=Qv hm aX
 refine Q2 [3,0] (S':=[_,_]) Z (Q1k (Qo (Qo (QG ?_))))
 have hE:=(Zi hm).symm
 replace hE:=Qn hLu1 hE
 refine Qd h hE [3,0] Z (asK [0,1,2,3] Z) Z
 rintro y hE
 try dsimp only
 have hm:=QA hLj_3 hE
 refine Q5 ?_
 obtain ⟨bL,hm,hLj_4⟩:=Q7 hm
 refine QF (σ:=Int) (fun a0=>bL=a0) (fun a0=>[]) (fun a0=>[.sli 2 Qh a1 a6 l0,.sli 5 Qi aA aB l1]) (fun a0=>[.blk aD [.slice a1 l0.length a6,.slice aA l1.length aB,.int .i64 y,.int .i64 a0] 124]) ?_ ?_
 refine Q5 (Q1 (wF Z Q6o (wD 0 0 Z tS_53 tA_53 Z (wP Z (Q4 (Q3 (Q2 [49,0] (S':=[_,_]) Z ?_)))))))
 refine Qm Z (fun b0=>?_) (fun b0=>?_)
 replace hm:=Qw hm b0
 refine Q2 [0] (S':=[_]) Z (Q1 (wP Z (wP Z (wF Z tF_124_2 (wD 1 3 Z QZ Q15 Z (wP Z ?_))))))
 obtain ⟨bM,hm⟩:=Qz hm
 refine QD (d:=54) (v':=.int .i64 (a3+1)) (S':=V5 ..) Z Z (i64_in bM) (wP Z (wF Z tF_124_2 (wS 1 3 Z QZ (all':=V4 ..) Z (H':=[_,_]) Z (Q4 ?_))))
 have hE:=(Zi hm).symm
 refine Qu [1] Z (H':=[_]) Z ?_
 refine Qd (a3+1) hE [] Z (asK [2,3] Z) Z
 replace hm:=Qv hm b0
 refine Q2 [] (S':=[]) Z (Qt ?_)
 have hE:=(Zi hm).symm
 refine Qu [1] Z (H':=[_]) Z ?_
 refine Qd a3 hE [] Z (asK [2,3] Z) Z
 rintro a0 hE
 try dsimp only
 have hm:=hLj_4
 try rw [hE] at hm
 refine Q5 (Q1 (wP Z (Q4 (Q3 (Qk (Qa (Q8 ?_)))))))
 have hE:=(Zi hm).symm
 obtain ⟨hE0,hF1⟩:=Prod.mk.inj hE
 obtain ⟨hE1,hE2⟩:=Prod.mk.inj hF1
 clear hE hF1
 replace hE0:=hE0.symm
 subst hE0
 replace hE1:=hE1.symm
 subst hE1
 replace hE2:=hE2.symm
 subst hE2
 refine Qq (Hr:=[_]) [0] Tryz.results102 (Qb Z) ⟨Z,Z,Z⟩ (asK [0,1] Z) Z Z (.inl Z)
 replace hm:=Qv hm aQ
 refine Q2 [8,3,0] (S':=V3 ..) Z (Q5 (Q1 (wP Z (wP Z (Q4 (Q3 (Q2 [57,3,0] (S':=V3 ..) Z ?_)))))))
 refine Qm Z (fun b1=>?_) (fun b1=>?_)
 replace hm:=Qw hm b1
 refine Q2 [3,0] (S':=[_,_]) Z (Q5 (Q1 (wF Z tF_67_1 (wD 0 1 Z QZ Q15 Z (wP Z (wP Z ?_))))))
 refine Qr (d:=62) (S':=V5 ..) Z Z (fun b2=>?_) (fun b2=>?_)
 replace hm:=Qw hm b2
 refine wF Z Q6J (wD 0 2 Z tS_60 tA_60 Z (wN Z Q8Y (wP Z (QD (d:=66) (v':=.bool (l6.length==0)) (S':=V9 ..) Z Z (Q6W (a:=l6.length) (b:=0)) (wP Z (wP Z ?_))))))
 refine Qr (d:=68) (S':=V11 ..) Z Z (fun b3=>?_) (fun b3=>?_)
 replace hm:=Qw hm b3
 refine wP Z (wF Z Q93 (QM 0 3 Z Z Z Zq Z Z Z (cs:=V7 ..) Z Q52 Q6E Z Z ?_))
 obtain ⟨c1,bN,hm⟩:=Q7 hm
 refine wC [1] [0] Z fn_138 Z (Q87 N aD a1 a6 l0 aA aB l1 a2 a3 a7 a8 a9 aN aO aP aG aH aE _ bN) (asK [2,3,1] Z) Z (H':=[_]) Z ?_
 rintro _ _ _ ⟨rfl,rfl,rfl⟩
 refine wP Z (wP Z (Q4 (Q3 (Q2 [4] (S':=[_]) Z (Qk (Qa (Q8 ?_)))))))
 have hE:=(Zi hm).symm
 obtain ⟨hE0,hF1⟩:=Prod.mk.inj hE
 obtain ⟨hE1,hE2⟩:=Prod.mk.inj hF1
 clear hE hF1
 replace hE0:=hE0.symm
 subst hE0
 replace hE1:=hE1.symm
 subst hE1
 replace hE2:=hE2.symm
 subst hE2
 refine Qq (Hr:=[_]) [0] Tryz.results102 (Qb Z) ⟨Z,Z,Z⟩ (asK [0,1] Z) Z Z (.inl Z)
 replace hm:=Qv hm b3
 refine wO Z (wO Z (wO Z (wO Z (wP Z (wP Z (Q4 (Q3 (Q2 [4] (S':=[_]) Z (Qk (Qa (Q8 ?_)))))))))))
 have hE:=(Zi hm).symm
 obtain ⟨hE0,hF1⟩:=Prod.mk.inj hE
 obtain ⟨hE1,hE2⟩:=Prod.mk.inj hF1
 clear hE hF1
 replace hE0:=hE0.symm
 subst hE0
 replace hE1:=hE1.symm
 subst hE1
 replace hE2:=hE2.symm
 subst hE2
 refine Qq (Hr:=[_]) [1] Tryz.results102 (Qb Z) ⟨Z,Z,Z⟩ (asK [2,3] Z) Z Z (.inl Z)
 replace hm:=Qv hm b2
 refine wO Z (wO Z (wO Z (wO Z (wP Z (wP Z (wO Z (wO Z (wO Z (wO Z (wP Z (wP Z (Q4 (Q3 ?_)))))))))))))
 refine Q2 [4] (S':=[_]) Z (Qk (Qa (Q8 ?_)))
 have hE:=(Zi hm).symm
 obtain ⟨hE0,hF1⟩:=Prod.mk.inj hE
 obtain ⟨hE1,hE2⟩:=Prod.mk.inj hF1
 clear hE hF1
 replace hE0:=hE0.symm
 subst hE0
 replace hE1:=hE1.symm
 subst hE1
 replace hE2:=hE2.symm
 subst hE2
 refine Qq (Hr:=[_]) [1] Tryz.results102 (Qb Z) ⟨Z,Z,Z⟩ (asK [2,3] Z) Z Z (.inl Z)
 replace hm:=Qv hm b1
 refine Q2 [] (S':=[]) Z (Qt (Qf (Q3 (Q5 (Q1 (wP Z (Q4 (Q3 (Qk ?_)))))))))
 have hE:=(Zi hm).symm
 obtain ⟨hE0,hF1⟩:=Prod.mk.inj hE
 obtain ⟨hE1,hE2⟩:=Prod.mk.inj hF1
 clear hE hF1
 replace hE0:=hE0.symm
 subst hE0
 replace hE1:=hE1.symm
 subst hE1
 replace hE2:=hE2.symm
 subst hE2
 refine Qq (Hr:=[_]) [1] Tryz.results102 (Qb Z) ⟨Z,Z,Z⟩ (asK [2,3] Z) Z Z (.inl Z)
theorem Q9W (N:Nat)(a0:Int)(a1:Int)(a2:Int)(a3:ByteArray)(a4:Int)(a5:Int)(qp0:OA)(qc1:Nat)(l6:List Qe)(qg2:Nat)(qg3:Nat)(qp4:OA)(qc5:Nat)(l7:List Qg)(qp6:OA)(qc7:Nat)(l8:List Qj)(a9:Int)(a10:Int)(o0:Bool)(hm:Q5d N a0 a1 a2 a3 a4 a5 l6 l7 l8 a9 a10=some o0):Q1d Tryz.prog 180 [.agg #[.int .u8 a0,.int .u8 a1,.int .i64 a2,.string a3,.int .i64 a4,.int .u8 a5,.slice qp0 l6.length qc1],.pointer (some ⟨qg2,0,none⟩)] [.sli 7 Qs qp0 qc1 l6,.sli 2 Qh qp4 qc5 l7,.sli 5 Qi qp6 qc7 l8] [.blk qg2 [.pointer (some ⟨qg3,0,none⟩)] 120,.blk qg3 [.slice qp4 l7.length qc5,.slice qp6 l8.length qc7,.int .i64 a9,.int .i64 a10] 124] (fun v Φr Hr=>v=.bool o0∧Φr=[.sli 2 Qh qp4 qc5 l7,.sli 5 Qi qp6 qc7 l8]∧Hr=[.blk qg2 [.pointer (some ⟨qg3,0,none⟩)] 120,.blk qg3 [.slice qp4 l7.length qc5,.slice qp6 l8.length qc7,.int .i64 a9,.int .i64 a10] 124]):=by
 unfold Q5d at hm
 refine QI Tryz.func180 Z Tryz.ntmps180 Z (S:=[_,_]) Z (fun C=>(Q5 (Q1 (wB Z (fun g2=>(wP Z (Q4 (Q3 (Q2 [2,1] (S':=[_,_]) Z (Q5 (Q1 (wD 1 0 Z Q8B Q8x Z (QM 0 0 Z Z Z Zq Z Z Z (cs:=V7 ..) Z Q52 Q6E Z Z ?_)))))))))))))
 obtain ⟨v6,hc6,hm⟩:=Q7 hm
 refine wC [2] [0,1] Z fn_138 Z (Q87 N qg3 qp4 qc5 l7 qp6 qc7 l8 a9 a10 a0 a1 a2 a3 a4 a5 qp0 qc1 l6 _ hc6) (asK [1,2,0] Z) Z (H':=[_,_]) Z ?_
 rintro _ _ _ ⟨rfl,rfl,rfl⟩
 refine wP Z (wP Z (Q4 (Q3 (Q2 [3] (S':=[_]) Z (Qk ?_)))))
 have hE:=(Zi hm).symm
 replace hE:=hE.symm
 subst hE
 refine Qq (Hr:=[_,_]) [2,0] Tryz.results180 (Qb Z) ⟨Z,Z,Z⟩ (asK [0,1] Z) Z Z (.inl Z)
theorem Q8L (N:Nat)(aB:OA)(aC:Nat)(l0:List Qe)(a5:Nat)(y:Nat)(z:OA)(a0:Nat)(l1:List Qg)(a1:OA)(a2:Nat)(l2:List Qj)(a3:Int)(a4:Int)(o0:Int)(hm:Q4n N l0 l1 l2 a3 a4=some o0):Q1d Tryz.prog 214 [.slice aB l0.length aC,.func (.func 180) #[] #[.pointer (some ⟨a5,0,none⟩)]] [.sli 7 Qs aB aC l0,.sli 2 Qh z a0 l1,.sli 5 Qi a1 a2 l2] [.blk a5 [.pointer (some ⟨y,0,none⟩)] 120,.blk y [.slice z l1.length a0,.slice a1 l2.length a2,.int .i64 a3,.int .i64 a4] 124] (fun v Φr Hr=>v=.int .i64 o0∧Φr=[.sli 2 Qh z a0 l1,.sli 5 Qi a1 a2 l2]∧Hr=[.blk a5 [.pointer (some ⟨y,0,none⟩)] 120,.blk y [.slice z l1.length a0,.slice a1 l2.length a2,.int .i64 a3,.int .i64 a4] 124]):=by
 unfold Q4n at hm
 refine QI Tryz.func214 Z Tryz.ntmps214 Z (S:=[_,_]) Z (fun C=>(Q5 (Q1 (wP Z (Q4 (Q3 (Q2 [0,1] (S':=[_,_]) Z (Q5 ?_))))))))
 obtain ⟨aE,hm,hLj_1⟩:=QN hm
 refine QF (σ:=Unit) (fun _=>aE=.inl ()) (fun _=>[]) (fun _=>[.sli 2 Qh z a0 l1,.sli 5 Qi a1 a2 l2]) (fun _=>[.blk a5 [.pointer (some ⟨y,0,none⟩)] 120,.blk y [.slice z l1.length a0,.slice a1 l2.length a2,.int .i64 a3,.int .i64 a4] 124]) ?_ ?_
 refine Q5 (Q1 (wP Z (wN Z Q4r (wP Z (Q4 (Q3 (Q2 [8,7,0,1] (S':=V4 ..) Z (Qx (Q1o (σ:=Nat×Nat) (fun (a6,h)=>Q19 (Q2L N l0 l1 l2 a3 a4) a6 h=some aE) (fun (a6,h)=>a6) (fun (a6,h)=>[(8,.int .i64 ((h:Nat):Int)),(7,.int .i64 ((l0.length:Nat):Int)),(0,.slice aB l0.length aC),(1,.func (.func 180) #[] #[.pointer (some ⟨a5,0,none⟩)])]) (fun (a6,h)=>[.sli 7 Qs aB aC l0,.sli 2 Qh z a0 l1,.sli 5 Qi a1 a2 l2]) (fun (a6,h)=>[.blk a5 [.pointer (some ⟨y,0,none⟩)] 120,.blk y [.slice z l1.length a0,.slice a1 l2.length a2,.int .i64 a3,.int .i64 a4] 124]) (N,0) hm [8,7,0,1] Z (asK [0,1,2] Z) Z (fun s_ hm=>?_))))))))))
 obtain ⟨a6,h⟩:=s_
 try dsimp only at hm ⊢
 obtain ⟨aR,aS,aI,hq,hLu1⟩:=Q10 hm
 clear hm
 subst aI
 replace hm:=hq
 clear hq
 unfold Q2L at hm
 try dsimp only at hm
 refine Q5 (Q1 (wP Z (QD (d:=9) (v':=.bool (decide (h < l0.length))) (S':=V4 ..) Z Z (Q2E (a:=h) (b:=l0.length)) (Q4 (Q3 (Q5 ?_))))))
 refine Qm Z (fun aH=>?_) (fun aH=>?_)
 replace hm:=Qw hm aH
 refine Q2 [8,7,0,1] (S':=V4 ..) Z (Qt (Q3 (Q5 (Qx (Q5 (Q1 (wP Z (wP Z (Q4 (Q3 (Q2 [5,8,7,0,1] (S':=V5 ..) Z (Q5 (Q1 ?_)))))))))))))
 refine wP Z (wP Z (wP Z ?_))
 obtain ⟨a7,aJ,hm⟩:=Q7 hm
 refine QT 0 h Z Z Z Zq Z Z Z Z Z aJ Q4r Q52 (fun aT aU aQ aO=>(Q1h Q30 1 Z (fun aK aL _=>?_)))
 subst aL
 refine Q1g 1 0 Z Z Z Zq Z Z Z (cs:=V7 ..) Z Q52 Q6E Z Z ?_
 obtain ⟨aV,aM,hm⟩:=Q7 hm
 refine Q1p [0,1] [] Z Z Z Zq Z Z Z fn_180 Z Z (Q9W N a7.kind a7.value.k a7.value.n a7.value.s a7.var a7.op aK.1 aK.2 a7.kids a5 y z a0 l1 a1 a2 l2 a3 a4 _ aM) (asK [0,4,5] Z) Z (H':=[]) Z ?_
 rintro _ _ _ ⟨rfl,rfl,rfl⟩
 refine Q4 (Q3 (Q2 [16,5,8,7,0,1] (S':=V6 ..) Z ?_))
 refine Qm Z (fun aA=>?_) (fun aA=>?_)
 replace hm:=Qw hm aA
 refine Q2 [5] (S':=[_]) Z (Q5 (Q1 (wP Z (wP Z (Q4 (Q3 (Q2 [4] (S':=[_]) Z (Qk (Qa (Q8 (Q8 (Qa (Q8 ?_)))))))))))))
 have hE:=(Zi hm).symm
 replace hE:=Qn hLu1 hE
 replace hE:=Qn hLj_1 hE
 replace hE:=hE.symm
 subst hE
 refine Qq (Hr:=[_,_]) [0,1] Tryz.results214 (Qb Z) ⟨Z,Z,Z⟩ (asK [0,1] Z) Z Z (.inl Z)
 replace hm:=Qv hm aA
 refine Q2 [8,7,0,1] (S':=V4 ..) Z (Qt (Qf (Q3 (Q1 (wP Z ?_)))))
 obtain ⟨aN,hm⟩:=Qz hm
 refine QD (d:=18) (v':=.int .i64 ((h+1:Nat):Int)) (S':=V4 ..) Z Z (Q1f (a:=h) (b:=1) aN) (QS (S':=V4 ..) Z Z Z Z Z (Q4 ?_))
 have hE:=(Zi hm).symm
 replace hE:=QA hLu1 hE
 refine QY (_,h+1) (Nat.lt_succ_self _) hE [8,7,0,1] Z (asK [5,0,1] Z) Z
 replace hm:=Qv hm aH
 refine Q2 [] (S':=[]) Z (Q1k (Qo (Qo (QG ?_))))
 have hE:=(Zi hm).symm
 replace hE:=Qn hLu1 hE
 refine Qd () hE [] Z (asK [1,2] Z) Z
 rintro _ hE
 try dsimp only
 have hm:=QA hLj_1 hE
 try dsimp only at hm
 refine Q5 (Q1 (wP Z (Q4 (Q3 (Qk ?_)))))
 have hE:=(Zi hm).symm
 replace hE:=hE.symm
 subst hE
 refine Qq (Hr:=[_,_]) [0,1] Tryz.results214 (Qb Z) ⟨Z,Z,Z⟩ (asK [0,1] Z) Z Z (.inl Z)
theorem Q81 (N:Nat)(qp0:OA)(qc1:Nat)(l0:List Qe)(qg2:Nat)(qg3:Nat)(qp4:OA)(qc5:Nat)(l1:List Qg)(qp6:OA)(qc7:Nat)(l2:List Qj)(a3:Int)(a4:Int)(o0:Bool)(hm:Q3z N l0 l1 l2 a3 a4=some o0):Q1d Tryz.prog 179 [.slice qp0 l0.length qc1,.func (.func 180) #[] #[.pointer (some ⟨qg2,0,none⟩)]] [.sli 7 Qs qp0 qc1 l0,.sli 2 Qh qp4 qc5 l1,.sli 5 Qi qp6 qc7 l2] [.blk qg2 [.pointer (some ⟨qg3,0,none⟩)] 120,.blk qg3 [.slice qp4 l1.length qc5,.slice qp6 l2.length qc7,.int .i64 a3,.int .i64 a4] 124] (fun v Φr Hr=>v=.bool o0∧Φr=[.sli 2 Qh qp4 qc5 l1,.sli 5 Qi qp6 qc7 l2]∧Hr=[.blk qg2 [.pointer (some ⟨qg3,0,none⟩)] 120,.blk qg3 [.slice qp4 l1.length qc5,.slice qp6 l2.length qc7,.int .i64 a3,.int .i64 a4] 124]):=by
 unfold Q3z at hm
 refine QI Tryz.func179 Z Tryz.ntmps179 Z (S:=[_,_]) Z (fun C=>(Q5 (Q1 (wP Z (Q4 (Q3 (Q2 [0,1] (S':=[_,_]) Z (Q5 (Q1 (wP Z (wP Z ?_)))))))))))
 obtain ⟨v7,hc7,hm⟩:=Q7 hm
 refine wC [0,1] [] Z fn_214 Z (Q8L N qp0 qc1 l0 qg2 qg3 qp4 qc5 l1 qp6 qc7 l2 a3 a4 _ hc7) (asK [0,1,2] Z) Z (H':=[]) Z ?_
 rintro _ _ _ ⟨rfl,rfl,rfl⟩
 refine wP Z (wP Z (Q4 (Q3 (Q2 [4] (S':=[_]) Z (Qk ?_)))))
 have hE:=(Zi hm).symm
 replace hE:=hE.symm
 subst hE
 refine Qq (Hr:=[_,_]) [0,1] Tryz.results179 (Qb Z) ⟨Z,Z,Z⟩ (asK [0,1] Z) Z Z (.inl Z)
theorem Q7T (N:Nat)(qg0:Nat)(qp1:OA)(qc2:Nat)(l0:List Qg)(qp3:OA)(qc4:Nat)(l1:List Qj)(a2:Int)(a3:Int)(qp5:OA)(qc6:Nat)(l4:List Qe)(o0:Bool)(hm:Q3U N l0 l1 a2 a3 l4=some o0):Q1d Tryz.prog 140 [.pointer (some ⟨qg0,0,none⟩),.slice qp5 l4.length qc6] [.sli 2 Qh qp1 qc2 l0,.sli 5 Qi qp3 qc4 l1,.sli 7 Qs qp5 qc6 l4] [.blk qg0 [.slice qp1 l0.length qc2,.slice qp3 l1.length qc4,.int .i64 a2,.int .i64 a3] 124] (fun v Φr Hr=>v=.bool o0∧Φr=[.sli 2 Qh qp1 qc2 l0,.sli 5 Qi qp3 qc4 l1]∧Hr=[.blk qg0 [.slice qp1 l0.length qc2,.slice qp3 l1.length qc4,.int .i64 a2,.int .i64 a3] 124]):=by
 unfold Q3U at hm
 refine QI Tryz.func140 Z Tryz.ntmps140 Z (S:=[_,_]) Z (fun C=>(Q5 (Q1 (wB Z (fun g2=>(wP Z (Q4 (Q3 (Q2 [2,1] (S':=[_,_]) Z (Q5 (Q1 (wP Z (Q33 Z Z Z Zq Z Z ?_)))))))))))))
 obtain ⟨v7,hc7,hm⟩:=Q7 hm
 refine wC [0,1] [] Z fn_179 Z (Q81 N qp5 qc6 l4 g2 qg0 qp1 qc2 l0 qp3 qc4 l1 a2 a3 _ hc7) (asK [2,0,1] Z) Z (H':=[]) Z ?_
 rintro _ _ _ ⟨rfl,rfl,rfl⟩
 refine wP Z (wP Z (Q4 (Q3 (Q2 [4] (S':=[_]) Z (Qk ?_)))))
 have hE:=(Zi hm).symm
 replace hE:=hE.symm
 subst hE
 refine Qq (Hr:=[_]) [1] Tryz.results140 (Qb Z) ⟨Z,Z,Z⟩ (asK [0,1] Z) Z Z (.inl Z)
theorem QaV (N:Nat)(a8:Nat)(h:OA)(s:Nat)(l0:List Qg)(y:OA)(z:Nat)(l1:List Qj)(a2:Int)(a3:Int)(a4:Int)(a5:Int)(a6:Int)(aR:OA)(aS:Nat)(l7:List Qe)(o0:Bool)(hm:Q5v N l0 l1 a2 a3 a4 a5 a6 l7=some o0):Q1d Tryz.prog 105 [.pointer (some ⟨a8,0,none⟩),.agg #[.int .u8 a4,.int .i64 a5,.int .i64 a6,.slice aR l7.length aS]] [.sli 2 Qh h s l0,.sli 5 Qi y z l1,.sli 7 Qs aR aS l7] [.blk a8 [.slice h l0.length s,.slice y l1.length z,.int .i64 a2,.int .i64 a3] 124] (fun v Φr Hr=>v=.bool o0∧Φr=[.sli 2 Qh h s l0,.sli 5 Qi y z l1]∧Hr=[.blk a8 [.slice h l0.length s,.slice y l1.length z,.int .i64 a2,.int .i64 a3] 124]):=by
 unfold Q5v at hm
 refine QI Tryz.func105 Z Tryz.ntmps105 Z (S:=[_,_]) Z (fun C=>(Q5 (Q1 (wB Z (fun g3=>(wP Z (Q4 (Q3 (Q2 [3,0] (S':=[_,_]) Z (Q5 (Q5 (Q1 (wF Z tF_81_0 (wD 0 0 Z tS_79 tA_79 Z (Q4 ?_)))))))))))))))
 refine Q3 (Q2 [6,3,0] (S':=V3 ..) Z (Qx (Q5 (Q1 (wP Z (wP Z (Q4 (Q3 (Q2 [7,6,3,0] (S':=V4 ..) Z ?_)))))))))
 refine Qm Z (fun aT=>?_) (fun aT=>?_)
 replace hm:=Qw hm aT
 refine Q2 [3,0] (S':=[_,_]) Z (Q5 (Q1 (wF Z Q7k (wD 0 2 Z QZ Q15 Z (wP Z (wP Z ?_))))))
 refine Qr (d:=12) (S':=V5 ..) Z Z (fun aE=>?_) (fun aE=>?_)
 replace hm:=Qw hm aE
 refine wP Z (wF Z Q7j (wD 0 1 Z QZ Q15 Z (wF Z Q5T (wD 0 3 Z Q51 Q50 Z (wN Z Q4r ?_)))))
 obtain ⟨b5,aU,hm⟩:=Q7 hm
 refine wC [1] [0] Z fn_135 Z (Q7U N a8 h s l0 y z l1 a2 a3 a5 ((l7.length:Nat):Int) _ aU) (asK [0,1] Z) Z (H':=[_]) Z ?_
 rintro _ _ _ ⟨rfl,rfl,rfl⟩
 refine wP Z (wP Z ?_)
 refine Qr (d:=21) (S':=V14 ..) Z Z (fun aF=>?_) (fun aF=>?_)
 replace hm:=Qw hm aF
 refine wP Z (wF Z Q5T (wD 1 3 Z Q51 Q50 Z ?_))
 obtain ⟨b6,aV,hm⟩:=Q7 hm
 refine wC [0] [1] Z fn_140 Z (Q7T N a8 h s l0 y z l1 a2 a3 aR aS l7 _ aV) (asK [0,1,4] Z) Z (H':=[_]) Z ?_
 rintro _ _ _ ⟨rfl,rfl,rfl⟩
 refine wP Z (wP Z (Q4 (Q3 (Q2 [4] (S':=[_]) Z (Qk (Qa (Q8 ?_)))))))
 have hE:=(Zi hm).symm
 replace hE:=hE.symm
 subst hE
 refine Qq (Hr:=[_]) [0] Tryz.results105 (Qb Z) ⟨Z,Z,Z⟩ (asK [0,1] Z) Z Z (.inl Z)
 replace hm:=Qv hm aF
 refine wO Z (wO Z (wO Z (wO Z (wP Z (wP Z (Q4 (Q3 (Q2 [4] (S':=[_]) Z (Qk (Qa (Q8 ?_)))))))))))
 have hE:=(Zi hm).symm
 replace hE:=hE.symm
 subst hE
 refine Qq (Hr:=[_]) [0] Tryz.results105 (Qb Z) ⟨Z,Z,Z⟩ (asK [0,1] Z) Z Z (.inl Z)
 replace hm:=Qv hm aE
 refine wO Z (wO Z (wO Z (wO Z (wO Z (wO Z (wO Z (wP Z (wP Z (wO Z (wO Z (wO Z (wO Z (wP Z ?_)))))))))))))
 refine wP Z (Q4 (Q3 (Q2 [4] (S':=[_]) Z (Qk (Qa (Q8 ?_))))))
 have hE:=(Zi hm).symm
 replace hE:=hE.symm
 subst hE
 refine Qq (Hr:=[_]) [1] Tryz.results105 (Qb Z) ⟨Z,Z,Z⟩ (asK [0,1] Z) Z Z (.inl Z)
 replace hm:=Qv hm aT
 refine Q2 [6,3,0] (S':=V3 ..) Z (Q5 (Q1 (wP Z (wP Z (Q4 (Q3 (Q2 [27,6,3,0] (S':=V4 ..) Z ?_)))))))
 refine Qm Z (fun aG=>?_) (fun aG=>?_)
 replace hm:=Qw hm aG
 refine Q2 [3,0] (S':=[_,_]) Z (Q5 ?_)
 obtain ⟨aW,hm,hLj_1⟩:=Q7 hm
 unfold Q6u at hm
 refine QF (σ:=Bool) (fun a0=>aW=a0) (fun a0=>[(4,.bool a0)]) (fun a0=>[.sli 2 Qh h s l0,.sli 5 Qi y z l1]) (fun a0=>[.blk a8 [.slice h l0.length s,.slice y l1.length z,.int .i64 a2,.int .i64 a3] 124]) ?_ ?_
 rcases Q14 hm with ⟨aA,hm⟩ | ⟨aA,hm⟩
 rcases Q14 hm with ⟨aD,hm⟩ | ⟨aD,hm⟩
 rcases Q14 hm with ⟨aH,hm⟩ | ⟨aH,hm⟩
 refine QR [0,1,2,3,4,5,6,7,8,9,10,11,12,13,14,15,16,17,18,19,20,21,22] Z Z (fun hok=>(Q9 hok 0 Z Z Z Zq Z Z Z Q7j (Ql hok 1 0 1 Z Z Z Zq Z Z Z Z (cs:=[_]) Z QZ Q15 Z Z (xP hok 2 Z (xP hok 3 Z (Q17 (d:=32) (v':=.bool true) (S':=V5 ..) Z Z (QJ aA) (Q9 hok 4 Z Z Z Zq Z Z Z Q5T (Ql hok 5 0 3 Z Z Z Zq Z Z Z Z (cs:=[_]) Z Q51 Q50 Z Z (Q7p hok 6 Z Z Z Zq Z Z Z Q4r (xP hok 7 Z (Q17 (d:=36) (v':=.bool (l7.length==0)) (S':=V9 ..) Z Z (Q6W (a:=l7.length) (b:=0)) (xP hok 8 Z (xP hok 9 Z (Q17 (d:=38) (v':=.bool true) (S':=V11 ..) Z Z (QJ aD) ?_))))))))))))))
 refine Q9 hok 10 Z Z Z Zq Z Z Z Q7k (Ql hok 11 0 2 Z Z Z Zq Z Z Z Z (cs:=[_]) Z QZ Q15 Z Z (xP hok 12 Z (xP hok 13 Z (xP hok 14 Z (Q17 (d:=43) (v':=.bool true) (S':=V16 ..) Z Z (QJ aH) (Q9 hok 15 Z Z Z Zq Z Z Z Q7k (Ql hok 16 0 2 Z Z Z Zq Z Z Z Z (cs:=[_]) Z QZ Q15 Z Z (xP hok 17 Z (xP hok 18 Z (Q9 hok 19 Z Z Z Zq Z Z Z tF_124_2 (Ql hok 20 1 3 Z Z Z Zq Z Z Z Z (cs:=[_]) Z QZ Q15 Z Z (xP hok 21 Z (xP hok 22 Z ?_)))))))))))))
 refine xS hok 23 Z (wP Z (Q4 (Q12 [0,1,2] [] Z Z (QO hok Z ?_))))
 have hE:=(Zi hm).symm
 refine Qu [1] Z (H':=[_]) Z ?_
 refine Qd (decide (a6 < a3)) hE [4] Z (asK [0,1] Z) Z
 refine QR [0,1,2,3,4,5,6,7,8,9,10,11,12,13,14,15,16,17,18,19,20,21,22] Z Z (fun hok=>(Q9 hok 0 Z Z Z Zq Z Z Z Q7j (Ql hok 1 0 1 Z Z Z Zq Z Z Z Z (cs:=[_]) Z QZ Q15 Z Z (xP hok 2 Z (xP hok 3 Z (Q17 (d:=32) (v':=.bool true) (S':=V5 ..) Z Z (QJ aA) (Q9 hok 4 Z Z Z Zq Z Z Z Q5T (Ql hok 5 0 3 Z Z Z Zq Z Z Z Z (cs:=[_]) Z Q51 Q50 Z Z (Q7p hok 6 Z Z Z Zq Z Z Z Q4r (xP hok 7 Z (Q17 (d:=36) (v':=.bool (l7.length==0)) (S':=V9 ..) Z Z (Q6W (a:=l7.length) (b:=0)) (xP hok 8 Z (xP hok 9 Z (Q17 (d:=38) (v':=.bool true) (S':=V11 ..) Z Z (QJ aD) ?_))))))))))))))
 refine Q9 hok 10 Z Z Z Zq Z Z Z Q7k (Ql hok 11 0 2 Z Z Z Zq Z Z Z Z (cs:=[_]) Z QZ Q15 Z Z (xP hok 12 Z (xP hok 13 Z (xP hok 14 Z (Q17 (d:=43) (v':=.bool false) (S':=V16 ..) Z Z (QJ aH) (xO hok 15 Z (xO hok 16 Z (xO hok 17 Z (xO hok 18 Z (xO hok 19 Z (xO hok 20 Z (xO hok 21 Z (xP hok 22 Z ?_)))))))))))))
 refine xS hok 23 Z (wP Z (Q4 (Q12 [0,1,2] [] Z Z (QO hok Z ?_))))
 have hE:=(Zi hm).symm
 refine Qu [1] Z (H':=[_]) Z ?_
 refine Qd false hE [4] Z (asK [0,1] Z) Z
 refine QR [0,1,2,3,4,5,6,7,8,9,10,11,12,13,14,15,16,17,18,19,20,21,22] Z Z (fun hok=>(Q9 hok 0 Z Z Z Zq Z Z Z Q7j (Ql hok 1 0 1 Z Z Z Zq Z Z Z Z (cs:=[_]) Z QZ Q15 Z Z (xP hok 2 Z (xP hok 3 Z (Q17 (d:=32) (v':=.bool true) (S':=V5 ..) Z Z (QJ aA) (Q9 hok 4 Z Z Z Zq Z Z Z Q5T (Ql hok 5 0 3 Z Z Z Zq Z Z Z Z (cs:=[_]) Z Q51 Q50 Z Z (Q7p hok 6 Z Z Z Zq Z Z Z Q4r (xP hok 7 Z (Q17 (d:=36) (v':=.bool (l7.length==0)) (S':=V9 ..) Z Z (Q6W (a:=l7.length) (b:=0)) (xP hok 8 Z (xP hok 9 Z (Q17 (d:=38) (v':=.bool false) (S':=V11 ..) Z Z (QJ aD) ?_))))))))))))))
 refine xO hok 10 Z (xO hok 11 Z (xO hok 12 Z (xP hok 13 Z (xP hok 14 Z (xO hok 15 Z (xO hok 16 Z (xO hok 17 Z (xO hok 18 Z (xO hok 19 Z (xO hok 20 Z (xO hok 21 Z (xP hok 22 Z (xS hok 23 Z ?_)))))))))))))
 refine wP Z (Q4 (Q12 [0,1,2] [] Z Z (QO hok Z ?_)))
 have hE:=(Zi hm).symm
 refine Qu [1] Z (H':=[_]) Z ?_
 refine Qd false hE [4] Z (asK [0,1] Z) Z
 refine QR [0,1,2,3,4,5,6,7,8,9,10,11,12,13,14,15,16,17,18,19,20,21,22] Z Z (fun hok=>(Q9 hok 0 Z Z Z Zq Z Z Z Q7j (Ql hok 1 0 1 Z Z Z Zq Z Z Z Z (cs:=[_]) Z QZ Q15 Z Z (xP hok 2 Z (xP hok 3 Z (Q17 (d:=32) (v':=.bool false) (S':=V5 ..) Z Z (QJ aA) (xO hok 4 Z (xO hok 5 Z (xO hok 6 Z (xO hok 7 Z (xP hok 8 Z (xP hok 9 Z (xO hok 10 Z (xO hok 11 Z ?_))))))))))))))
 refine xO hok 12 Z (xP hok 13 Z (xP hok 14 Z (xO hok 15 Z (xO hok 16 Z (xO hok 17 Z (xO hok 18 Z (xO hok 19 Z (xO hok 20 Z (xO hok 21 Z (xP hok 22 Z (xS hok 23 Z (wP Z (Q4 ?_)))))))))))))
 refine Q12 [0,1,2] [] Z Z (QO hok Z ?_)
 have hE:=(Zi hm).symm
 refine Qu [1] Z (H':=[_]) Z ?_
 refine Qd false hE [4] Z (asK [0,1] Z) Z
 rintro a0 hE
 try dsimp only
 have hm:=hLj_1
 try rw [hE] at hm
 refine Qk (Qa (Q8 ?_))
 have hE:=(Zi hm).symm
 replace hE:=hE.symm
 subst hE
 refine Qq (Hr:=[_]) [0] Tryz.results105 (Qb Z) ⟨Z,Z,Z⟩ (asK [0,1] Z) Z Z (.inl Z)
 replace hm:=Qv hm aG
 refine Q2 [6,3,0] (S':=V3 ..) Z (Q5 (Q1 (wP Z (wP Z (Q4 (Q3 (Q2 [52,3,0] (S':=V3 ..) Z ?_)))))))
 refine Qm Z (fun aI=>?_) (fun aI=>?_)
 replace hm:=Qw hm aI
 refine Q2 [3,0] (S':=[_,_]) Z (Q5 ?_)
 obtain ⟨aX,hm,hLj_2⟩:=Q7 hm
 unfold Q6v at hm
 refine QF (σ:=Bool) (fun a1=>aX=a1) (fun a1=>[(4,.bool a1)]) (fun a1=>[.sli 2 Qh h s l0,.sli 5 Qi y z l1]) (fun a1=>[.blk a8 [.slice h l0.length s,.slice y l1.length z,.int .i64 a2,.int .i64 a3] 124]) ?_ ?_
 refine Q1 (wF Z Q7j (wD 0 1 Z QZ Q15 Z (wP Z (wP Z ?_))))
 refine Qr (d:=57) (S':=V5 ..) Z Z (fun aJ=>?_) (fun aJ=>?_)
 replace hm:=Qw hm aJ
 refine wF Z Q7k (wD 0 2 Z QZ Q15 Z (wP Z (wP Z (wP Z ?_))))
 refine Qr (d:=62) (S':=V10 ..) Z Z (fun aK=>?_) (fun aK=>?_)
 replace hm:=Qw hm aK
 refine wF Z Q5T (wD 0 3 Z Q51 Q50 Z (wN Z Q4r (wP Z (QD (d:=66) (v':=.bool (decide (0 < l7.length))) (S':=V14 ..) Z Z (Q8r (a:=l7.length) (b:=0)) (wP Z (wP Z ?_))))))
 refine Qr (d:=68) (S':=V16 ..) Z Z (fun aL=>?_) (fun aL=>?_)
 replace hm:=Qw hm aL
 refine wP Z (wF Z Q5T (wD 0 3 Z Q51 Q50 Z ?_))
 obtain ⟨b2,aY,hm⟩:=Q7 hm
 refine wC [1] [0] Z fn_140 Z (Q7T N a8 h s l0 y z l1 a2 a3 aR aS l7 _ aY) (asK [0,1,2] Z) Z (H':=[_]) Z ?_
 rintro _ _ _ ⟨rfl,rfl,rfl⟩
 refine wP Z (wP Z (Q4 ?_))
 have hE:=(Zi hm).symm
 refine Qu [0] Z (H':=[_]) Z ?_
 refine Qd b2 hE [4] Z (asK [0,1] Z) Z
 replace hm:=Qv hm aL
 refine wO Z (wO Z (wO Z (wO Z (wP Z (wP Z (Q4 ?_))))))
 have hE:=(Zi hm).symm
 refine Qu [1] Z (H':=[_]) Z ?_
 refine Qd false hE [4] Z (asK [0,1] Z) Z
 replace hm:=Qv hm aK
 refine wO Z (wO Z (wO Z (wO Z (wP Z (wP Z (wO Z (wO Z (wO Z (wO Z (wP Z (wP Z (Q4 ?_))))))))))))
 have hE:=(Zi hm).symm
 refine Qu [1] Z (H':=[_]) Z ?_
 refine Qd false hE [4] Z (asK [0,1] Z) Z
 replace hm:=Qv hm aJ
 refine wO Z (wO Z (wO Z (wP Z (wP Z (wO Z (wO Z (wO Z (wO Z (wP Z (wP Z (wO Z (wO Z (wO Z ?_)))))))))))))
 refine wO Z (wP Z (wP Z (Q4 ?_)))
 have hE:=(Zi hm).symm
 refine Qu [1] Z (H':=[_]) Z ?_
 refine Qd false hE [4] Z (asK [0,1] Z) Z
 rintro a1 hE
 try dsimp only
 have hm:=hLj_2
 try rw [hE] at hm
 refine Qk (Qa (Q8 ?_))
 have hE:=(Zi hm).symm
 replace hE:=hE.symm
 subst hE
 refine Qq (Hr:=[_]) [0] Tryz.results105 (Qb Z) ⟨Z,Z,Z⟩ (asK [0,1] Z) Z Z (.inl Z)
 replace hm:=Qv hm aI
 refine Q2 [3] (S':=[_]) Z (Qt (Qf (Q3 (Q5 ?_))))
 obtain ⟨aZ,hm,hLj_3⟩:=Q7 hm
 unfold Q6w at hm
 refine QF (σ:=Bool) (fun a7=>aZ=a7) (fun a7=>[(4,.bool a7)]) (fun a7=>[.sli 2 Qh h s l0,.sli 5 Qi y z l1]) (fun a7=>[.blk a8 [.slice h l0.length s,.slice y l1.length z,.int .i64 a2,.int .i64 a3] 124]) ?_ ?_
 refine Q1 (wF Z tF_81_0 (wD 0 0 Z tS_79 tA_79 Z (wP Z (wP Z ?_))))
 refine Qr (d:=77) (S':=V4 ..) Z Z (fun aM=>?_) (fun aM=>?_)
 replace hm:=Qw hm aM
 refine wF Z Q7j (wD 0 1 Z QZ Q15 Z (wP Z (wP Z (wP Z ?_))))
 refine Qr (d:=82) (S':=V9 ..) Z Z (fun aN=>?_) (fun aN=>?_)
 replace hm:=Qw hm aN
 refine wF Z Q7k (wD 0 2 Z QZ Q15 Z (wP Z (wP Z (wP Z ?_))))
 refine Qr (d:=87) (S':=V14 ..) Z Z (fun aO=>?_) (fun aO=>?_)
 replace hm:=Qw hm aO
 refine wF Z Q5T (wD 0 3 Z Q51 Q50 Z (wN Z Q4r (wP Z (QD (d:=91) (v':=.bool (l7.length==0)) (S':=V18 ..) Z Z (Q6W (a:=l7.length) (b:=0)) (wP Z (wP Z (Q4 ?_)))))))
 have hE:=(Zi hm).symm
 refine Qu [1] Z (H':=[_]) Z ?_
 refine Qd (l7.length==0) hE [4] Z (asK [0,1] Z) Z
 replace hm:=Qv hm aO
 refine wO Z (wO Z (wO Z (wO Z (wP Z (wP Z (Q4 ?_))))))
 have hE:=(Zi hm).symm
 refine Qu [1] Z (H':=[_]) Z ?_
 refine Qd false hE [4] Z (asK [0,1] Z) Z
 replace hm:=Qv hm aN
 refine wO Z (wO Z (wO Z (wP Z (wP Z (wO Z (wO Z (wO Z (wO Z (wP Z (wP Z (Q4 ?_)))))))))))
 have hE:=(Zi hm).symm
 refine Qu [1] Z (H':=[_]) Z ?_
 refine Qd false hE [4] Z (asK [0,1] Z) Z
 replace hm:=Qv hm aM
 refine wO Z (wO Z (wO Z (wP Z (wP Z (wO Z (wO Z (wO Z (wP Z (wP Z (wO Z (wO Z (wO Z (wO Z ?_)))))))))))))
 refine wP Z (wP Z (Q4 ?_))
 have hE:=(Zi hm).symm
 refine Qu [1] Z (H':=[_]) Z ?_
 refine Qd false hE [4] Z (asK [0,1] Z) Z
 rintro a7 hE
 try dsimp only
 have hm:=hLj_3
 try rw [hE] at hm
 refine Qk ?_
 have hE:=(Zi hm).symm
 replace hE:=hE.symm
 subst hE
 refine Qq (Hr:=[_]) [0] Tryz.results105 (Qb Z) ⟨Z,Z,Z⟩ (asK [0,1] Z) Z Z (.inl Z)
theorem Q9X (N:Nat)(a0:Int)(a1:Int)(a2:Int)(qp0:OA)(qc1:Nat)(l3:List Qe)(qg2:Nat)(qg3:Nat)(qp4:OA)(qc5:Nat)(l4:List Qg)(qp6:OA)(qc7:Nat)(l5:List Qj)(a6:Int)(a7:Int)(o0:Bool)(hm:Q5e N a0 a1 a2 l3 l4 l5 a6 a7=some o0):Q1d Tryz.prog 104 [.agg #[.int .u8 a0,.int .i64 a1,.int .i64 a2,.slice qp0 l3.length qc1],.pointer (some ⟨qg2,0,none⟩)] [.sli 7 Qs qp0 qc1 l3,.sli 2 Qh qp4 qc5 l4,.sli 5 Qi qp6 qc7 l5] [.blk qg2 [.pointer (some ⟨qg3,0,none⟩)] 120,.blk qg3 [.slice qp4 l4.length qc5,.slice qp6 l5.length qc7,.int .i64 a6,.int .i64 a7] 124] (fun v Φr Hr=>v=.bool o0∧Φr=[.sli 2 Qh qp4 qc5 l4,.sli 5 Qi qp6 qc7 l5]∧Hr=[.blk qg2 [.pointer (some ⟨qg3,0,none⟩)] 120,.blk qg3 [.slice qp4 l4.length qc5,.slice qp6 l5.length qc7,.int .i64 a6,.int .i64 a7] 124]):=by
 unfold Q5e at hm
 refine QI Tryz.func104 Z Tryz.ntmps104 Z (S:=[_,_]) Z (fun C=>(Q5 (Q1 (wB Z (fun g2=>(wP Z (Q4 (Q3 (Q2 [2,1] (S':=[_,_]) Z (Q5 (Q1 (wD 1 0 Z Q8B Q8x Z (QM 0 0 Z Z Z Zq Z Z Z (cs:=V4 ..) Z tS_81 tA_81 Z Z ?_)))))))))))))
 obtain ⟨v6,hc6,hm⟩:=Q7 hm
 refine wC [2] [0,1] Z fn_105 Z (QaV N qg3 qp4 qc5 l4 qp6 qc7 l5 a6 a7 a0 a1 a2 qp0 qc1 l3 _ hc6) (asK [1,2,0] Z) Z (H':=[_,_]) Z ?_
 rintro _ _ _ ⟨rfl,rfl,rfl⟩
 refine wP Z (wP Z (Q4 (Q3 (Q2 [3] (S':=[_]) Z (Qk ?_)))))
 have hE:=(Zi hm).symm
 replace hE:=hE.symm
 subst hE
 refine Qq (Hr:=[_,_]) [2,0] Tryz.results104 (Qb Z) ⟨Z,Z,Z⟩ (asK [0,1] Z) Z Z (.inl Z)
theorem Q9i (N:Nat)(a9:OA)(aA:Nat)(l0:List Q20)(a2:Nat)(s:Nat)(y:OA)(z:Nat)(l1:List Qg)(a0:OA)(a1:Nat)(l2:List Qj)(a3:Int)(a4:Int)(o0:Int)(hm:Q4C N l0 l1 l2 a3 a4=some o0):Q1d Tryz.prog 139 [.slice a9 l0.length aA,.func (.func 104) #[] #[.pointer (some ⟨a2,0,none⟩)]] [.sli 4 Q1c a9 aA l0,.sli 2 Qh y z l1,.sli 5 Qi a0 a1 l2] [.blk a2 [.pointer (some ⟨s,0,none⟩)] 120,.blk s [.slice y l1.length z,.slice a0 l2.length a1,.int .i64 a3,.int .i64 a4] 124] (fun v Φr Hr=>v=.int .i64 o0∧Φr=[.sli 2 Qh y z l1,.sli 5 Qi a0 a1 l2]∧Hr=[.blk a2 [.pointer (some ⟨s,0,none⟩)] 120,.blk s [.slice y l1.length z,.slice a0 l2.length a1,.int .i64 a3,.int .i64 a4] 124]):=by
 unfold Q4C at hm
 refine QI Tryz.func139 Z Tryz.ntmps139 Z (S:=[_,_]) Z (fun C=>(Q5 (Q1 (wP Z (Q4 (Q3 (Q2 [0,1] (S':=[_,_]) Z (Q5 ?_))))))))
 obtain ⟨aD,hm,hLj_1⟩:=QN hm
 refine QF (σ:=Unit) (fun _=>aD=.inl ()) (fun _=>[]) (fun _=>[.sli 2 Qh y z l1,.sli 5 Qi a0 a1 l2]) (fun _=>[.blk a2 [.pointer (some ⟨s,0,none⟩)] 120,.blk s [.slice y l1.length z,.slice a0 l2.length a1,.int .i64 a3,.int .i64 a4] 124]) ?_ ?_
 refine Q5 (Q1 (wP Z (wN Z tE_50 (wP Z (Q4 (Q3 (Q2 [8,7,0,1] (S':=V4 ..) Z (Qx (Q1o (σ:=Nat×Nat) (fun (a5,h)=>Q19 (Q2W N l0 l1 l2 a3 a4) a5 h=some aD) (fun (a5,h)=>a5) (fun (a5,h)=>[(8,.int .i64 ((h:Nat):Int)),(7,.int .i64 ((l0.length:Nat):Int)),(0,.slice a9 l0.length aA),(1,.func (.func 104) #[] #[.pointer (some ⟨a2,0,none⟩)])]) (fun (a5,h)=>[.sli 4 Q1c a9 aA l0,.sli 2 Qh y z l1,.sli 5 Qi a0 a1 l2]) (fun (a5,h)=>[.blk a2 [.pointer (some ⟨s,0,none⟩)] 120,.blk s [.slice y l1.length z,.slice a0 l2.length a1,.int .i64 a3,.int .i64 a4] 124]) (N,0) hm [8,7,0,1] Z (asK [0,1,2] Z) Z (fun s_ hm=>?_))))))))))
 obtain ⟨a5,h⟩:=s_
 try dsimp only at hm ⊢
 obtain ⟨aQ,aR,aH,hq,hLu1⟩:=Q10 hm
 clear hm
 subst aH
 replace hm:=hq
 clear hq
 unfold Q2W at hm
 try dsimp only at hm
 refine Q5 (Q1 (wP Z (QD (d:=9) (v':=.bool (decide (h < l0.length))) (S':=V4 ..) Z Z (Q2E (a:=h) (b:=l0.length)) (Q4 (Q3 (Q5 ?_))))))
 refine Qm Z (fun aG=>?_) (fun aG=>?_)
 replace hm:=Qw hm aG
 refine Q2 [8,7,0,1] (S':=V4 ..) Z (Qt (Q3 (Q5 (Qx (Q5 (Q1 (wP Z (wP Z (Q4 (Q3 (Q2 [5,8,7,0,1] (S':=V5 ..) Z (Q5 (Q1 ?_)))))))))))))
 refine wP Z (wP Z (wP Z ?_))
 obtain ⟨aC,aI,hm⟩:=Q7 hm
 refine QT 0 h Z Z Z Zq Z Z Z Z Z aI tE_50 tS_81 (fun aS aT aP aN=>(Q1h Q7w 1 Z (fun aJ aK _=>?_)))
 subst aK
 refine Q1g 1 0 Z Z Z Zq Z Z Z (cs:=V4 ..) Z tS_81 tA_81 Z Z ?_
 obtain ⟨aU,aL,hm⟩:=Q7 hm
 refine Q1p [0,1] [] Z Z Z Zq Z Z Z fn_104 Z Z (Q9X N aC.kind aC.type aC.which aJ.1 aJ.2 aC.exprs a2 s y z l1 a0 a1 l2 a3 a4 _ aL) (asK [0,4,5] Z) Z (H':=[]) Z ?_
 rintro _ _ _ ⟨rfl,rfl,rfl⟩
 refine Q4 (Q3 (Q2 [16,5,8,7,0,1] (S':=V6 ..) Z ?_))
 refine Qm Z (fun a8=>?_) (fun a8=>?_)
 replace hm:=Qw hm a8
 refine Q2 [5] (S':=[_]) Z (Q5 (Q1 (wP Z (wP Z (Q4 (Q3 (Q2 [4] (S':=[_]) Z (Qk (Qa (Q8 (Q8 (Qa (Q8 ?_)))))))))))))
 have hE:=(Zi hm).symm
 replace hE:=Qn hLu1 hE
 replace hE:=Qn hLj_1 hE
 replace hE:=hE.symm
 subst hE
 refine Qq (Hr:=[_,_]) [0,1] Tryz.results139 (Qb Z) ⟨Z,Z,Z⟩ (asK [0,1] Z) Z Z (.inl Z)
 replace hm:=Qv hm a8
 refine Q2 [8,7,0,1] (S':=V4 ..) Z (Qt (Qf (Q3 (Q1 (wP Z ?_)))))
 obtain ⟨aM,hm⟩:=Qz hm
 refine QD (d:=18) (v':=.int .i64 ((h+1:Nat):Int)) (S':=V4 ..) Z Z (Q1f (a:=h) (b:=1) aM) (QS (S':=V4 ..) Z Z Z Z Z (Q4 ?_))
 have hE:=(Zi hm).symm
 replace hE:=QA hLu1 hE
 refine QY (_,h+1) (Nat.lt_succ_self _) hE [8,7,0,1] Z (asK [5,0,1] Z) Z
 replace hm:=Qv hm aG
 refine Q2 [] (S':=[]) Z (Q1k (Qo (Qo (QG ?_))))
 have hE:=(Zi hm).symm
 replace hE:=Qn hLu1 hE
 refine Qd () hE [] Z (asK [1,2] Z) Z
 rintro _ hE
 try dsimp only
 have hm:=QA hLj_1 hE
 try dsimp only at hm
 refine Q5 (Q1 (wP Z (Q4 (Q3 (Qk ?_)))))
 have hE:=(Zi hm).symm
 replace hE:=hE.symm
 subst hE
 refine Qq (Hr:=[_,_]) [0,1] Tryz.results139 (Qb Z) ⟨Z,Z,Z⟩ (asK [0,1] Z) Z Z (.inl Z)
theorem Q8f (N:Nat)(qp0:OA)(qc1:Nat)(l0:List Q20)(qg2:Nat)(qg3:Nat)(qp4:OA)(qc5:Nat)(l1:List Qg)(qp6:OA)(qc7:Nat)(l2:List Qj)(a3:Int)(a4:Int)(o0:Bool)(hm:Q3L N l0 l1 l2 a3 a4=some o0):Q1d Tryz.prog 103 [.slice qp0 l0.length qc1,.func (.func 104) #[] #[.pointer (some ⟨qg2,0,none⟩)]] [.sli 4 Q1c qp0 qc1 l0,.sli 2 Qh qp4 qc5 l1,.sli 5 Qi qp6 qc7 l2] [.blk qg2 [.pointer (some ⟨qg3,0,none⟩)] 120,.blk qg3 [.slice qp4 l1.length qc5,.slice qp6 l2.length qc7,.int .i64 a3,.int .i64 a4] 124] (fun v Φr Hr=>v=.bool o0∧Φr=[.sli 2 Qh qp4 qc5 l1,.sli 5 Qi qp6 qc7 l2]∧Hr=[.blk qg2 [.pointer (some ⟨qg3,0,none⟩)] 120,.blk qg3 [.slice qp4 l1.length qc5,.slice qp6 l2.length qc7,.int .i64 a3,.int .i64 a4] 124]):=by
 unfold Q3L at hm
 refine QI Tryz.func103 Z Tryz.ntmps103 Z (S:=[_,_]) Z (fun C=>(Q5 (Q1 (wP Z (Q4 (Q3 (Q2 [0,1] (S':=[_,_]) Z (Q5 (Q1 (wP Z (wP Z ?_)))))))))))
 obtain ⟨v7,hc7,hm⟩:=Q7 hm
 refine wC [0,1] [] Z fn_139 Z (Q9i N qp0 qc1 l0 qg2 qg3 qp4 qc5 l1 qp6 qc7 l2 a3 a4 _ hc7) (asK [0,1,2] Z) Z (H':=[]) Z ?_
 rintro _ _ _ ⟨rfl,rfl,rfl⟩
 refine wP Z (wP Z (Q4 (Q3 (Q2 [4] (S':=[_]) Z (Qk ?_)))))
 have hE:=(Zi hm).symm
 replace hE:=hE.symm
 subst hE
 refine Qq (Hr:=[_,_]) [0,1] Tryz.results103 (Qb Z) ⟨Z,Z,Z⟩ (asK [0,1] Z) Z Z (.inl Z)
theorem Qax (N:Nat)(aC:Nat)(a8:OA)(a9:Nat)(l0:List Qg)(aA:OA)(aB:Nat)(l1:List Qj)(a2:Int)(a3:Int)(a4:ByteArray)(a5:Int)(a6:Int)(aE:OA)(aF:Nat)(l7:List QE)(aG:OA)(aH:Nat)(l8:List Q20)(o0:Bool)(o1:Int)(o2:Int)(hm:Q4P N l0 l1 a2 a3 a4 a5 a6 l7 l8=some (o0,o1,o2)):Q1d Tryz.prog 61 [.pointer (some ⟨aC,0,none⟩),.agg #[.string a4,.int .i64 a5,.int .i64 a6,.slice aE l7.length aF,.slice aG l8.length aH]] [.sli 2 Qh a8 a9 l0,.sli 5 Qi aA aB l1,.sli 10 Q11 aE aF l7,.sli 4 Q1c aG aH l8] [.blk aC [.slice a8 l0.length a9,.slice aA l1.length aB,.int .i64 a2,.int .i64 a3] 124] (fun v Φr Hr=>v=.bool o0∧Φr=[.sli 2 Qh a8 a9 l0,.sli 5 Qi aA aB l1]∧Hr=[.blk aC [.slice a8 l0.length a9,.slice aA l1.length aB,.int .i64 o1,.int .i64 o2] 124]):=by
 unfold Q4P at hm
 refine QI Tryz.func61 Z Tryz.ntmps61 Z (S:=[_,_]) Z (fun C=>(Q5 (Q1 (wB Z (fun g2=>(wB Z (fun g3=>(wP Z (Q4 (Q3 (Q2 [3,2] (S':=[_,_]) Z (Q5 (QR [0,1,2,3,5,6] Z Z (fun hok=>(Ql hok 0 1 0 Z Z Z Zq Z Z Z Z (cs:=[_]) Z Q8B Q8x Z Z (Ql hok 1 1 0 Z Z Z Zq Z Z Z Z (cs:=[_]) Z Q8B Q8x Z Z (xP hok 2 Z ?_)))))))))))))))))
 refine Q9 hok 3 Z Z Z Zq Z Z Z Q5F (xS hok 4 Z (wS 2 2 Z QZ (all':=V4 ..) Z (H':=V3 ..) Z (Q4 (Q12 [0,1,2,3] [1] Z Z (xP hok 5 Z (Q9 hok 6 Z Z Z Zq Z Z Z tF_124_2 (xS hok 7 Z (wS 2 3 Z QZ (all':=V4 ..) Z (H':=V3 ..) Z (Q4 (Q12 [0,1,2,3] [] Z Z (QO hok Z (Q3 (Q2 [3,2] (S':=[_,_]) Z ?_)))))))))))))
 refine Q5 (Q5 ?_)
 obtain ⟨b5,hm,hLj_1⟩:=Q7 hm
 unfold Q4W at hm
 refine QF (σ:=Bool) (fun a7=>b5=a7) (fun a7=>[(3,.pointer (some ⟨g3,0,none⟩)),(2,.pointer (some ⟨g2,0,none⟩)),(38,.bool a7)]) (fun a7=>[.sli 10 Q11 aE aF l7,.sli 4 Q1c aG aH l8,.sli 2 Qh a8 a9 l0,.sli 5 Qi aA aB l1]) (fun a7=>[.blk g3 [.string a4,.int .i64 a5,.int .i64 a6,.slice aE l7.length aF,.slice aG l8.length aH] 52,.blk g2 [.pointer (some ⟨aC,0,none⟩)] 120,.blk aC [.slice a8 l0.length a9,.slice aA l1.length aB,.int .i64 0,.int .i64 0] 124]) ?_ ?_
 refine Q1 (wF Z Q9S (wD 0 0 Z tS_9 tA_9 Z ?_))
 obtain ⟨bL,b6,hm⟩:=Q7 hm
 refine wC [] [0,1,2] Z fn_58 Z (Q60 N a4 _ b6) (asK [] Z) Z (H':=V3 ..) Z ?_
 rintro _ _ _ ⟨rfl,rfl,rfl⟩
 refine wP Z (wP Z ?_)
 refine Qr (d:=17) (S':=V6 ..) Z Z (fun aO=>?_) (fun aO=>?_)
 replace hm:=Qw hm aO
 refine wO Z (wO Z (wO Z (wP Z (wP Z (wO Z (wO Z (wO Z (wP Z (wP Z (wO Z (wO Z (wO Z (wO Z ?_)))))))))))))
 refine wP Z (wP Z (wO Z (wO Z (wO Z (wO Z (wP Z (Q4 ?_)))))))
 have hE:=(Zi hm).symm
 refine Qd true hE [3,2,38] Z (asK [2,3,0,1] Z) Z
 replace hm:=Qv hm aO
 refine wF Z tF_52_1 (wD 0 1 Z QZ Q15 Z (wP Z (wP Z (wP Z ?_))))
 refine Qr (d:=22) (S':=V11 ..) Z Z (fun aP=>?_) (fun aP=>?_)
 replace hm:=Qw hm aP
 refine wO Z (wO Z (wO Z (wP Z (wP Z (wO Z (wO Z (wO Z (wO Z (wP Z (wP Z (wO Z (wO Z (wO Z ?_)))))))))))))
 refine wO Z (wP Z (Q4 ?_))
 have hE:=(Zi hm).symm
 refine Qd true hE [3,2,38] Z (asK [2,3,0,1] Z) Z
 replace hm:=Qv hm aP
 refine wF Z tF_52_1 (wD 0 1 Z QZ Q15 Z (wP Z (wP Z (wP Z ?_))))
 refine Qr (d:=27) (S':=V16 ..) Z Z (fun aQ=>?_) (fun aQ=>?_)
 replace hm:=Qw hm aQ
 refine wO Z (wO Z (wO Z (wO Z (wP Z (wP Z (wO Z (wO Z (wO Z (wO Z (wP Z (Q4 ?_)))))))))))
 have hE:=(Zi hm).symm
 refine Qd true hE [3,2,38] Z (asK [2,3,0,1] Z) Z
 replace hm:=Qv hm aQ
 refine wF Z Q67 (wD 0 3 Z Q94 Q8X Z (wN Z Q86 (wP Z (QD (d:=31) (v':=.bool (decide (8 < l7.length))) (S':=V20 ..) Z Z (Q8r (a:=l7.length) (b:=8)) (wP Z (wP Z ?_))))))
 refine Qr (d:=33) (S':=V22 ..) Z Z (fun aR=>?_) (fun aR=>?_)
 replace hm:=Qw hm aR
 refine wO Z (wO Z (wO Z (wO Z (wP Z (Q4 ?_)))))
 have hE:=(Zi hm).symm
 refine Qd true hE [3,2,38] Z (asK [2,3,0,1] Z) Z
 replace hm:=Qv hm aR
 refine wF Z Q90 (wD 0 4 Z tS_50 tA_50 Z (wN Z tE_50 (wP Z (QD (d:=37) (v':=.bool (decide (8 < l8.length))) (S':=V26 ..) Z Z (Q8r (a:=l8.length) (b:=8)) (wP Z (Q4 ?_))))))
 have hE:=(Zi hm).symm
 refine Qd (decide (8 < l8.length)) hE [3,2,38] Z (asK [2,3,0,1] Z) Z
 rintro a7 hE
 try dsimp only
 have hm:=hLj_1
 try rw [hE] at hm
 refine Qm Z (fun aS=>?_) (fun aS=>?_)
 replace hm:=Qw hm aS
 refine Q2 [] (S':=[]) Z (Q5 (Q1 (wP Z (Q4 (Q3 (Qk (Q8 ?_)))))))
 have hE:=(Zi hm).symm
 obtain ⟨hE0,hF1⟩:=Prod.mk.inj hE
 obtain ⟨hE1,hE2⟩:=Prod.mk.inj hF1
 clear hE hF1
 replace hE0:=hE0.symm
 subst hE0
 replace hE1:=hE1.symm
 subst hE1
 replace hE2:=hE2.symm
 subst hE2
 refine Qq (Hr:=[_]) [2] Tryz.results61 (Qb Z) ⟨Z,Z,Z⟩ (asK [2,3] Z) Z Z (.inl Z)
 replace hm:=Qv hm aS
 refine Q2 [3,2] (S':=[_,_]) Z (Qt (Q3 (Q5 ?_)))
 obtain ⟨aX,hm,hLj_2⟩:=QN hm
 refine QF (σ:=Int×Int) (fun (z,a0)=>aX=.inl (z,a0)) (fun (z,a0)=>[(3,.pointer (some ⟨g3,0,none⟩)),(2,.pointer (some ⟨g2,0,none⟩))]) (fun (z,a0)=>[.sli 10 Q11 aE aF l7,.sli 4 Q1c aG aH l8,.sli 2 Qh a8 a9 l0,.sli 5 Qi aA aB l1]) (fun (z,a0)=>[.blk g3 [.string a4,.int .i64 a5,.int .i64 a6,.slice aE l7.length aF,.slice aG l8.length aH] 52,.blk g2 [.pointer (some ⟨aC,0,none⟩)] 120,.blk aC [.slice a8 l0.length a9,.slice aA l1.length aB,.int .i64 z,.int .i64 a0] 124]) ?_ ?_
 refine Q5 (Q1 (wF Z Q67 (wD 0 3 Z Q94 Q8X Z (wN Z Q86 (wP Z (Q4 (Q3 (Q2 [42,41,40,3,2] (S':=V5 ..) Z (Qx (Q1o (σ:=Nat×Nat×Int×Int) (fun (aJ,a1,h,y)=>Q19 (Q2x N l7 l0 l1) aJ (a1,h,y)=some aX) (fun (aJ,a1,h,y)=>aJ) (fun (aJ,a1,h,y)=>[(42,.int .i64 ((a1:Nat):Int)),(41,.int .i64 ((l7.length:Nat):Int)),(40,.slice aE l7.length aF),(3,.pointer (some ⟨g3,0,none⟩)),(2,.pointer (some ⟨g2,0,none⟩))]) (fun (aJ,a1,h,y)=>[.sli 10 Q11 aE aF l7,.sli 4 Q1c aG aH l8,.sli 2 Qh a8 a9 l0,.sli 5 Qi aA aB l1]) (fun (aJ,a1,h,y)=>[.blk g3 [.string a4,.int .i64 a5,.int .i64 a6,.slice aE l7.length aF,.slice aG l8.length aH] 52,.blk g2 [.pointer (some ⟨aC,0,none⟩)] 120,.blk aC [.slice a8 l0.length a9,.slice aA l1.length aB,.int .i64 h,.int .i64 y] 124]) (N,0,0,0) hm [42,41,40,3,2] Z (asK [0,1,2,3] Z) Z (fun s_ hm=>?_)))))))))))
 obtain ⟨aJ,a1,h,y⟩:=s_
 try dsimp only at hm ⊢
 obtain ⟨bM,bN,b7,hq,hLu1⟩:=Q10 hm
 clear hm
 subst b7
 replace hm:=hq
 clear hq
 unfold Q2x at hm
 try dsimp only at hm
 refine Q5 (Q1 (wP Z (QD (d:=43) (v':=.bool (decide (a1 < l7.length))) (S':=V5 ..) Z Z (Q2E (a:=a1) (b:=l7.length)) (Q4 (Q3 (Q5 ?_))))))
 refine Qm Z (fun aT=>?_) (fun aT=>?_)
 replace hm:=Qw hm aT
 refine Q2 [42,41,40,3,2] (S':=V5 ..) Z (Qt (Q3 (Q5 (Qx (Q5 (Q1 ?_))))))
 obtain ⟨aD,b8,hm⟩:=Q7 hm
 refine QT 0 a1 Z Z Z Zq Z Z Z Z Z b8 Q86 Q6t (fun bO bP bK bD=>(Q1h Q3v 1 Z (fun aW b9 _=>?_)))
 subst b9
 refine Q1g 2 0 Z Z Z Zq Z Z Z (cs:=V10 ..) Z Q6t tA_67 Z Z (Q13 Z Z Z Zq Z tZ_67 Z (fun g6=>(wS 0 0 Z Q6t (all':=V10 ..) Z (H':=V4 ..) Z (Q4 (Q3 (Q2 [6,42,41,40,3,2] (S':=V6 ..) Z (Q5 (Q1 (wD 2 0 Z Q8B Q8x Z (QM 0 0 Z Z Z Zq Z Z Z (cs:=V10 ..) Z Q6t tA_67 Z Z ?_))))))))))
 obtain ⟨⟨bE,aZ,b0⟩,bA,hm⟩:=Q7 hm
 try dsimp only at hm
 refine wC [3] [0,1,2] Z fn_102 Z (QaL N aC a8 a9 l0 aA aB l1 h y aD.kind aD.type aW.1.1 aW.1.2 aD.args aD.test.kind aD.test.value.k aD.test.value.n aD.test.value.s aD.test.var aD.test.op aW.2.1 aW.2.2 aD.test.kids _ _ _ bA) (asK [6,7,0,1] Z) Z (H':=V3 ..) Z ?_
 rintro _ _ _ ⟨rfl,rfl,rfl⟩
 refine wP Z (Q4 (Q3 (Q2 [49,42,41,40,3,2] (S':=V6 ..) Z ?_)))
 refine Qm Z (fun aU=>?_) (fun aU=>?_)
 replace hm:=Qw hm aU
 refine Q2 [] (S':=[]) Z (Q5 (Q1 (wP Z (Q4 (Q3 (Qk (Qa (Q8 (Q8 (Qa (Q8 ?_)))))))))))
 have hE:=(Zi hm).symm
 replace hE:=Qn hLu1 hE
 replace hE:=Qn hLj_2 hE
 obtain ⟨hE0,hF1⟩:=Prod.mk.inj hE
 obtain ⟨hE1,hE2⟩:=Prod.mk.inj hF1
 clear hE hF1
 replace hE0:=hE0.symm
 subst hE0
 replace hE1:=hE1.symm
 subst hE1
 replace hE2:=hE2.symm
 subst hE2
 refine Qq (Hr:=[_]) [0] Tryz.results61 (Qb Z) ⟨Z,Z,Z⟩ (asK [0,1] Z) Z Z (.inl Z)
 replace hm:=Qv hm aU
 refine Q2 [42,41,40,3,2] (S':=V5 ..) Z (Qt (Qf (Q3 (Q1 (wP Z ?_)))))
 obtain ⟨bB,hm⟩:=Qz hm
 refine QD (d:=50) (v':=.int .i64 ((a1+1:Nat):Int)) (S':=V5 ..) Z Z (Q1f (a:=a1) (b:=1) bB) (QS (S':=V5 ..) Z Z Z Z Z (Q4 ?_))
 have hE:=(Zi hm).symm
 replace hE:=QA hLu1 hE
 refine Qu [2,3,0] Z (H':=V3 ..) Z ?_
 refine QY (_,a1+1,aZ,b0) (Nat.lt_succ_self _) hE [42,41,40,3,2] Z (asK [6,7,0,1] Z) Z
 replace hm:=Qv hm aT
 refine Q2 [3,2] (S':=[_,_]) Z (Q1k (Qo (Qo (QG ?_))))
 have hE:=(Zi hm).symm
 replace hE:=Qn hLu1 hE
 refine Qd (h,y) hE [3,2] Z (asK [0,1,2,3] Z) Z
 rintro ⟨z,a0⟩ hE
 try dsimp only
 have hm:=QA hLj_2 hE
 try dsimp only at hm
 refine Q5 ?_
 rcases Q14 hm with ⟨aM,hm⟩ | ⟨aM,hm⟩
 rcases Q14 hm with ⟨aV,hm⟩ | ⟨aV,hm⟩
 obtain ⟨bQ,bC,hm⟩:=Q7 hm
 refine QR [0,1,2,3,4,5,6,7,8,9,10,11,12,13,14,15,16,19,20] Z Z (fun hok=>(Q9 hok 0 Z Z Z Zq Z Z Z tF_52_2 (Ql hok 1 0 2 Z Z Z Zq Z Z Z Z (cs:=[_]) Z QZ Q15 Z Z (Ql hok 2 1 0 Z Z Z Zq Z Z Z Z (cs:=[_]) Z Q8B Q8x Z Z (xP hok 3 Z (Q9 hok 4 Z Z Z Zq Z Z Z Q5F (Ql hok 5 2 2 Z Z Z Zq Z Z Z Z (cs:=[_]) Z QZ Q15 Z Z (xP hok 6 Z (xP hok 7 Z (Q17 (d:=58) (v':=.bool true) (S':=V9 ..) Z Z (QJ aM) (Ql hok 8 1 0 Z Z Z Zq Z Z Z Z (cs:=[_]) Z Q8B Q8x Z Z (xP hok 9 Z (Q9 hok 10 Z Z Z Zq Z Z Z Q5F (Ql hok 11 2 2 Z Z Z Zq Z Z Z Z (cs:=[_]) Z QZ Q15 Z Z ?_))))))))))))))
 refine xP hok 12 Z (xP hok 13 Z (xP hok 14 Z (Q17 (d:=65) (v':=.bool true) (S':=V16 ..) Z Z (QJ aV) (Q9 hok 15 Z Z Z Zq Z Z Z Q90 (Ql hok 16 0 4 Z Z Z Zq Z Z Z Z (cs:=[_]) Z tS_50 tA_50 Z Z (xS hok 17 Z (Q33 Z Z Z Zq Z Z (Q4 (Q12 [0,1,2,3] [0,2,1,2,1,0] Z Z (xS hok 18 Z (wC [1,2] [0] Z fn_103 Z (Q8f N aG aH l8 g2 aC a8 a9 l0 aA aB l1 z a0 _ bC) (asK [1,2,3] Z) Z (H':=[_]) Z ?_)))))))))))
 rintro _ _ _ ⟨rfl,rfl,rfl⟩
 refine Q4 (Q12 [2,3,4,5] [1,0,1,0,2] Z Z (xP hok 19 Z (xP hok 20 Z (xS hok 21 Z (wP Z (Q4 (Q12 [0,1,2,3,4,5] [] Z Z (QO hok Z (Q3 (Q2 [4] (S':=[_]) Z (Qk ?_)))))))))))
 have hE:=(Zi hm).symm
 obtain ⟨hE0,hF1⟩:=Prod.mk.inj hE
 obtain ⟨hE1,hE2⟩:=Prod.mk.inj hF1
 clear hE hF1
 replace hE0:=hE0.symm
 subst hE0
 replace hE1:=hE1.symm
 subst hE1
 replace hE2:=hE2.symm
 subst hE2
 refine Qq (Hr:=[_]) [1] Tryz.results61 (Qb Z) ⟨Z,Z,Z⟩ (asK [0,1] Z) Z Z (.inl Z)
 refine QR [0,1,2,3,4,5,6,7,8,9,10,11,12,13,14,15,16,19,20] Z Z (fun hok=>(Q9 hok 0 Z Z Z Zq Z Z Z tF_52_2 (Ql hok 1 0 2 Z Z Z Zq Z Z Z Z (cs:=[_]) Z QZ Q15 Z Z (Ql hok 2 1 0 Z Z Z Zq Z Z Z Z (cs:=[_]) Z Q8B Q8x Z Z (xP hok 3 Z (Q9 hok 4 Z Z Z Zq Z Z Z Q5F (Ql hok 5 2 2 Z Z Z Zq Z Z Z Z (cs:=[_]) Z QZ Q15 Z Z (xP hok 6 Z (xP hok 7 Z (Q17 (d:=58) (v':=.bool true) (S':=V9 ..) Z Z (QJ aM) (Ql hok 8 1 0 Z Z Z Zq Z Z Z Z (cs:=[_]) Z Q8B Q8x Z Z (xP hok 9 Z (Q9 hok 10 Z Z Z Zq Z Z Z Q5F (Ql hok 11 2 2 Z Z Z Zq Z Z Z Z (cs:=[_]) Z QZ Q15 Z Z ?_))))))))))))))
 refine xP hok 12 Z (xP hok 13 Z (xP hok 14 Z (Q17 (d:=65) (v':=.bool false) (S':=V16 ..) Z Z (QJ aV) (xO hok 15 Z (xO hok 16 Z (xS hok 17 Z (wO Z (Q4 (Q12 [0,1,2,3] [2,1,2,1,0] Z Z (xS hok 18 Z (wO Z (Q4 (Q12 [0,1,2,3] [2,1,2,1,0] Z Z ?_)))))))))))))
 refine xO hok 19 Z (xP hok 20 Z (xS hok 21 Z (wP Z (Q4 (Q12 [0,1,2,3] [] Z Z (QO hok Z (Q3 (Q2 [4] (S':=[_]) Z (Qk ?_)))))))))
 have hE:=(Zi hm).symm
 obtain ⟨hE0,hF1⟩:=Prod.mk.inj hE
 obtain ⟨hE1,hE2⟩:=Prod.mk.inj hF1
 clear hE hF1
 replace hE0:=hE0.symm
 subst hE0
 replace hE1:=hE1.symm
 subst hE1
 replace hE2:=hE2.symm
 subst hE2
 refine Qq (Hr:=[_]) [2] Tryz.results61 (Qb Z) ⟨Z,Z,Z⟩ (asK [2,3] Z) Z Z (.inl Z)
 refine QR [0,1,2,3,4,5,6,7,8,9,10,11,12,13,14,15,16,19,20] Z Z (fun hok=>(Q9 hok 0 Z Z Z Zq Z Z Z tF_52_2 (Ql hok 1 0 2 Z Z Z Zq Z Z Z Z (cs:=[_]) Z QZ Q15 Z Z (Ql hok 2 1 0 Z Z Z Zq Z Z Z Z (cs:=[_]) Z Q8B Q8x Z Z (xP hok 3 Z (Q9 hok 4 Z Z Z Zq Z Z Z Q5F (Ql hok 5 2 2 Z Z Z Zq Z Z Z Z (cs:=[_]) Z QZ Q15 Z Z (xP hok 6 Z (xP hok 7 Z (Q17 (d:=58) (v':=.bool false) (S':=V9 ..) Z Z (QJ aM) (xO hok 8 Z (xO hok 9 Z (xO hok 10 Z (xO hok 11 Z ?_))))))))))))))
 refine xO hok 12 Z (xP hok 13 Z (xP hok 14 Z (xO hok 15 Z (xO hok 16 Z (xS hok 17 Z (wO Z (Q4 (Q12 [0,1,2,3] [2,1,0] Z Z (xS hok 18 Z (wO Z (Q4 (Q12 [0,1,2,3] [2,1,0] Z Z (xO hok 19 Z ?_)))))))))))))
 refine xP hok 20 Z (xS hok 21 Z (wP Z (Q4 (Q12 [0,1,2,3] [] Z Z (QO hok Z (Q3 (Q2 [4] (S':=[_]) Z (Qk ?_))))))))
 have hE:=(Zi hm).symm
 obtain ⟨hE0,hF1⟩:=Prod.mk.inj hE
 obtain ⟨hE1,hE2⟩:=Prod.mk.inj hF1
 clear hE hF1
 replace hE0:=hE0.symm
 subst hE0
 replace hE1:=hE1.symm
 subst hE1
 replace hE2:=hE2.symm
 subst hE2
 refine Qq (Hr:=[_]) [2] Tryz.results61 (Qb Z) ⟨Z,Z,Z⟩ (asK [2,3] Z) Z Z (.inl Z)
theorem w_check_Right_s (N:Nat)(a2:OA)(a3:Nat)(l0:List Qg)(a4:OA)(a5:Nat)(l1:List Qj)(o0:Bool)(hm:Q6B N l0 l1=some o0):Q1d Tryz.prog 30 [.agg #[.slice a2 l0.length a3,.slice a4 l1.length a5]] [.sli 2 Qh a2 a3 l0,.sli 5 Qi a4 a5 l1] [] (fun v Φr Hr=>v=.bool o0∧Φr=[]∧Hr=[]):=by
 unfold Q6B at hm
 refine QI Tryz.func30 Z Tryz.ntmps30 Z (S:=[_]) Z (fun C=>(Q5 (Q1 (wB Z (fun g1=>(wP Z (Q4 (Q3 (Q2 [1] (S':=[_]) Z (Q5 (Q1 (QM 0 0 Z Z Z Zq Z Z Z (cs:=[_,_]) Z tS_25 tA_25 Z Z (Q1F Z Z Z Zq Z tZ_122 tP_122 Z (out:=[_,_]) Z (Q1F Z Z Z Zq Z tZ_124 tP_124 Z (out:=V4 ..) Z (wB Z (fun aB=>?_))))))))))))))))
 refine wP Z (Q4 (Q3 (Q2 [3,1] (S':=[_,_]) Z (Q5 (Q5 ?_)))))
 obtain ⟨aZ,hm,hLj_1⟩:=Q7 hm
 refine QF (σ:=Bool) (fun a7=>aZ=a7) (fun a7=>[(3,.pointer (some ⟨aB,0,none⟩)),(1,.pointer (some ⟨g1,0,none⟩)),(21,.bool a7)]) (fun a7=>[.sli 2 Qh a2 a3 l0,.sli 5 Qi a4 a5 l1]) (fun a7=>[.blk aB [.slice a2 l0.length a3,.slice a4 l1.length a5,.int .i64 0,.int .i64 0] 124,.blk g1 [.slice a2 l0.length a3,.slice a4 l1.length a5] 25]) ?_ ?_
 refine Q1 (wF Z Q4D (wD 1 0 Z Q7l Q7i Z (wN Z Q6r (wP Z (QD (d:=15) (v':=.bool (decide (32 < l0.length))) (S':=V5 ..) Z Z (Q8r (a:=l0.length) (b:=32)) (wP Z ?_))))))
 refine Qr (d:=16) (S':=V6 ..) Z Z (fun aI=>?_) (fun aI=>?_)
 replace hm:=Qw hm aI
 refine wO Z (wO Z (wO Z (wO Z (wP Z (Q4 ?_)))))
 have hE:=(Zi hm).symm
 refine Qd true hE [3,1,21] Z (asK [0,1] Z) Z
 replace hm:=Qv hm aI
 refine wF Z Q4Z (wD 1 1 Z Q7u Q7t Z (wN Z Q6X (wP Z (QD (d:=20) (v':=.bool (decide (64 < l1.length))) (S':=V10 ..) Z Z (Q8r (a:=l1.length) (b:=64)) (wP Z (Q4 ?_))))))
 have hE:=(Zi hm).symm
 refine Qd (decide (64 < l1.length)) hE [3,1,21] Z (asK [0,1] Z) Z
 rintro a7 hE
 try dsimp only
 have hm:=hLj_1
 try rw [hE] at hm
 refine Qm Z (fun aJ=>?_) (fun aJ=>?_)
 replace hm:=Qw hm aJ
 refine Q2 [] (S':=[]) Z (Q5 (Q1 (wP Z (Q4 (Q3 (Qk (Q8 ?_)))))))
 have hE:=(Zi hm).symm
 replace hE:=hE.symm
 subst hE
 refine Qq (Hr:=[]) [] Tryz.results30 (Qb Z) ⟨Z,Z,Z⟩ (asK [] Z) Z Z (.inl Z)
 replace hm:=Qv hm aJ
 refine Q2 [3,1] (S':=[_,_]) Z (Qt (Q3 (Q5 ?_)))
 obtain ⟨aT,hm,hLj_2⟩:=QN hm
 refine QF (σ:=Unit) (fun _=>aT=.inl ()) (fun _=>[(3,.pointer (some ⟨aB,0,none⟩)),(1,.pointer (some ⟨g1,0,none⟩))]) (fun _=>[.sli 2 Qh a2 a3 l0,.sli 5 Qi a4 a5 l1]) (fun _=>[.blk aB [.slice a2 l0.length a3,.slice a4 l1.length a5,.int .i64 0,.int .i64 0] 124,.blk g1 [.slice a2 l0.length a3,.slice a4 l1.length a5] 25]) ?_ ?_
 refine Q5 (Q1 (wF Z Q4D (wD 1 0 Z Q7l Q7i Z (wN Z Q6r (wP Z (Q4 (Q3 (Q2 [25,24,23,3,1] (S':=V5 ..) Z (Qx (Q1o (σ:=Nat×Nat) (fun (aD,y)=>Q19 (Q4I N l0 l1) aD y=some aT) (fun (aD,y)=>aD) (fun (aD,y)=>[(25,.int .i64 ((y:Nat):Int)),(24,.int .i64 ((l0.length:Nat):Int)),(23,.slice a2 l0.length a3),(3,.pointer (some ⟨aB,0,none⟩)),(1,.pointer (some ⟨g1,0,none⟩))]) (fun (aD,y)=>[.sli 2 Qh a2 a3 l0,.sli 5 Qi a4 a5 l1]) (fun (aD,y)=>[.blk aB [.slice a2 l0.length a3,.slice a4 l1.length a5,.int .i64 0,.int .i64 0] 124,.blk g1 [.slice a2 l0.length a3,.slice a4 l1.length a5] 25]) (N,0) hm [25,24,23,3,1] Z (asK [0,1] Z) Z (fun s_ hm=>?_)))))))))))
 obtain ⟨aD,y⟩:=s_
 try dsimp only at hm ⊢
 obtain ⟨bI,bJ,b0,hq,hLu1⟩:=Q10 hm
 clear hm
 subst b0
 replace hm:=hq
 clear hq
 unfold Q4I at hm
 try dsimp only at hm
 refine Q5 (Q1 (wP Z (QD (d:=26) (v':=.bool (decide (y < l0.length))) (S':=V5 ..) Z Z (Q2E (a:=y) (b:=l0.length)) (Q4 (Q3 (Q5 ?_))))))
 refine Qm Z (fun aK=>?_) (fun aK=>?_)
 replace hm:=Qw hm aK
 refine Q2 [25,24,23,3,1] (S':=V5 ..) Z (Qt (Q3 (Q5 (Qx (Q5 (Q1 (wP Z ?_)))))))
 obtain ⟨aL,b1,hm⟩:=Q7 hm
 refine QT 0 y Z Z Z Zq Z Z Z Z Z b1 Q6r Q95 (fun bK bL bG bC=>(Q1h Q2A 1 Z (fun bM b2 _=>?_)))
 subst b2
 refine Q1g 0 0 Z Z Z Zq Z Z Z (cs:=[_,_]) Z Q95 tA_69 Z Z (Q13 Z Z Z Zq Z tZ_69 Z (fun g5=>(wP Z (wS 0 0 Z Q95 (all':=[_,_]) Z (H':=V3 ..) Z (Q4 (Q3 (Q2 [4,5,25,24,23,3,1] (S':=V7 ..) Z (Q5 ?_))))))))
 obtain ⟨b3,hm,hLj_3⟩:=Q7 hm
 unfold Q6k at hm
 refine QF (σ:=Bool) (fun a8=>b3=a8) (fun a8=>[(25,.int .i64 ((y:Nat):Int)),(24,.int .i64 ((l0.length:Nat):Int)),(23,.slice a2 l0.length a3),(3,.pointer (some ⟨aB,0,none⟩)),(1,.pointer (some ⟨g1,0,none⟩)),(53,.bool a8)]) (fun a8=>[.sli 2 Qh a2 a3 l0,.sli 5 Qi a4 a5 l1]) (fun a8=>[.blk aB [.slice a2 l0.length a3,.slice a4 l1.length a5,.int .i64 0,.int .i64 0] 124,.blk g1 [.slice a2 l0.length a3,.slice a4 l1.length a5] 25]) ?_ ?_
 obtain ⟨bN,aG,hm⟩:=Q7 hm
 rcases Q14 hm with ⟨aC,hm⟩ | ⟨aC,hm⟩
 refine QR [0,1,3,4,5,6,7,8,9,10,11,12,13,14,15,16,17,18,19,21,22,23] Z Z (fun hok=>(Q9 hok 0 Z Z Z Zq Z Z Z Q8d (Ql hok 1 0 0 Z Z Z Zq Z Z Z Z (cs:=[_]) Z tS_9 tA_9 Z Z (xS hok 2 Z (wC [] [0,1,2] Z fn_58 Z (Q60 N aL.name _ aG) (asK [] Z) Z (H':=V3 ..) Z ?_)))))
 rintro _ _ _ ⟨rfl,rfl,rfl⟩
 refine Q4 (Q12 [0,1,2,3] [] Z Z (xP hok 3 Z (xP hok 4 Z (Q17 (d:=34) (v':=.bool true) (S':=V11 ..) Z Z (QJ aC) (xO hok 5 Z (xO hok 6 Z (xO hok 7 Z (xP hok 8 Z (xP hok 9 Z (xO hok 10 Z (xO hok 11 Z (xO hok 12 Z (xP hok 13 Z ?_)))))))))))))
 refine xP hok 14 Z (xO hok 15 Z (xO hok 16 Z (xO hok 17 Z (xO hok 18 Z (xO hok 19 Z (xO hok 21 Z (xS hok 20 Z (wO Z (Q4 (Q12 [0,1,2,3] [0] Z Z (xO hok 22 Z (xP hok 23 Z (QO hok Z ?_)))))))))))))
 have hE:=(Zi hm).symm
 refine Qu [1,2] Z (H':=[_,_]) Z ?_
 refine Qd true hE [25,24,23,3,1,53] Z (asK [2,3] Z) Z
 rcases Q14 hm with ⟨aH,hm⟩ | ⟨aH,hm⟩
 refine QR [0,1,3,4,5,6,7,8,9,10,11,12,13,14,15,16,17,18,19,21,22,23] Z Z (fun hok=>(Q9 hok 0 Z Z Z Zq Z Z Z Q8d (Ql hok 1 0 0 Z Z Z Zq Z Z Z Z (cs:=[_]) Z tS_9 tA_9 Z Z (xS hok 2 Z (wC [] [0,1,2] Z fn_58 Z (Q60 N aL.name _ aG) (asK [] Z) Z (H':=V3 ..) Z ?_)))))
 rintro _ _ _ ⟨rfl,rfl,rfl⟩
 refine Q4 (Q12 [0,1,2,3] [] Z Z (xP hok 3 Z (xP hok 4 Z (Q17 (d:=34) (v':=.bool false) (S':=V11 ..) Z Z (QJ aC) (Q9 hok 5 Z Z Z Zq Z Z Z Q6K (Ql hok 6 0 1 Z Z Z Zq Z Z Z Z (cs:=[_]) Z QZ Q15 Z Z (xP hok 7 Z (xP hok 8 Z (xP hok 9 Z (Q17 (d:=39) (v':=.bool true) (S':=V16 ..) Z Z (QJ aH) (xO hok 10 Z (xO hok 11 Z (xO hok 12 Z ?_)))))))))))))
 refine xP hok 13 Z (xP hok 14 Z (xO hok 15 Z (xO hok 16 Z (xO hok 17 Z (xO hok 18 Z (xO hok 19 Z (xO hok 21 Z (xS hok 20 Z (wO Z (Q4 (Q12 [0,1,2,3] [0,0] Z Z (xO hok 22 Z (xP hok 23 Z ?_)))))))))))))
 refine QO hok Z ?_
 have hE:=(Zi hm).symm
 refine Qu [1,2] Z (H':=[_,_]) Z ?_
 refine Qd true hE [25,24,23,3,1,53] Z (asK [2,3] Z) Z
 rcases Q14 hm with ⟨aM,hm⟩ | ⟨aM,hm⟩
 refine QR [0,1,3,4,5,6,7,8,9,10,11,12,13,14,15,16,17,18,19,21,22,23] Z Z (fun hok=>(Q9 hok 0 Z Z Z Zq Z Z Z Q8d (Ql hok 1 0 0 Z Z Z Zq Z Z Z Z (cs:=[_]) Z tS_9 tA_9 Z Z (xS hok 2 Z (wC [] [0,1,2] Z fn_58 Z (Q60 N aL.name _ aG) (asK [] Z) Z (H':=V3 ..) Z ?_)))))
 rintro _ _ _ ⟨rfl,rfl,rfl⟩
 refine Q4 (Q12 [0,1,2,3] [] Z Z (xP hok 3 Z (xP hok 4 Z (Q17 (d:=34) (v':=.bool false) (S':=V11 ..) Z Z (QJ aC) (Q9 hok 5 Z Z Z Zq Z Z Z Q6K (Ql hok 6 0 1 Z Z Z Zq Z Z Z Z (cs:=[_]) Z QZ Q15 Z Z (xP hok 7 Z (xP hok 8 Z (xP hok 9 Z (Q17 (d:=39) (v':=.bool false) (S':=V16 ..) Z Z (QJ aH) (Q9 hok 10 Z Z Z Zq Z Z Z Q6K (Ql hok 11 0 1 Z Z Z Zq Z Z Z Z (cs:=[_]) Z QZ Q15 Z Z (xP hok 12 Z ?_)))))))))))))
 refine xP hok 13 Z (xP hok 14 Z (Q17 (d:=44) (v':=.bool true) (S':=V21 ..) Z Z (QJ aM) (xO hok 15 Z (xO hok 16 Z (xO hok 17 Z (xO hok 18 Z (xO hok 19 Z (xO hok 21 Z (xS hok 20 Z (wO Z (Q4 (Q12 [0,1,2,3] [0,0,0] Z Z (xO hok 22 Z ?_)))))))))))))
 refine xP hok 23 Z (QO hok Z ?_)
 have hE:=(Zi hm).symm
 refine Qu [1,2] Z (H':=[_,_]) Z ?_
 refine Qd true hE [25,24,23,3,1,53] Z (asK [2,3] Z) Z
 obtain ⟨bD,b4,hm⟩:=Q7 hm
 refine QR [0,1,3,4,5,6,7,8,9,10,11,12,13,14,15,16,17,18,19,21,22,23] Z Z (fun hok=>(Q9 hok 0 Z Z Z Zq Z Z Z Q8d (Ql hok 1 0 0 Z Z Z Zq Z Z Z Z (cs:=[_]) Z tS_9 tA_9 Z Z (xS hok 2 Z (wC [] [0,1,2] Z fn_58 Z (Q60 N aL.name _ aG) (asK [] Z) Z (H':=V3 ..) Z ?_)))))
 rintro _ _ _ ⟨rfl,rfl,rfl⟩
 refine Q4 (Q12 [0,1,2,3] [] Z Z (xP hok 3 Z (xP hok 4 Z (Q17 (d:=34) (v':=.bool false) (S':=V11 ..) Z Z (QJ aC) (Q9 hok 5 Z Z Z Zq Z Z Z Q6K (Ql hok 6 0 1 Z Z Z Zq Z Z Z Z (cs:=[_]) Z QZ Q15 Z Z (xP hok 7 Z (xP hok 8 Z (xP hok 9 Z (Q17 (d:=39) (v':=.bool false) (S':=V16 ..) Z Z (QJ aH) (Q9 hok 10 Z Z Z Zq Z Z Z Q6K (Ql hok 11 0 1 Z Z Z Zq Z Z Z Z (cs:=[_]) Z QZ Q15 Z Z (xP hok 12 Z ?_)))))))))))))
 refine xP hok 13 Z (xP hok 14 Z (Q17 (d:=44) (v':=.bool false) (S':=V21 ..) Z Z (QJ aM) (xP hok 15 Z (xP hok 16 Z (Q9 hok 17 Z Z Z Zq Z Z Z Qau (Q9 hok 18 Z Z Z Zq Z Z Z Q8d (Ql hok 19 0 0 Z Z Z Zq Z Z Z Z (cs:=[_]) Z tS_9 tA_9 Z Z (xP hok 21 Z (xS hok 20 Z (wC [1] [0,2] Z fn_59 Z (Qaw N aB a2 a3 l0 a4 a5 l1 0 0 aL.name _ b4) (asK [2,3] Z) Z (H':=[_,_]) Z ?_))))))))))
 rintro _ _ _ ⟨rfl,rfl,rfl⟩
 refine Q4 (Q12 [2,3,4,5] [1,1,1] Z Z (xP hok 22 Z (xP hok 23 Z (QO hok Z ?_))))
 have hE:=(Zi hm).symm
 refine Qu [0,2] Z (H':=[_,_]) Z ?_
 refine Qd (bD !=((y:Nat):Int)) hE [25,24,23,3,1,53] Z (asK [0,1] Z) Z
 rintro a8 hE
 try dsimp only
 have hm:=hLj_3
 try rw [hE] at hm
 refine Qm Z (fun aN=>?_) (fun aN=>?_)
 replace hm:=Qw hm aN
 refine Q2 [] (S':=[]) Z (Q5 (Q1 (wP Z (Q4 (Q3 (Qk (Qa (Q8 (Q8 (Qa (Q8 ?_)))))))))))
 have hE:=(Zi hm).symm
 replace hE:=Qn hLu1 hE
 replace hE:=Qn hLj_2 hE
 replace hE:=hE.symm
 subst hE
 refine Qq (Hr:=[]) [] Tryz.results30 (Qb Z) ⟨Z,Z,Z⟩ (asK [] Z) Z Z (.inl Z)
 replace hm:=Qv hm aN
 refine Q2 [25,24,23,3,1] (S':=V5 ..) Z (Qt (Qf (Q3 (Q1 (wP Z ?_)))))
 obtain ⟨b5,hm⟩:=Qz hm
 refine QD (d:=54) (v':=.int .i64 ((y+1:Nat):Int)) (S':=V5 ..) Z Z (Q1f (a:=y) (b:=1) b5) (QS (S':=V5 ..) Z Z Z Z Z (Q4 ?_))
 have hE:=(Zi hm).symm
 replace hE:=QA hLu1 hE
 refine QY (_,y+1) (Nat.lt_succ_self _) hE [25,24,23,3,1] Z (asK [0,1] Z) Z
 replace hm:=Qv hm aK
 refine Q2 [3,1] (S':=[_,_]) Z (Q1k (Qo (Qo (QG ?_))))
 have hE:=(Zi hm).symm
 replace hE:=Qn hLu1 hE
 refine Qd () hE [3,1] Z (asK [0,1] Z) Z
 rintro _ hE
 try dsimp only
 have hm:=QA hLj_2 hE
 try dsimp only at hm
 refine Q5 ?_
 obtain ⟨aU,hm,hLj_4⟩:=QN hm
 refine QF (σ:=Unit) (fun _=>aU=.inl ()) (fun _=>[]) (fun _=>[]) (fun _=>[]) ?_ ?_
 refine Q5 (Q1 (wF Z Q4Z (wD 1 1 Z Q7u Q7t Z (wN Z Q6X (wP Z (Q4 (Q3 (Q2 [58,57,56,3] (S':=V4 ..) Z (Qx (wc_pick [0] Z (H':=[_]) Z (Q1o (σ:=Nat×Nat×Int×Int) (fun (aE,z,h,s)=>Q19 (Q4J N l1 l0) aE (z,h,s)=some aU) (fun (aE,z,h,s)=>aE) (fun (aE,z,h,s)=>[(58,.int .i64 ((z:Nat):Int)),(57,.int .i64 ((l1.length:Nat):Int)),(56,.slice a4 l1.length a5),(3,.pointer (some ⟨aB,0,none⟩))]) (fun (aE,z,h,s)=>[.sli 5 Qi a4 a5 l1,.sli 2 Qh a2 a3 l0]) (fun (aE,z,h,s)=>[.blk aB [.slice a2 l0.length a3,.slice a4 l1.length a5,.int .i64 h,.int .i64 s] 124]) (N,0,0,0) hm [58,57,56,3] Z (asK [1,0] Z) Z (fun s_ hm=>?_))))))))))))
 obtain ⟨aE,z,h,s⟩:=s_
 try dsimp only at hm ⊢
 obtain ⟨bO,bP,b6,hq,hLu2⟩:=Q10 hm
 clear hm
 subst b6
 replace hm:=hq
 clear hq
 unfold Q4J at hm
 try dsimp only at hm
 refine Q5 (Q1 (wP Z (QD (d:=59) (v':=.bool (decide (z < l1.length))) (S':=V4 ..) Z Z (Q2E (a:=z) (b:=l1.length)) (Q4 (Q3 (Q5 ?_))))))
 refine Qm Z (fun aO=>?_) (fun aO=>?_)
 replace hm:=Qw hm aO
 refine Q2 [58,57,56,3] (S':=V4 ..) Z (Qt (Q3 (Q5 (Qx (Q5 (Q1 (wP Z ?_)))))))
 obtain ⟨aF,b7,hm⟩:=Q7 hm
 refine QT 0 z Z Z Z Zq Z Z Z Z Z b7 Q6X Q6Y (fun bQ bR bH bE=>(Q1h Q28 1 Z (fun aR b8 _=>?_)))
 subst b8
 refine Q1g 2 0 Z Z Z Zq Z Z Z (cs:=V5 ..) Z Q6Y tA_52 Z Z (Q13 Z Z Z Zq Z tZ_52 Z (fun g7=>(wP Z (wS 0 0 Z Q6Y (all':=V5 ..) Z (H':=[_,_]) Z (Q4 (Q3 (Q2 [6,7,58,57,56,3] (S':=V6 ..) Z (Q5 ?_))))))))
 obtain ⟨b9,hm,hLj_5⟩:=Q7 hm
 refine QF (σ:=Int×Int×Bool) (fun (a0,a1,a9)=>b9=(a0,a1,a9)) (fun (a0,a1,a9)=>[(58,.int .i64 ((z:Nat):Int)),(57,.int .i64 ((l1.length:Nat):Int)),(56,.slice a4 l1.length a5),(3,.pointer (some ⟨aB,0,none⟩)),(76,.bool a9)]) (fun (a0,a1,a9)=>[.sli 5 Qi a4 a5 l1,.sli 2 Qh a2 a3 l0]) (fun (a0,a1,a9)=>[.blk aB [.slice a2 l0.length a3,.slice a4 l1.length a5,.int .i64 a0,.int .i64 a1] 124]) ?_ ?_
 obtain ⟨bS,aV,hm⟩:=Q7 hm
 rcases Q14 hm with ⟨aP,hm⟩ | ⟨aP,hm⟩
 refine QR [0,1,2,3,4,6,7,8,9,10,12,13] Z Z (fun hok=>(xP hok 0 Z (xP hok 1 Z (Q9 hok 2 Z Z Z Zq Z Z Z Qau (Q9 hok 3 Z Z Z Zq Z Z Z Q9S (Ql hok 4 0 0 Z Z Z Zq Z Z Z Z (cs:=[_]) Z tS_9 tA_9 Z Z (xP hok 6 Z (xS hok 5 Z (wC [1] [0] Z fn_60 Z (Q7S N aB a2 a3 l0 a4 a5 l1 h s aF.name _ aV) (asK [5,4] Z) Z (H':=[_]) Z ?_)))))))))
 rintro _ _ _ ⟨rfl,rfl,rfl⟩
 refine Q4 (Q12 [2,3,4,5,6,7] [] Z Z (xP hok 7 Z (xP hok 8 Z (Q17 (d:=71) (v':=.bool true) (S':=V14 ..) Z Z (QJ aP) (xO hok 9 Z (xO hok 10 Z (xS hok 11 Z (wO Z (Q4 (Q12 [0,1,2,3,4,5,6,7] [1] Z Z (xO hok 12 Z (xP hok 13 Z (QO hok Z ?_)))))))))))))
 have hE:=(Zi hm).symm
 refine Qu [0] Z (H':=[_]) Z ?_
 refine Qd (h,s,true) hE [58,57,56,3,76] Z (asK [1,0] Z) Z
 obtain ⟨⟨aW,aX,aY⟩,bA,hm⟩:=Q7 hm
 try dsimp only at hm
 refine QR [0,1,2,3,4,6,7,8,9,10,12,13] Z Z (fun hok=>(xP hok 0 Z (xP hok 1 Z (Q9 hok 2 Z Z Z Zq Z Z Z Qau (Q9 hok 3 Z Z Z Zq Z Z Z Q9S (Ql hok 4 0 0 Z Z Z Zq Z Z Z Z (cs:=[_]) Z tS_9 tA_9 Z Z (xP hok 6 Z (xS hok 5 Z (wC [1] [0] Z fn_60 Z (Q7S N aB a2 a3 l0 a4 a5 l1 h s aF.name _ aV) (asK [5,4] Z) Z (H':=[_]) Z ?_)))))))))
 rintro _ _ _ ⟨rfl,rfl,rfl⟩
 refine Q4 (Q12 [2,3,4,5,6,7] [] Z Z (xP hok 7 Z (xP hok 8 Z (Q17 (d:=71) (v':=.bool false) (S':=V14 ..) Z Z (QJ aP) (xP hok 9 Z (Ql hok 10 1 0 Z Z Z Zq Z Z Z Z (cs:=V5 ..) Z Q6Y tA_52 Z Z (xS hok 11 Z (wC [0] [1] Z fn_61 Z (Qax N aB a2 a3 l0 a4 a5 l1 h s aF.name aF.salience aF.vars aR.1.1 aR.1.2 aF.conds aR.2.1 aR.2.2 aF.acts _ _ _ bA) (asK [0,1,2,3] Z) Z (H':=[_]) Z ?_))))))))
 rintro _ _ _ ⟨rfl,rfl,rfl⟩
 refine Q4 (Q12 [2,3,4,5,6,7,8,9] [1] Z Z (xP hok 12 Z (xP hok 13 Z (QO hok Z ?_))))
 have hE:=(Zi hm).symm
 refine Qu [0] Z (H':=[_]) Z ?_
 refine Qd (aX,aY,!aW) hE [58,57,56,3,76] Z (asK [1,0] Z) Z
 rintro ⟨a0,a1,a9⟩ hE
 try dsimp only
 have hm:=hLj_5
 try rw [hE] at hm
 try dsimp only at hm
 refine Qm Z (fun aQ=>?_) (fun aQ=>?_)
 replace hm:=Qw hm aQ
 refine Q2 [] (S':=[]) Z (Q5 (Q1 (wP Z (Q4 (Q3 (Qk (Qa (Q8 (Q8 (Qa (Q8 ?_)))))))))))
 have hE:=(Zi hm).symm
 replace hE:=Qn hLu2 hE
 replace hE:=Qn hLj_4 hE
 replace hE:=hE.symm
 subst hE
 refine Qq (Hr:=[]) [] Tryz.results30 (Qb Z) ⟨Z,Z,Z⟩ (asK [] Z) Z Z (.inl Z)
 replace hm:=Qv hm aQ
 refine Q2 [58,57,56,3] (S':=V4 ..) Z (Qt (Qf (Q3 (Q1 (wP Z ?_)))))
 obtain ⟨bB,hm⟩:=Qz hm
 refine QD (d:=77) (v':=.int .i64 ((z+1:Nat):Int)) (S':=V4 ..) Z Z (Q1f (a:=z) (b:=1) bB) (QS (S':=V4 ..) Z Z Z Z Z (Q4 ?_))
 have hE:=(Zi hm).symm
 replace hE:=QA hLu2 hE
 refine QY (_,z+1,a0,a1) (Nat.lt_succ_self _) hE [58,57,56,3] Z (asK [0,1] Z) Z
 replace hm:=Qv hm aO
 refine Q2 [] (S':=[]) Z (Q1k (Qo (Qo (QG ?_))))
 have hE:=(Zi hm).symm
 replace hE:=Qn hLu2 hE
 refine Qu [] Z (H':=[]) Z ?_
 refine Qd () hE [] Z (asK [] Z) Z
 rintro _ hE
 try dsimp only
 have hm:=QA hLj_4 hE
 try dsimp only at hm
 refine Q5 (Q1 (wP Z (Q4 (Q3 (Qk ?_)))))
 have hE:=(Zi hm).symm
 replace hE:=hE.symm
 subst hE
 refine Qq (Hr:=[]) [] Tryz.results30 (Qb Z) ⟨Z,Z,Z⟩ (asK [] Z) Z Z (.inl Z)
theorem w_naive_right_1_s (N:Nat)(a0:Int)(a1:Int)(a2:ByteArray)(o0:Bool)(hm:Q6I N a0 a1 a2=some o0):Q1d Tryz.prog 63 [.agg #[.int .u8 a0,.int .i64 a1,.string a2]] [] [] (fun v Φr Hr=>v=.bool o0∧Φr=[]∧Hr=[]):=by
 unfold Q6I at hm
 refine QI Tryz.func63 Z Tryz.ntmps63 Z (S:=[_]) Z (fun C=>(Q5 (Q1 (wB Z (fun g1=>(wP Z (Q4 (Q3 (Q2 [1] (S':=[_]) Z (Q5 (Q1 (QM 0 0 Z Z Z Zq Z Z Z (cs:=V3 ..) Z QB Q1b Z Z ?_))))))))))))
 obtain ⟨v4,hc4,hm⟩:=Q7 hm
 refine wC [] [0] Z fn_64 Z (Q56 N a0 a1 a2 _ hc4) (asK [] Z) Z (H':=[_]) Z ?_
 rintro _ _ _ ⟨rfl,rfl,rfl⟩
 refine wP Z (wP Z (Q4 (Q3 (Q2 [2] (S':=[_]) Z (Qk ?_)))))
 have hE:=(Zi hm).symm
 replace hE:=hE.symm
 subst hE
 refine Qq (Hr:=[]) [] Tryz.results63 (Qb Z) ⟨Z,Z,Z⟩ (asK [] Z) Z Z (.inl Z)
theorem Q8F (N:Nat)(a0:OA)(a1:Nat)(l0:List V)(o0:Int)(hm:Q47 N l0=some o0):Q1d Tryz.prog 106 [.slice a0 l0.length a1,.func (.func 63) #[] #[]] [.sli 3 R_V a0 a1 l0] [] (fun v Φr Hr=>v=.int .i64 o0∧Φr=[]∧Hr=[]):=by
 unfold Q47 at hm
 refine QI Tryz.func106 Z Tryz.ntmps106 Z (S:=[_,_]) Z (fun C=>(Q5 (Q1 (wP Z (Q4 (Q3 (Q2 [0,1] (S':=[_,_]) Z (Q5 ?_))))))))
 obtain ⟨a3,hm,hLj_1⟩:=QN hm
 refine QF (σ:=Unit) (fun _=>a3=.inl ()) (fun _=>[]) (fun _=>[]) (fun _=>[]) ?_ ?_
 refine Q5 (Q1 (wP Z (wN Z Q29 (wP Z (Q4 (Q3 (Q2 [8,7,0,1] (S':=V4 ..) Z (Qx (Q1o (σ:=Nat×Nat) (fun (y,h)=>Q19 (Q2D N l0) y h=some a3) (fun (y,h)=>y) (fun (y,h)=>[(8,.int .i64 ((h:Nat):Int)),(7,.int .i64 ((l0.length:Nat):Int)),(0,.slice a0 l0.length a1),(1,.func (.func 63) #[] #[])]) (fun (y,h)=>[.sli 3 R_V a0 a1 l0]) (fun (y,h)=>[]) (N,0) hm [8,7,0,1] Z (asK [0] Z) Z (fun s_ hm=>?_))))))))))
 obtain ⟨y,h⟩:=s_
 try dsimp only at hm ⊢
 obtain ⟨aE,aF,a6,hq,hLu1⟩:=Q10 hm
 clear hm
 subst a6
 replace hm:=hq
 clear hq
 unfold Q2D at hm
 try dsimp only at hm
 refine Q5 (Q1 (wP Z (QD (d:=9) (v':=.bool (decide (h < l0.length))) (S':=V4 ..) Z Z (Q2E (a:=h) (b:=l0.length)) (Q4 (Q3 (Q5 ?_))))))
 refine Qm Z (fun a4=>?_) (fun a4=>?_)
 replace hm:=Qw hm a4
 refine Q2 [8,7,0,1] (S':=V4 ..) Z (Qt (Q3 (Q5 (Qx (Q5 (Q1 (wP Z (wP Z (Q4 (Q3 (Q2 [5,8,7,0,1] (S':=V5 ..) Z (Q5 (Q1 ?_)))))))))))))
 refine wP Z (wP Z (wP Z ?_))
 obtain ⟨a5,a7,hm⟩:=Q7 hm
 refine QT 0 h Z Z Z Zq Z Z Z Z Z a7 Q29 QB (fun aG aH aD aB=>(Q1h Q2l 1 Z (fun aI a8 _=>?_)))
 subst a8
 refine Q1g 0 0 Z Z Z Zq Z Z Z (cs:=V3 ..) Z QB Q1b Z Z ?_
 obtain ⟨aJ,a9,hm⟩:=Q7 hm
 refine Q1p [] [] Z Z Z Zq Z Z Z fn_63 Z Z (w_naive_right_1_s N a5.k a5.n a5.s _ a9) (asK [] Z) Z (H':=[]) Z ?_
 rintro _ _ _ ⟨rfl,rfl,rfl⟩
 refine Q4 (Q3 (Q2 [16,5,8,7,0,1] (S':=V6 ..) Z ?_))
 refine Qm Z (fun z=>?_) (fun z=>?_)
 replace hm:=Qw hm z
 refine Q2 [5] (S':=[_]) Z (Q5 (Q1 (wP Z (wP Z (Q4 (Q3 (Q2 [4] (S':=[_]) Z (Qk (Qa (Q8 (Q8 (Qa (Q8 ?_)))))))))))))
 have hE:=(Zi hm).symm
 replace hE:=Qn hLu1 hE
 replace hE:=Qn hLj_1 hE
 replace hE:=hE.symm
 subst hE
 refine Qq (Hr:=[]) [] Tryz.results106 (Qb Z) ⟨Z,Z,Z⟩ (asK [] Z) Z Z (.inl Z)
 replace hm:=Qv hm z
 refine Q2 [8,7,0,1] (S':=V4 ..) Z (Qt (Qf (Q3 (Q1 (wP Z ?_)))))
 obtain ⟨aA,hm⟩:=Qz hm
 refine QD (d:=18) (v':=.int .i64 ((h+1:Nat):Int)) (S':=V4 ..) Z Z (Q1f (a:=h) (b:=1) aA) (QS (S':=V4 ..) Z Z Z Z Z (Q4 ?_))
 have hE:=(Zi hm).symm
 replace hE:=QA hLu1 hE
 refine QY (_,h+1) (Nat.lt_succ_self _) hE [8,7,0,1] Z (asK [2] Z) Z
 replace hm:=Qv hm a4
 refine Q2 [] (S':=[]) Z (Q1k (Qo (Qo (QG ?_))))
 have hE:=(Zi hm).symm
 replace hE:=Qn hLu1 hE
 refine Qd () hE [] Z (asK [] Z) Z
 rintro _ hE
 try dsimp only
 have hm:=QA hLj_1 hE
 try dsimp only at hm
 refine Q5 (Q1 (wP Z (Q4 (Q3 (Qk ?_)))))
 have hE:=(Zi hm).symm
 replace hE:=hE.symm
 subst hE
 refine Qq (Hr:=[]) [] Tryz.results106 (Qb Z) ⟨Z,Z,Z⟩ (asK [] Z) Z Z (.inl Z)
theorem Q7W (N:Nat)(qp0:OA)(qc1:Nat)(l0:List V)(o0:Bool)(hm:Q3t N l0=some o0):Q1d Tryz.prog 62 [.slice qp0 l0.length qc1,.func (.func 63) #[] #[]] [.sli 3 R_V qp0 qc1 l0] [] (fun v Φr Hr=>v=.bool o0∧Φr=[]∧Hr=[]):=by
 unfold Q3t at hm
 refine QI Tryz.func62 Z Tryz.ntmps62 Z (S:=[_,_]) Z (fun C=>(Q5 (Q1 (wP Z (Q4 (Q3 (Q2 [0,1] (S':=[_,_]) Z (Q5 (Q1 (wP Z (wP Z ?_)))))))))))
 obtain ⟨v7,hc7,hm⟩:=Q7 hm
 refine wC [] [] Z fn_106 Z (Q8F N qp0 qc1 l0 _ hc7) (asK [0] Z) Z (H':=[]) Z ?_
 rintro _ _ _ ⟨rfl,rfl,rfl⟩
 refine wP Z (wP Z (Q4 (Q3 (Q2 [4] (S':=[_]) Z (Qk ?_)))))
 have hE:=(Zi hm).symm
 replace hE:=hE.symm
 subst hE
 refine Qq (Hr:=[]) [] Tryz.results62 (Qb Z) ⟨Z,Z,Z⟩ (asK [] Z) Z Z (.inl Z)
theorem w_naive_right_s (N:Nat)(a5:OA)(a6:Nat)(l0:List Qg)(a7:OA)(a8:Nat)(l1:List Qj)(a9:OA)(aA:Nat)(l2:List QP)(o0:Bool)(hm:Q6C N l0 l1 l2=some o0):Q1d Tryz.prog 31 [.agg #[.slice a5 l0.length a6,.slice a7 l1.length a8],.slice a9 l2.length aA] [.sli 2 Qh a5 a6 l0,.sli 5 Qi a7 a8 l1,.sli 3 QW a9 aA l2] [] (fun v Φr Hr=>v=.bool o0∧Φr=[]∧Hr=[]):=by
 unfold Q6C at hm
 refine QI Tryz.func31 Z Tryz.ntmps31 Z (S:=[_,_]) Z (fun C=>(Q5 (Q1 (wB Z (fun g2=>(wP Z (Q4 (Q3 (Q2 [2,1] (S':=[_,_]) Z (Q5 (Q1 (wP Z (Q4 (Q3 (Q5 ?_)))))))))))))))
 obtain ⟨aI,hm,hLj_1⟩:=QN hm
 refine QF (σ:=Unit) (fun _=>aI=.inl ()) (fun _=>[]) (fun _=>[]) (fun _=>[]) ?_ ?_
 refine Q5 (Q1 (wP Z (wN Z Q6s (wP Z (Q4 (Q3 (Q2 [10,9,8,5,2] (S':=V5 ..) Z (Qx (Q1o (σ:=Nat×Nat×Int) (fun (a3,h,y)=>Q19 (Q3W N l2 l0) a3 (h,y)=some aI) (fun (a3,h,y)=>a3) (fun (a3,h,y)=>[(10,.int .i64 ((h:Nat):Int)),(9,.int .i64 ((l2.length:Nat):Int)),(8,.slice a9 l2.length aA),(5,.int .i64 y),(2,.pointer (some ⟨g2,0,none⟩))]) (fun (a3,h,y)=>[.sli 3 QW a9 aA l2,.sli 2 Qh a5 a6 l0,.sli 5 Qi a7 a8 l1]) (fun (a3,h,y)=>[.blk g2 [.slice a5 l0.length a6,.slice a7 l1.length a8] 25]) (N,0,0) hm [10,9,8,5,2] Z (asK [2,0,1] Z) Z (fun s_ hm=>?_))))))))))
 obtain ⟨a3,h,y⟩:=s_
 try dsimp only at hm ⊢
 obtain ⟨b3,b4,aN,hq,hLu1⟩:=Q10 hm
 clear hm
 subst aN
 replace hm:=hq
 clear hq
 unfold Q3W at hm
 try dsimp only at hm
 refine Q5 (Q1 (wP Z (QD (d:=11) (v':=.bool (decide (h < l2.length))) (S':=V5 ..) Z Z (Q2E (a:=h) (b:=l2.length)) (Q4 (Q3 (Q5 ?_))))))
 refine Qm Z (fun aD=>?_) (fun aD=>?_)
 replace hm:=Qw hm aD
 refine Q2 [10,9,8,5,2] (S':=V5 ..) Z (Qt (Q3 (Q5 (Qx (Q5 (Q1 ?_))))))
 obtain ⟨a1,aO,hm⟩:=Q7 hm
 refine QT 0 h Z Z Z Zq Z Z Z Z Z aO Q6s Q5Z (fun b5 b6 b1 aV=>(Q1h Q2k 1 Z (fun aB aP _=>?_)))
 subst aP
 refine Q1g 1 0 Z Z Z Zq Z Z Z (cs:=V3 ..) Z Q5Z tA_71 Z Z (Q13 Z Z Z Zq Z tZ_71 Z (fun g7=>(wS 0 0 Z Q5Z (all':=V3 ..) Z (H':=[_,_]) Z (Q4 (Q3 (Q2 [7,10,9,8,5,2] (S':=V6 ..) Z (Q5 (Q5 ?_))))))))
 obtain ⟨aQ,hm,hLj_2⟩:=Q7 hm
 unfold Q6l at hm
 refine QF (σ:=Bool) (fun s=>aQ=s) (fun s=>[(7,.pointer (some ⟨g7,0,none⟩)),(10,.int .i64 ((h:Nat):Int)),(9,.int .i64 ((l2.length:Nat):Int)),(8,.slice a9 l2.length aA),(2,.pointer (some ⟨g2,0,none⟩)),(53,.bool s)]) (fun s=>[.sli 3 R_V aB.1 aB.2 a1.args,.sli 3 QW a9 aA l2,.sli 2 Qh a5 a6 l0,.sli 5 Qi a7 a8 l1]) (fun s=>[.blk g7 [.int .i64 (a1.id),.int .i64 (a1.ty),.slice aB.1 a1.args.length aB.2] 71,.blk g2 [.slice a5 l0.length a6,.slice a7 l1.length a8] 25]) ?_ ?_
 rcases Q14 hm with ⟨z,hm⟩ | ⟨z,hm⟩
 refine QR [0,1,2,3,4,5,6,7,8,9,10,11,12,13,14,15,16,17,18,19,20,21,22,23,24,25,26,27,28,29,30,31,32,33,34,35,36,37,39] Z Z (fun hok=>(Q9 hok 0 Z Z Z Zq Z Z Z Q3g (Ql hok 1 0 0 Z Z Z Zq Z Z Z Z (cs:=[_]) Z QZ Q15 Z Z (xP hok 2 Z (xP hok 3 Z (xP hok 4 Z (Q17 (d:=18) (v':=.bool true) (S':=V10 ..) Z Z (QJ z) (xO hok 5 Z (xO hok 6 Z (xO hok 7 Z (xP hok 8 Z (xP hok 9 Z (xO hok 10 Z (xO hok 11 Z ?_))))))))))))))
 refine xO hok 12 Z (xP hok 13 Z (xP hok 14 Z (xO hok 15 Z (xO hok 16 Z (xO hok 17 Z (xO hok 18 Z (xO hok 19 Z (xO hok 20 Z (xP hok 21 Z (xP hok 22 Z (xO hok 23 Z (xO hok 24 Z (xO hok 25 Z ?_)))))))))))))
 refine xO hok 26 Z (xO hok 27 Z (xO hok 28 Z (xO hok 29 Z (xO hok 30 Z (xO hok 31 Z (xO hok 32 Z (xO hok 33 Z (xP hok 34 Z (xP hok 35 Z (xO hok 36 Z (xO hok 37 Z (xS hok 38 Z (wO Z ?_)))))))))))))
 refine Q4 (Q12 [0,1,2,3,4,5] [0] Z Z (xP hok 39 Z (QO hok Z ?_)))
 have hE:=(Zi hm).symm
 refine Qd true hE [7,10,9,8,2,53] Z (asK [0,3,4,5] Z) Z
 rcases Q14 hm with ⟨a0,hm⟩ | ⟨a0,hm⟩
 refine QR [0,1,2,3,4,5,6,7,8,9,10,11,12,13,14,15,16,17,18,19,20,21,22,23,24,25,26,27,28,29,30,31,32,33,34,35,36,37,39] Z Z (fun hok=>(Q9 hok 0 Z Z Z Zq Z Z Z Q3g (Ql hok 1 0 0 Z Z Z Zq Z Z Z Z (cs:=[_]) Z QZ Q15 Z Z (xP hok 2 Z (xP hok 3 Z (xP hok 4 Z (Q17 (d:=18) (v':=.bool false) (S':=V10 ..) Z Z (QJ z) (Q9 hok 5 Z Z Z Zq Z Z Z Q3g (Ql hok 6 0 0 Z Z Z Zq Z Z Z Z (cs:=[_]) Z QZ Q15 Z Z (xP hok 7 Z (xP hok 8 Z (xP hok 9 Z (Q17 (d:=23) (v':=.bool true) (S':=V15 ..) Z Z (QJ a0) (xO hok 10 Z ?_))))))))))))))
 refine xO hok 11 Z (xO hok 12 Z (xP hok 13 Z (xP hok 14 Z (xO hok 15 Z (xO hok 16 Z (xO hok 17 Z (xO hok 18 Z (xO hok 19 Z (xO hok 20 Z (xP hok 21 Z (xP hok 22 Z (xO hok 23 Z (xO hok 24 Z ?_)))))))))))))
 refine xO hok 25 Z (xO hok 26 Z (xO hok 27 Z (xO hok 28 Z (xO hok 29 Z (xO hok 30 Z (xO hok 31 Z (xO hok 32 Z (xO hok 33 Z (xP hok 34 Z (xP hok 35 Z (xO hok 36 Z (xO hok 37 Z (xS hok 38 Z ?_)))))))))))))
 refine wO Z (Q4 (Q12 [0,1,2,3,4,5] [0,0] Z Z (xP hok 39 Z (QO hok Z ?_))))
 have hE:=(Zi hm).symm
 refine Qd true hE [7,10,9,8,2,53] Z (asK [0,3,4,5] Z) Z
 rcases Q14 hm with ⟨a2,hm⟩ | ⟨a2,hm⟩
 refine QR [0,1,2,3,4,5,6,7,8,9,10,11,12,13,14,15,16,17,18,19,20,21,22,23,24,25,26,27,28,29,30,31,32,33,34,35,36,37,39] Z Z (fun hok=>(Q9 hok 0 Z Z Z Zq Z Z Z Q3g (Ql hok 1 0 0 Z Z Z Zq Z Z Z Z (cs:=[_]) Z QZ Q15 Z Z (xP hok 2 Z (xP hok 3 Z (xP hok 4 Z (Q17 (d:=18) (v':=.bool false) (S':=V10 ..) Z Z (QJ z) (Q9 hok 5 Z Z Z Zq Z Z Z Q3g (Ql hok 6 0 0 Z Z Z Zq Z Z Z Z (cs:=[_]) Z QZ Q15 Z Z (xP hok 7 Z (xP hok 8 Z (xP hok 9 Z (Q17 (d:=23) (v':=.bool false) (S':=V15 ..) Z Z (QJ a0) (Q9 hok 10 Z Z Z Zq Z Z Z Q5h ?_))))))))))))))
 refine Ql hok 11 0 1 Z Z Z Zq Z Z Z Z (cs:=[_]) Z QZ Q15 Z Z (xP hok 12 Z (xP hok 13 Z (xP hok 14 Z (Q17 (d:=28) (v':=.bool true) (S':=V20 ..) Z Z (QJ a2) (xO hok 15 Z (xO hok 16 Z (xO hok 17 Z (xO hok 18 Z (xO hok 19 Z (xO hok 20 Z (xP hok 21 Z (xP hok 22 Z (xO hok 23 Z ?_)))))))))))))
 refine xO hok 24 Z (xO hok 25 Z (xO hok 26 Z (xO hok 27 Z (xO hok 28 Z (xO hok 29 Z (xO hok 30 Z (xO hok 31 Z (xO hok 32 Z (xO hok 33 Z (xP hok 34 Z (xP hok 35 Z (xO hok 36 Z (xO hok 37 Z ?_)))))))))))))
 refine xS hok 38 Z (wO Z (Q4 (Q12 [0,1,2,3,4,5] [0,0,0] Z Z (xP hok 39 Z (QO hok Z ?_)))))
 have hE:=(Zi hm).symm
 refine Qd true hE [7,10,9,8,2,53] Z (asK [0,3,4,5] Z) Z
 rcases Q14 hm with ⟨a4,hm⟩ | ⟨a4,hm⟩
 refine QR [0,1,2,3,4,5,6,7,8,9,10,11,12,13,14,15,16,17,18,19,20,21,22,23,24,25,26,27,28,29,30,31,32,33,34,35,36,37,39] Z Z (fun hok=>(Q9 hok 0 Z Z Z Zq Z Z Z Q3g (Ql hok 1 0 0 Z Z Z Zq Z Z Z Z (cs:=[_]) Z QZ Q15 Z Z (xP hok 2 Z (xP hok 3 Z (xP hok 4 Z (Q17 (d:=18) (v':=.bool false) (S':=V10 ..) Z Z (QJ z) (Q9 hok 5 Z Z Z Zq Z Z Z Q3g (Ql hok 6 0 0 Z Z Z Zq Z Z Z Z (cs:=[_]) Z QZ Q15 Z Z (xP hok 7 Z (xP hok 8 Z (xP hok 9 Z (Q17 (d:=23) (v':=.bool false) (S':=V15 ..) Z Z (QJ a0) (Q9 hok 10 Z Z Z Zq Z Z Z Q5h ?_))))))))))))))
 refine Ql hok 11 0 1 Z Z Z Zq Z Z Z Z (cs:=[_]) Z QZ Q15 Z Z (xP hok 12 Z (xP hok 13 Z (xP hok 14 Z (Q17 (d:=28) (v':=.bool false) (S':=V20 ..) Z Z (QJ a2) (Q9 hok 15 Z Z Z Zq Z Z Z Q5h (Ql hok 16 0 1 Z Z Z Zq Z Z Z Z (cs:=[_]) Z QZ Q15 Z Z (Q9 hok 17 Z Z Z Zq Z Z Z Q4D (Ql hok 18 1 0 Z Z Z Zq Z Z Z Z (cs:=[_]) Z Q7l Q7i Z Z (Q7p hok 19 Z Z Z Zq Z Z Z Q6r (xP hok 20 Z (xP hok 21 Z (xP hok 22 Z (Q17 (d:=36) (v':=.bool true) (S':=V28 ..) Z Z (QJ a4) ?_)))))))))))))
 refine xO hok 23 Z (xO hok 24 Z (xO hok 25 Z (xO hok 26 Z (xO hok 27 Z (xO hok 28 Z (xO hok 29 Z (xO hok 30 Z (xO hok 31 Z (xO hok 32 Z (xO hok 33 Z (xP hok 34 Z (xP hok 35 Z (xO hok 36 Z ?_)))))))))))))
 refine xO hok 37 Z (xS hok 38 Z (wO Z (Q4 (Q12 [0,1,2,3,4,5] [1,0,0,0,0] Z Z (xP hok 39 Z (QO hok Z ?_))))))
 have hE:=(Zi hm).symm
 refine Qd true hE [7,10,9,8,2,53] Z (asK [0,3,4,5] Z) Z
 obtain ⟨aJ,hm⟩:=Qz hm
 obtain ⟨b7,aK,hm⟩:=Q7 hm
 rcases Q14 hm with ⟨aE,hm⟩ | ⟨aE,hm⟩
 refine QR [0,1,2,3,4,5,6,7,8,9,10,11,12,13,14,15,16,17,18,19,20,21,22,23,24,25,26,27,28,29,30,31,32,33,34,35,36,37,39] Z Z (fun hok=>(Q9 hok 0 Z Z Z Zq Z Z Z Q3g (Ql hok 1 0 0 Z Z Z Zq Z Z Z Z (cs:=[_]) Z QZ Q15 Z Z (xP hok 2 Z (xP hok 3 Z (xP hok 4 Z (Q17 (d:=18) (v':=.bool false) (S':=V10 ..) Z Z (QJ z) (Q9 hok 5 Z Z Z Zq Z Z Z Q3g (Ql hok 6 0 0 Z Z Z Zq Z Z Z Z (cs:=[_]) Z QZ Q15 Z Z (xP hok 7 Z (xP hok 8 Z (xP hok 9 Z (Q17 (d:=23) (v':=.bool false) (S':=V15 ..) Z Z (QJ a0) (Q9 hok 10 Z Z Z Zq Z Z Z Q5h ?_))))))))))))))
 refine Ql hok 11 0 1 Z Z Z Zq Z Z Z Z (cs:=[_]) Z QZ Q15 Z Z (xP hok 12 Z (xP hok 13 Z (xP hok 14 Z (Q17 (d:=28) (v':=.bool false) (S':=V20 ..) Z Z (QJ a2) (Q9 hok 15 Z Z Z Zq Z Z Z Q5h (Ql hok 16 0 1 Z Z Z Zq Z Z Z Z (cs:=[_]) Z QZ Q15 Z Z (Q9 hok 17 Z Z Z Zq Z Z Z Q4D (Ql hok 18 1 0 Z Z Z Zq Z Z Z Z (cs:=[_]) Z Q7l Q7i Z Z (Q7p hok 19 Z Z Z Zq Z Z Z Q6r (xP hok 20 Z (xP hok 21 Z (xP hok 22 Z (Q17 (d:=36) (v':=.bool false) (S':=V28 ..) Z Z (QJ a4) ?_)))))))))))))
 refine Q9 hok 23 Z Z Z Zq Z Z Z Q68 (Ql hok 24 0 2 Z Z Z Zq Z Z Z Z (cs:=[_]) Z Q5i Q5f Z Z (Q7p hok 25 Z Z Z Zq Z Z Z Q29 (Q9 hok 26 Z Z Z Zq Z Z Z Q4D (Ql hok 27 1 0 Z Z Z Zq Z Z Z Z (cs:=[_]) Z Q7l Q7i Z Z (Q9 hok 28 Z Z Z Zq Z Z Z Q5h (Ql hok 29 0 1 Z Z Z Zq Z Z Z Z (cs:=[_]) Z QZ Q15 Z Z (Q1B hok 30 4 a1.ty.toNat Z Z Z Zq Z Z Z Z Z (Q1I aJ) aK Q6r Q95 (fun aW aX aR aM=>(Q1X Q2A 1 Z (fun aY aF _=>?_))))))))))
 subst aF
 refine Q9 hok 31 Z Z Z Zq Z Z Z Q6K (Q2J hok 32 0 1 Z Z Z Zq Z Z Z Z (cs:=[_]) Z QZ Q15 Z Z (xP hok 33 Z (xP hok 34 Z (xP hok 35 Z (Q17 (d:=49) (v':=.bool true) (S':=V41 ..) Z Z (QJ aE) (xO hok 36 Z (xO hok 37 Z (xS hok 38 Z (wO Z (Q4 (Q12 [0,1,2,3,4,5,6,7] [0,1,0,1,0,0,0,0] Z Z (xP hok 39 Z (QO hok Z ?_)))))))))))))
 have hE:=(Zi hm).symm
 refine Qd true hE [7,10,9,8,2,53] Z (asK [2,5,6,7] Z) Z
 obtain ⟨aZ,aS,hm⟩:=Q7 hm
 refine QR [0,1,2,3,4,5,6,7,8,9,10,11,12,13,14,15,16,17,18,19,20,21,22,23,24,25,26,27,28,29,30,31,32,33,34,35,36,37,39] Z Z (fun hok=>(Q9 hok 0 Z Z Z Zq Z Z Z Q3g (Ql hok 1 0 0 Z Z Z Zq Z Z Z Z (cs:=[_]) Z QZ Q15 Z Z (xP hok 2 Z (xP hok 3 Z (xP hok 4 Z (Q17 (d:=18) (v':=.bool false) (S':=V10 ..) Z Z (QJ z) (Q9 hok 5 Z Z Z Zq Z Z Z Q3g (Ql hok 6 0 0 Z Z Z Zq Z Z Z Z (cs:=[_]) Z QZ Q15 Z Z (xP hok 7 Z (xP hok 8 Z (xP hok 9 Z (Q17 (d:=23) (v':=.bool false) (S':=V15 ..) Z Z (QJ a0) (Q9 hok 10 Z Z Z Zq Z Z Z Q5h ?_))))))))))))))
 refine Ql hok 11 0 1 Z Z Z Zq Z Z Z Z (cs:=[_]) Z QZ Q15 Z Z (xP hok 12 Z (xP hok 13 Z (xP hok 14 Z (Q17 (d:=28) (v':=.bool false) (S':=V20 ..) Z Z (QJ a2) (Q9 hok 15 Z Z Z Zq Z Z Z Q5h (Ql hok 16 0 1 Z Z Z Zq Z Z Z Z (cs:=[_]) Z QZ Q15 Z Z (Q9 hok 17 Z Z Z Zq Z Z Z Q4D (Ql hok 18 1 0 Z Z Z Zq Z Z Z Z (cs:=[_]) Z Q7l Q7i Z Z (Q7p hok 19 Z Z Z Zq Z Z Z Q6r (xP hok 20 Z (xP hok 21 Z (xP hok 22 Z (Q17 (d:=36) (v':=.bool false) (S':=V28 ..) Z Z (QJ a4) ?_)))))))))))))
 refine Q9 hok 23 Z Z Z Zq Z Z Z Q68 (Ql hok 24 0 2 Z Z Z Zq Z Z Z Z (cs:=[_]) Z Q5i Q5f Z Z (Q7p hok 25 Z Z Z Zq Z Z Z Q29 (Q9 hok 26 Z Z Z Zq Z Z Z Q4D (Ql hok 27 1 0 Z Z Z Zq Z Z Z Z (cs:=[_]) Z Q7l Q7i Z Z (Q9 hok 28 Z Z Z Zq Z Z Z Q5h (Ql hok 29 0 1 Z Z Z Zq Z Z Z Z (cs:=[_]) Z QZ Q15 Z Z (Q1B hok 30 4 a1.ty.toNat Z Z Z Zq Z Z Z Z Z (Q1I aJ) aK Q6r Q95 (fun aW aX aR aM=>(Q1X Q2A 1 Z (fun aY aF _=>?_))))))))))
 subst aF
 refine Q9 hok 31 Z Z Z Zq Z Z Z Q6K (Q2J hok 32 0 1 Z Z Z Zq Z Z Z Z (cs:=[_]) Z QZ Q15 Z Z (xP hok 33 Z (xP hok 34 Z (xP hok 35 Z (Q17 (d:=49) (v':=.bool false) (S':=V41 ..) Z Z (QJ aE) (Q9 hok 36 Z Z Z Zq Z Z Z Q68 (Ql hok 37 0 2 Z Z Z Zq Z Z Z Z (cs:=[_]) Z Q5i Q5f Z Z (xS hok 38 Z (wC [] [0,1] Z fn_62 Z (Q7W N aB.1 aB.2 a1.args _ aS) (asK [2] Z) Z (H':=[_,_]) Z ?_)))))))))
 rintro _ _ _ ⟨rfl,rfl,rfl⟩
 refine Q4 (Q12 [0,1,2,3,4,5,6,7] [0,1,0,1,0,0,0,0] Z Z (xP hok 39 Z (QO hok Z ?_)))
 have hE:=(Zi hm).symm
 refine Qd aZ hE [7,10,9,8,2,53] Z (asK [2,5,6,7] Z) Z
 rintro s hE
 try dsimp only
 have hm:=hLj_2
 try rw [hE] at hm
 refine Qm Z (fun aG=>?_) (fun aG=>?_)
 replace hm:=Qw hm aG
 refine Q2 [] (S':=[]) Z (Q5 (Q1 (wP Z (Q4 (Q3 (Qk (Q8 (Qa (Q8 (Q8 (Qa (Q8 ?_))))))))))))
 have hE:=(Zi hm).symm
 replace hE:=Qn hLu1 hE
 replace hE:=Qn hLj_1 hE
 replace hE:=hE.symm
 subst hE
 refine Qq (Hr:=[]) [] Tryz.results31 (Qb Z) ⟨Z,Z,Z⟩ (asK [] Z) Z Z (.inl Z)
 replace hm:=Qv hm aG
 refine Q2 [7,10,9,8,2] (S':=V5 ..) Z (Qt (Q3 (Q1 (wF Z Q3g (wD 0 0 Z QZ Q15 Z (wP Z (Q4 (Qf (Q3 (Q2 [5,10,9,8,2] (S':=V5 ..) Z (Q1 (wP Z ?_))))))))))))
 obtain ⟨aT,hm⟩:=Qz hm
 refine QD (d:=56) (v':=.int .i64 ((h+1:Nat):Int)) (S':=V5 ..) Z Z (Q1f (a:=h) (b:=1) aT) (QS (S':=V5 ..) Z Z Z Z Z (Q4 ?_))
 have hE:=(Zi hm).symm
 replace hE:=QA hLu1 hE
 refine Qu [1] Z (H':=[_]) Z ?_
 refine QY (_,h+1,a1.id) (Nat.lt_succ_self _) hE [10,9,8,5,2] Z (asK [1,2,3] Z) Z
 replace hm:=Qv hm aD
 refine Q2 [] (S':=[]) Z (Q1k (Qo (Qo (QG ?_))))
 have hE:=(Zi hm).symm
 replace hE:=Qn hLu1 hE
 refine Qu [] Z (H':=[]) Z ?_
 refine Qd () hE [] Z (asK [] Z) Z
 rintro _ hE
 try dsimp only
 have hm:=QA hLj_1 hE
 try dsimp only at hm
 refine Q5 (Q1 (wP Z (Q4 (Q3 (Qk ?_)))))
 have hE:=(Zi hm).symm
 replace hE:=hE.symm
 subst hE
 refine Qq (Hr:=[]) [] Tryz.results31 (Qb Z) ⟨Z,Z,Z⟩ (asK [] Z) Z Z (.inl Z)
theorem w_pattern_New_s (N:Nat)(z:Int)(o2:List Bool)(o6:List V)(hm:Q4G N z=some (o2,o6)):Q1d Tryz.prog 43 [.int .i64 z] [] [] (fun v Φr Hr=>∃ (o0:OA)(o1:Nat)(o3:Nat)(o4:OA)(o5:Nat)(o7:Nat),v=.agg #[.slice o0 o3 o1,.slice o4 o7 o5]∧Φr=[]∧Hr=[.own 4 1 Q1R (.slice o0 o3 o1) o2,.own 57 3 R_V (.slice o4 o7 o5) o6]):=by
 unfold Q4G at hm
 refine QI Tryz.func43 Z Tryz.ntmps43 Z (S:=[_]) Z (fun C=>(Q5 (Q1 (Q13 Z Z Z Zq Z Q9d Z (fun g2=>(Q4 (Q3 (Q5 (Q5 ?_)))))))))
 obtain ⟨a9,hm,hLj_1⟩:=Q7 hm
 refine QF (σ:=Bool) (fun y=>a9=y) (fun y=>[(0,.int .i64 z),(2,.pointer (some ⟨g2,0,none⟩)),(8,.bool y)]) (fun y=>[]) (fun y=>[.blk g2 [V1,V1] 100]) ?_ ?_
 refine Q1 (wP Z (wP Z (wP Z ?_)))
 refine Qr (d:=5) (S':=V4 ..) Z Z (fun a5=>?_) (fun a5=>?_)
 replace hm:=Qw hm a5
 refine wO Z (wO Z (wP Z (Q4 ?_)))
 have hE:=(Zi hm).symm
 refine Qd true hE [0,2,8] Z (asK [] Z) Z
 replace hm:=Qv hm a5
 refine wP Z (wP Z (wP Z (Q4 ?_)))
 have hE:=(Zi hm).symm
 refine Qd (decide (z > 16)) hE [0,2,8] Z (asK [] Z) Z
 rintro y hE
 try dsimp only
 have hm:=hLj_1
 try rw [hE] at hm
 refine Qm Z (fun a6=>?_) (fun a6=>?_)
 replace hm:=Qw hm a6
 refine Q2 [2] (S':=[_]) Z (Q5 (Q1 (Q1F Z Z Z Zq Z Q9d tP_100 Z (out:=[_,_]) Z (wS 0 0 Z Q5G (all':=[_,_]) Z (H':=[_]) Z (Q4 (Q3 (Q2 [2] (S':=[_]) Z (Qk (Q8 ?_)))))))))
 have hE:=(Zi hm).symm
 obtain ⟨hE0,hE1⟩:=Prod.mk.inj hE
 clear hE
 replace hE0:=hE0.symm
 subst hE0
 replace hE1:=hE1.symm
 subst hE1
 refine Q2T 4 1 Q1R (Q2T 57 3 R_V ?_)
 refine Qq (Hr:=[_,_]) [1,0] Tryz.results43 (Q1e 2 Z Z Q5G Q8w Z Z) ⟨none,0,0,none,0,0,Z,Z,Z⟩ (asK [] Z) Z Z (.inl Z)
 replace hm:=Qv hm a6
 refine Q2 [0,2] (S':=[_,_]) Z (Qt (Q3 (Q5 ?_)))
 obtain ⟨a1,hm⟩:=Qz hm
 obtain ⟨a2,hm⟩:=Qz hm
 obtain ⟨a3,hm⟩:=Qz hm
 obtain ⟨a4,hm⟩:=Qz hm
 refine QF (σ:=OA×OA) (fun _=>True) (fun (h,s)=>[(2,.pointer (some ⟨g2,0,none⟩))]) (fun (h,s)=>[]) (fun (h,s)=>[.blk g2 [.slice h z.toNat z.toNat,.slice s z.toNat z.toNat] 100,.own 4 1 Q1R (.slice h z.toNat z.toNat) (List.replicate z.toNat false),.own 57 3 R_V (.slice s z.toNat z.toNat) (List.replicate z.toNat (⟨0,0,(⟨#[]⟩ : ByteArray)⟩ : V))]) ?_ ?_
 refine QR [0,2,4] Z Z (fun hok=>(xP hok 0 Z (xP hok 2 Z ?_)))
 refine Q8H hok 1 3 Z Z Z Z Z Z ?_ ?_
 refine Q8g (m:=z.toNat) Q1R false Z Z Z Zq Z Z Z (Q1I a1) (Q1I a1) tE_98 tR_4 Z Z (fun _ _=>⟨(),Z,Q1n⟩) (Nat.le_trans (Nat.mul_le_mul_left _ a2) (by decide)) (Nat.le_trans a2 (by decide)) (fun a7=>(Q4 (Q12 [] [] Z Z (xS hok 3 Z (Q8g (m:=z.toNat) R_V (⟨0,0,(⟨#[]⟩ : ByteArray)⟩ : V) Z Z Z Zq Z Z Z (Q1I a3) (Q1I a3) Q29 tR_57 Z Z (fun _ _=>⟨(),Z,Q1n⟩) (Nat.le_trans (Nat.mul_le_mul_left _ a4) (by decide)) (Nat.le_trans a4 (by decide)) (fun a8=>(Q4 (Q12 [] [] Z Z (QaC hok 4 Z Z Z Zq Z Z Q9d tP_100 Z (out:=[_,_]) Z (xS hok 5 Z (wS 2 0 Z Q5G (all':=[_,_]) Z (H':=V3 ..) Z (Q4 (Q12 [] [] Z Z (QO hok Z (Qu [2,1,0] Z (H':=V3 ..) Z ?_)))))))))))))))
 refine Qd (some ⟨a7,0,none⟩,some ⟨a8,0,none⟩) trivial [2] Z (asK [] Z) Z
 refine Q8g (m:=z.toNat) R_V (⟨0,0,(⟨#[]⟩ : ByteArray)⟩ : V) Z Z Z Zq Z Z Z (Q1I a3) (Q1I a3) Q29 tR_57 Z Z (fun _ _=>⟨(),Z,Q1n⟩) (Nat.le_trans (Nat.mul_le_mul_left _ a4) (by decide)) (Nat.le_trans a4 (by decide)) (fun a8=>(Q4 (Q12 [] [] Z Z (xS hok 1 Z (Q8g (m:=z.toNat) Q1R false Z Z Z Zq Z Z Z (Q1I a1) (Q1I a1) tE_98 tR_4 Z Z (fun _ _=>⟨(),Z,Q1n⟩) (Nat.le_trans (Nat.mul_le_mul_left _ a2) (by decide)) (Nat.le_trans a2 (by decide)) (fun a7=>(Q4 (Q12 [] [] Z Z (QaC hok 4 Z Z Z Zq Z Z Q9d tP_100 Z (out:=[_,_]) Z (xS hok 5 Z (wS 2 0 Z Q5G (all':=[_,_]) Z (H':=V3 ..) Z (Q4 (Q12 [] [] Z Z (QO hok Z (Qu [2,0,1] Z (H':=V3 ..) Z ?_)))))))))))))))
 refine Qd (some ⟨a7,0,none⟩,some ⟨a8,0,none⟩) trivial [2] Z (asK [] Z) Z
 rintro ⟨h,s⟩ _
 try dsimp only
 refine Qk ?_
 have hE:=(Zi hm).symm
 obtain ⟨hE0,hE1⟩:=Prod.mk.inj hE
 clear hE
 replace hE0:=hE0.symm
 subst hE0
 replace hE1:=hE1.symm
 subst hE1
 refine Qq (Hr:=[_,_]) [1,2] Tryz.results43 (Q1e 0 Z Z Q5G Q8w Z Z) ⟨h,z.toNat,z.toNat,s,z.toNat,z.toNat,Z,Z,Z⟩ (asK [] Z) Z Z (.inl Z)
theorem QaR (N:Nat)(a0:Int)(a1:Int)(a2:ByteArray)(o0:Int)(o1:Int)(o2:ByteArray)(o3:Nat)(hm:Q6V N a0 a1 a2=some (o0,o1,o2,o3)):Q1d Tryz.prog 80 [.agg #[.int .u8 a0,.int .i64 a1,.string a2]] [] [] (fun v Φr Hr=>v=.tuple #[.agg #[.int .u8 o0,.int .i64 o1,.string o2],.int .i64 ((o3:Nat):Int)]∧Φr=[]∧Hr=[]):=by
 unfold Q6V at hm
 refine QI Tryz.func80 Z Tryz.ntmps80 Z (S:=[_]) Z (fun C=>(Q5 (Q1 (wB Z (fun g1=>(Q13 Z Z Z Zq Z Q1Q Z (fun g2=>(wP Z (Q4 (Q3 (Q2 [2,1] (S':=[_,_]) Z (Q5 (Q5 (Q1 (QM 1 0 Z Z Z Zq Z Z Z (cs:=V3 ..) Z QB Q1b Z Z ?_)))))))))))))))
 obtain ⟨v5,hc5,hm⟩:=Q7 hm
 refine wC [] [0,1] Z fn_64 Z (Q56 N a0 a1 a2 _ hc5) (asK [] Z) Z (H':=[_,_]) Z ?_
 rintro _ _ _ ⟨rfl,rfl,rfl⟩
 refine wP Z (Q4 (Q3 (Q2 [6,2,1] (S':=V3 ..) Z ?_)))
 refine Qm Z (fun hb6=>?_) (fun hb6=>?_)
 replace hm:=Qw hm hb6
 refine Q2 [2] (S':=[_]) Z (Q5 (Q1 (Q1F Z Z Z Zq Z Q1Q Q69 Z (out:=V3 ..) Z (wS 0 0 Z QB (all':=V3 ..) Z (H':=[_,_]) Z (wP Z (Q4 (Q3 (Q2 [3,2] (S':=[_,_]) Z (Qk (Q8 ?_))))))))))
 have hE:=(Zi hm).symm
 obtain ⟨hE0,hF1⟩:=Prod.mk.inj hE
 obtain ⟨hE1,hF2⟩:=Prod.mk.inj hF1
 obtain ⟨hE2,hE3⟩:=Prod.mk.inj hF2
 clear hE hF1 hF2
 replace hE0:=hE0.symm
 subst hE0
 replace hE1:=hE1.symm
 subst hE1
 replace hE2:=hE2.symm
 subst hE2
 replace hE3:=hE3.symm
 subst hE3
 refine QH (Hr:=[]) [] Tryz.results80 (Q1e 0 Z Z QB Q1b Z Z) (Qb Z) ⟨Z,Z,Z⟩ (asK [] Z) Z Z (.inl Z)
 replace hm:=Qv hm hb6
 refine Q2 [2,1] (S':=[_,_]) Z (Qt (Q3 (Q5 (Q1 (QM 1 0 Z Z Z Zq Z Z Z (cs:=V3 ..) Z QB Q1b Z Z (wS 0 0 Z QB (all':=V3 ..) Z (H':=[_,_]) Z (wP Z (Q4 (Q3 (Q2 [3,2] (S':=[_,_]) Z (Qk ?_)))))))))))
 have hE:=(Zi hm).symm
 obtain ⟨hE0,hF1⟩:=Prod.mk.inj hE
 obtain ⟨hE1,hF2⟩:=Prod.mk.inj hF1
 obtain ⟨hE2,hE3⟩:=Prod.mk.inj hF2
 clear hE hF1 hF2
 replace hE0:=hE0.symm
 subst hE0
 replace hE1:=hE1.symm
 subst hE1
 replace hE2:=hE2.symm
 subst hE2
 replace hE3:=hE3.symm
 subst hE3
 refine QH (Hr:=[]) [] Tryz.results80 (Q1e 0 Z Z QB Q1b Z Z) (Qb Z) ⟨Z,Z,Z⟩ (asK [] Z) Z Z (.inl Z)
theorem w_expr_Eval_1_s (N:Nat)(qg0:Nat)(a0:Int)(a1:Int)(a2:Int)(a3:ByteArray)(a4:Int)(a5:Int)(qp1:OA)(qc2:Nat)(l6:List Qe)(o0:Int)(o1:Int)(o2:ByteArray)(o3:Nat)(hm:Q7I N a0 a1 a2 a3 a4 a5 l6=some (o0,o1,o2,o3)):Q1d Tryz.prog 79 [.pointer (some ⟨qg0,0,none⟩)] [.sli 7 Qs qp1 qc2 l6] [.blk qg0 [.int .u8 a0,.int .u8 a1,.int .i64 a2,.string a3,.int .i64 a4,.int .u8 a5,.slice qp1 l6.length qc2] 65] (fun v Φr Hr=>v=.tuple #[.agg #[.int .u8 o0,.int .i64 o1,.string o2],.int .i64 ((o3:Nat):Int)]∧Φr=[.sli 7 Qs qp1 qc2 l6]∧Hr=[.blk qg0 [.int .u8 a0,.int .u8 a1,.int .i64 a2,.string a3,.int .i64 a4,.int .u8 a5,.slice qp1 l6.length qc2] 65]):=by
 unfold Q7I at hm
 refine QI Tryz.func79 Z Tryz.ntmps79 Z (S:=[_]) Z (fun C=>(Q5 (Q1 (Q13 Z Z Z Zq Z Q1Q Z (fun g1=>(wP Z (Q4 (Q3 (Q2 [1,0] (S':=[_,_]) Z (Q5 (Q1 (wF Z Q92 (QM 1 1 Z Z Z Zq Z Z Z (cs:=V3 ..) Z QB Q1b Z Z ?_)))))))))))))
 obtain ⟨⟨v5_0,v5_1,v5_2,v5_3⟩,hc5,hm⟩:=Q7 hm
 try dsimp only at hm
 refine wC [] [0,1] Z fn_80 Z (QaR N a1 a2 a3 _ _ _ _ hc5) (asK [] Z) Z (H':=[_,_]) Z ?_
 rintro _ _ _ ⟨rfl,rfl,rfl⟩
 refine wP Z (wP Z (wS 0 0 Z QB (all':=V3 ..) Z (H':=[_,_]) Z (wP Z (Q4 (Q3 (Q2 [2,1] (S':=[_,_]) Z (Qk ?_)))))))
 have hE:=(Zi hm).symm
 obtain ⟨hE0,hF1⟩:=Prod.mk.inj hE
 obtain ⟨hE1,hF2⟩:=Prod.mk.inj hF1
 obtain ⟨hE2,hE3⟩:=Prod.mk.inj hF2
 clear hE hF1 hF2
 replace hE0:=hE0.symm
 subst hE0
 replace hE1:=hE1.symm
 subst hE1
 replace hE2:=hE2.symm
 subst hE2
 replace hE3:=hE3.symm
 subst hE3
 refine QH (Hr:=[_]) [1] Tryz.results79 (Q1e 0 Z Z QB Q1b Z Z) (Qb Z) ⟨Z,Z,Z⟩ (asK [0] Z) Z Z (.inl Z)
theorem w_expr_Eval_2_s (N:Nat)(a8:Nat)(a0:Int)(a1:Int)(a2:Int)(a3:ByteArray)(a4:Int)(a5:Int)(y:OA)(z:Nat)(l6:List Qe)(a9:Nat)(a6:OA)(a7:Nat)(l7:List V)(o0:Int)(o1:Int)(o2:ByteArray)(o3:Nat)(hm:Q5k N a0 a1 a2 a3 a4 a5 l6 l7=some (o0,o1,o2,o3)):Q1d Tryz.prog 81 [.pointer (some ⟨a8,0,none⟩),.pointer (some ⟨a9,0,none⟩)] [.sli 7 Qs y z l6,.sli 3 R_V a6 a7 l7] [.blk a8 [.int .u8 a0,.int .u8 a1,.int .i64 a2,.string a3,.int .i64 a4,.int .u8 a5,.slice y l6.length z] 65,.blk a9 [.slice a6 l7.length a7] 43] (fun v Φr Hr=>v=.tuple #[.agg #[.int .u8 o0,.int .i64 o1,.string o2],.int .i64 ((o3:Nat):Int)]∧Φr=[.sli 7 Qs y z l6,.sli 3 R_V a6 a7 l7]∧Hr=[.blk a8 [.int .u8 a0,.int .u8 a1,.int .i64 a2,.string a3,.int .i64 a4,.int .u8 a5,.slice y l6.length z] 65,.blk a9 [.slice a6 l7.length a7] 43]):=by
 unfold Q5k at hm
 refine QI Tryz.func81 Z Tryz.ntmps81 Z (S:=[_,_]) Z (fun C=>(Q5 (Q1 (Q13 Z Z Z Zq Z Q1Q Z (fun g2=>(wP Z (Q4 (Q3 (Q2 [2,0,1] (S':=V3 ..) Z (Q5 (Q5 ?_)))))))))))
 obtain ⟨aG,hm,hLj_1⟩:=Q7 hm
 refine QF (σ:=Bool) (fun h=>aG=h) (fun h=>[(2,.pointer (some ⟨g2,0,none⟩)),(0,.pointer (some ⟨a8,0,none⟩)),(1,.pointer (some ⟨a9,0,none⟩)),(13,.bool h)]) (fun h=>[.sli 7 Qs y z l6,.sli 3 R_V a6 a7 l7]) (fun h=>[.blk g2 [.int .u8 0,.int .i64 0,.string ((⟨#[]⟩ : ByteArray))] 57,.blk a8 [.int .u8 a0,.int .u8 a1,.int .i64 a2,.string a3,.int .i64 a4,.int .u8 a5,.slice y l6.length z] 65,.blk a9 [.slice a6 l7.length a7] 43]) ?_ ?_
 refine Q1 (wF Z Q5t (wD 1 4 Z QZ Q15 Z (wP Z (wP Z ?_))))
 refine Qr (d:=7) (S':=V6 ..) Z Z (fun aD=>?_) (fun aD=>?_)
 replace hm:=Qw hm aD
 refine wO Z (wO Z (wO Z (wO Z (wO Z (wP Z (Q4 ?_))))))
 have hE:=(Zi hm).symm
 refine Qd true hE [2,0,1,13] Z (asK [0,1] Z) Z
 replace hm:=Qv hm aD
 refine wF Z Q5t (wD 1 4 Z QZ Q15 Z (wD 2 0 Z Q5i Q5f Z (wN Z Q29 (wP Z (wP Z (Q4 ?_))))))
 have hE:=(Zi hm).symm
 refine Qd (decide (a4 ≥ ((l7.length:Nat):Int))) hE [2,0,1,13] Z (asK [0,1] Z) Z
 rintro h hE
 try dsimp only
 have hm:=hLj_1
 try rw [hE] at hm
 refine Qm Z (fun aA=>?_) (fun aA=>?_)
 replace hm:=Qw hm aA
 refine Q2 [2] (S':=[_]) Z (Q5 (Q1 (Q1F Z Z Z Zq Z Q1Q Q69 Z (out:=V3 ..) Z (wS 0 0 Z QB (all':=V3 ..) Z (H':=V3 ..) Z (wP Z (Q4 (Q3 (Q2 [3,2] (S':=[_,_]) Z (Qk (Q8 ?_))))))))))
 have hE:=(Zi hm).symm
 obtain ⟨hE0,hF1⟩:=Prod.mk.inj hE
 obtain ⟨hE1,hF2⟩:=Prod.mk.inj hF1
 obtain ⟨hE2,hE3⟩:=Prod.mk.inj hF2
 clear hE hF1 hF2
 replace hE0:=hE0.symm
 subst hE0
 replace hE1:=hE1.symm
 subst hE1
 replace hE2:=hE2.symm
 subst hE2
 replace hE3:=hE3.symm
 subst hE3
 refine QH (Hr:=[_,_]) [1,2] Tryz.results81 (Q1e 0 Z Z QB Q1b Z Z) (Qb Z) ⟨Z,Z,Z⟩ (asK [0,1] Z) Z Z (.inl Z)
 replace hm:=Qv hm aA
 refine Q2 [2,0,1] (S':=V3 ..) Z (Qt (Q3 (Q5 (Q1 (wD 2 0 Z Q5i Q5f Z (wF Z Q5t (wD 1 4 Z QZ Q15 Z ?_)))))))
 obtain ⟨aH,hm⟩:=Qz hm
 obtain ⟨aE,aI,hm⟩:=Q7 hm
 refine QT 1 a4.toNat Z Z Z Zq Z Z Z Z (Q1I aH) aI Q29 QB (fun b1 b2 b0 aQ=>(Q1h Q2l 1 Z (fun b3 aJ _=>?_)))
 subst aJ
 refine Q1g 0 0 Z Z Z Zq Z Z Z (cs:=V3 ..) Z QB Q1b Z Z ?_
 obtain ⟨⟨aR,aS,aT,aU⟩,aK,hm⟩:=Q7 hm
 try dsimp only at hm
 refine wC [] [0,1,2] Z fn_80 Z (QaR N aE.k aE.n aE.s _ _ _ _ aK) (asK [] Z) Z (H':=V3 ..) Z ?_
 rintro _ _ _ ⟨rfl,rfl,rfl⟩
 refine wP Z (wP Z (wS 0 0 Z QB (all':=V3 ..) Z (H':=V3 ..) Z (wP Z (Q4 (Q3 (Q2 [3,2] (S':=[_,_]) Z (Qk ?_)))))))
 have hE:=(Zi hm).symm
 obtain ⟨hE0,hF1⟩:=Prod.mk.inj hE
 obtain ⟨hE1,hF2⟩:=Prod.mk.inj hF1
 obtain ⟨hE2,hE3⟩:=Prod.mk.inj hF2
 clear hE hF1 hF2
 replace hE0:=hE0.symm
 subst hE0
 replace hE1:=hE1.symm
 subst hE1
 replace hE2:=hE2.symm
 subst hE2
 replace hE3:=hE3.symm
 subst hE3
 refine QH (Hr:=[_,_]) [1,2] Tryz.results81 (Q1e 0 Z Z QB Q1b Z Z) (Qb Z) ⟨Z,Z,Z⟩ (asK [2,3] Z) Z Z (.inl Z)
theorem Q7E (N:Nat)(a0:Int)  (hm:Q6f N a0=some ()):Q1d Tryz.prog 119 [.int .i64 a0] [] [] (fun v Φr Hr=>v=.agg #[.int .u8 1,.int .i64 a0,.string ((⟨#[]⟩ : ByteArray))]∧Φr=[]∧Hr=[]):=by
 unfold Q6f at hm
 refine QI Tryz.func119 Z Tryz.ntmps119 Z (S:=[_]) Z (fun C=>(Q5 (Q1 (Q13 Z Z Z Zq Z Q1Q Z (fun g2=>(Q4 (Q3 (Q5 (Q1 (wP Z (Q1F Z Z Z Zq Z Q1Q Q69 Z (out:=V3 ..) Z (wS 0 0 Z QB (all':=V3 ..) Z (H':=[_]) Z (Q4 (Q3 (Q2 [2] (S':=[_]) Z ?_)))))))))))))))
 refine Qk ?_
 have hE:=(Zi hm).symm
 refine Qq (Hr:=[]) [] Tryz.results119 (Q1e 0 Z Z QB Q1b Z Z) ⟨Z,Z,Z⟩ (asK [] Z) Z Z (.inl Z)
theorem Q84 (N:Nat)(a0:Bool)(o0:Int)(hm:Q5o N a0=some o0):Q1d Tryz.prog 117 [.bool a0] [] [] (fun v Φr Hr=>v=.agg #[.int .u8 1,.int .i64 o0,.string ((⟨#[]⟩ : ByteArray))]∧Φr=[]∧Hr=[]):=by
 unfold Q5o at hm
 refine QI Tryz.func117 Z Tryz.ntmps117 Z (S:=[_]) Z (fun C=>(Q5 (Q1 (Q13 Z Z Z Zq Z Q1Q Z (fun g2=>(Q4 (Q3 (Q5 (Q5 (Q1 (wP Z (Q4 (Q3 (Q2 [3,2] (S':=[_,_]) Z ?_))))))))))))))
 refine Qm Z (fun hb3=>?_) (fun hb3=>?_)
 replace hm:=Qw hm hb3
 refine Q2 [2] (S':=[_]) Z (Q5 (Q1 ?_))
 obtain ⟨_,hc4,hm⟩:=Q7 hm
 try dsimp only at hm
 refine wC [] [0] Z fn_119 Z (Q7E N 1 hc4) (asK [] Z) Z (H':=[_]) Z ?_
 rintro _ _ _ ⟨rfl,rfl,rfl⟩
 refine wS 0 0 Z QB (all':=V3 ..) Z (H':=[_]) Z (Q4 (Q3 (Q2 [2] (S':=[_]) Z (Qk (Q8 ?_)))))
 have hE:=(Zi hm).symm
 replace hE:=hE.symm
 subst hE
 refine Qq (Hr:=[]) [] Tryz.results117 (Q1e 0 Z Z QB Q1b Z Z) ⟨Z,Z,Z⟩ (asK [] Z) Z Z (.inl Z)
 replace hm:=Qv hm hb3
 refine Q2 [2] (S':=[_]) Z (Qt (Q3 (Q5 (Q1 ?_))))
 obtain ⟨_,hc5,hm⟩:=Q7 hm
 try dsimp only at hm
 refine wC [] [0] Z fn_119 Z (Q7E N 0 hc5) (asK [] Z) Z (H':=[_]) Z ?_
 rintro _ _ _ ⟨rfl,rfl,rfl⟩
 refine wS 0 0 Z QB (all':=V3 ..) Z (H':=[_]) Z (Q4 (Q3 (Q2 [2] (S':=[_]) Z (Qk ?_))))
 have hE:=(Zi hm).symm
 replace hE:=hE.symm
 subst hE
 refine Qq (Hr:=[]) [] Tryz.results117 (Q1e 0 Z Z QB Q1b Z Z) ⟨Z,Z,Z⟩ (asK [] Z) Z Z (.inl Z)
end Go.Proofs.YtbgodclhmgmcgaaGreatDoor
