import Derived.Test.YtbgodclhmgmcgaaGreatDoorXW4
namespace Go.Proofs.YtbgodclhmgmcgaaGreatDoor
open Go.RowKit
set_option maxRecDepth 100000
set_option maxHeartbeats 4000000
theorem Qcq (N:Nat) (aF:Nat) (aA:OA) (aB:Nat) (l0:List Ql) (aC:OA) (aD:Nat) (l1:List Qi) (a2:Int) (a3:Int) (a4:Int) (a5:Int) (aK:OA) (aL:Nat) (l6:List Q4O) (a7:Int) (a8:Int) (a9:Int) (aP:ByteArray) (aQ:Int) (aR:Int) (aI:OA) (aJ:Nat) (aG:List Qm) (o0:Bool) (o1:Int) (o2:Int) (hm:Q5J N l0 l1 a2 a3 a4 a5 l6 a7 a8 a9 aP aQ aR aG = some (o0,o1,o2)):Q17 Tryz.prog 102 [.pointer (some ⟨aF,0,none⟩),.agg #[.int .u8 a4,.int .i64 a5,.slice aK l6.length aL,.int .u8 a7,.int .u8 a8,.int .i64 a9,.string aP,.int .i64 aQ,.int .u8 aR,.slice aI aG.length aJ]] [.sli 2 Qb aA aB l0,.sli 5 Qa aC aD l1,.sli 5 Q2O aK aL l6,.sli 7 QA aI aJ aG] [.blk aF [.slice aA l0.length aB,.slice aC l1.length aD,.int .i64 a2,.int .i64 a3] 124] (fun v Φr Hr=>v = .bool o0 ∧ Φr = [.sli 2 Qb aA aB l0,.sli 5 Qa aC aD l1] ∧ Hr = [.blk aF [.slice aA l0.length aB,.slice aC l1.length aD,.int .i64 o1,.int .i64 o2] 124]):=by
 unfold Q5J at hm
 refine QC Tryz.func102 Z Tryz.ntmps102 Z (S:=[_,_]) Z (fun C=>(Q5 (Q1 (wB Z (fun g3=>(wP Z (Q4 (Q3 (Q2 [3,0] (S':=[_,_]) Z (Q5 (Q5 (Q1 (wF Z Q9T (wD 0 0 Z tS_53 tA_53 Z (Q4 ?_)))))))))))))))
 refine Q3 (Q2 [8,3,0] (S':=V3 ..) Z (Qw (Q5 ?_)))
 obtain ⟨bB,hm,hLj_1⟩:=Q6 hm
 refine QM (σ:=Bool) (fun aH=>bB = aH) (fun aH=>[(8,.int .u8 a4),(3,.pointer (some ⟨g3,0,none⟩)),(0,.pointer (some ⟨aF,0,none⟩)),(9,.bool aH)]) (fun aH=>[.sli 5 Q2O aK aL l6,.sli 7 QA aI aJ aG,.sli 2 Qb aA aB l0,.sli 5 Qa aC aD l1]) (fun aH=>[.blk g3 [.int .u8 a4,.int .i64 a5,.slice aK l6.length aL,.int .u8 a7,.int .u8 a8,.int .i64 a9,.string aP,.int .i64 aQ,.int .u8 aR,.slice aI aG.length aJ] 67,.blk aF [.slice aA l0.length aB,.slice aC l1.length aD,.int .i64 a2,.int .i64 a3] 124]) ?_ ?_
 refine Q5 (Q1 (wP Z (wP Z (Q4 (Q3 (Q2 [9,8,3,0] (S':=V4 ..) Z ?_))))))
 refine Qt Z (fun aS=>?_) (fun aS=>?_)
 replace hm:=QI hm aS
 refine Qr ?_
 have hE:=(Zi hm).symm
 refine Qh (a4 == 1) hE [8,3,0,9] Z (asK [2,3,0,1] Z) Z
 replace hm:=QH hm aS
 refine Q2 [8,3,0] (S':=V3 ..) Z (Q1 (wP Z (wP Z (Q4 ?_))))
 have hE:=(Zi hm).symm
 refine Qh (a4 == 2) hE [8,3,0,9] Z (asK [2,3,0,1] Z) Z
 rintro aH hE
 try dsimp only
 have hm:=hLj_1
 try rw [hE] at hm
 refine Qt Z (fun aS=>?_) (fun aS=>?_)
 replace hm:=QI hm aS
 refine Q2 [3,0] (S':=[_,_]) Z (Q5 (Q5 ?_))
 obtain ⟨bC,hm,hLj_2⟩:=Q6 hm
 unfold Q5K at hm
 refine QM (σ:=Bool) (fun aE=>bC = aE) (fun aE=>[(3,.pointer (some ⟨g3,0,none⟩)),(0,.pointer (some ⟨aF,0,none⟩)),(31,.bool aE)]) (fun aE=>[.sli 5 Q2O aK aL l6,.sli 7 QA aI aJ aG,.sli 2 Qb aA aB l0,.sli 5 Qa aC aD l1]) (fun aE=>[.blk g3 [.int .u8 a4,.int .i64 a5,.slice aK l6.length aL,.int .u8 a7,.int .u8 a8,.int .i64 a9,.string aP,.int .i64 aQ,.int .u8 aR,.slice aI aG.length aJ] 67,.blk aF [.slice aA l0.length aB,.slice aC l1.length aD,.int .i64 a2,.int .i64 a3] 124]) ?_ ?_
 refine Q1 (wP Z (wF Z tF_67_1 (wD 0 1 Z Q1m Q1H Z (wF Z QbF (wD 0 2 Z tS_60 tA_60 Z (wN Z tE_60 ?_))))))
 obtain ⟨bU,bD,hm⟩:=Q6 hm
 refine wC [1] [0] Z fn_135 Z (Q9q N aF aA aB l0 aC aD l1 a2 a3 a5 ((l6.length:Nat):Int) _ bD) (asK [2,3] Z) Z (H':=[_]) Z ?_
 rintro _ _ _ ⟨rfl,rfl,rfl⟩
 refine wP Z (wP Z ?_)
 refine QG (d:=20) (S':=V10 ..) Z Z (fun aU=>?_) (fun aU=>?_)
 replace hm:=QI hm aU
 refine wO Z (wO Z (wO Z (wO Z (wP Z (wP Z (wO Z (wO Z (wO Z (wO Z (wP Z (Q4 ?_)))))))))))
 have hE:=(Zi hm).symm
 refine QE [1,0] Z (H':=[_,_]) Z ?_
 refine Qh true hE [3,0,31] Z (asK [2,3,0,1] Z) Z
 replace hm:=QH hm aU
 refine wF Z QbG (wF Z tF_65_0 (wD 1 3 Z tS_61 tA_61 Z (wP Z (wP Z (wP Z ?_)))))
 refine QG (d:=26) (S':=V16 ..) Z Z (fun aV=>?_) (fun aV=>?_)
 replace hm:=QI hm aV
 refine wO Z (wO Z (wO Z (wO Z (wP Z (Q4 ?_)))))
 have hE:=(Zi hm).symm
 refine QE [1,0] Z (H':=[_,_]) Z ?_
 refine Qh true hE [3,0,31] Z (asK [2,3,0,1] Z) Z
 replace hm:=QH hm aV
 refine wF Z QbG (QO 1 3 Z Z Z Zq Z Z Z (cs:=V7 ..) Z Q57 Q7Z Z Z ?_)
 obtain ⟨bN,bE,hm⟩:=Q6 hm
 refine wC [] [0,1] Z fn_136 Z (Q5D N a7 a8 a9 aP aQ aR aI aJ aG false false false _ bE) (asK [3] Z) Z (H':=[_,_]) Z ?_
 rintro _ _ _ ⟨rfl,rfl,rfl⟩
 refine wP Z (wP Z (Q4 ?_))
 have hE:=(Zi hm).symm
 refine QE [1,0] Z (H':=[_,_]) Z ?_
 refine Qh (!bN) hE [3,0,31] Z (asK [2,3,0,1] Z) Z
 rintro aE hE
 try dsimp only
 have hm:=hLj_2
 try rw [hE] at hm
 refine Qt Z (fun aW=>?_) (fun aW=>?_)
 replace hm:=QI hm aW
 refine Q2 [] (S':=[]) Z (Q5 (Q1 (wP Z (Q4 (Q3 (Qo (Q9 (Qk (Q9 ?_)))))))))
 have hE:=(Zi hm).symm
 obtain ⟨hE0,hF1⟩:=Prod.mk.inj hE
 obtain ⟨hE1,hE2⟩:=Prod.mk.inj hF1
 clear hE hF1
 replace hE0:=hE0.symm
 subst hE0
 replace hE1:=hE1.symm
 subst hE1
 replace hE2:=hE2.symm
 subst hE2
 refine Qp (Hr:=[_]) [1] Tryz.results102 (Qg Z) ⟨Z,Z,Z⟩ (asK [2,3] Z) Z Z (.inl Z)
 replace hm:=QH hm aW
 refine Q2 [3,0] (S':=[_,_]) Z (Qr (Q3 (Q5 ?_)))
 obtain ⟨b8,hm,hLj_3⟩:=Q1o hm
 refine QM (σ:=Int) (fun a0=>b8 = .inl a0) (fun a0=>[(3,.pointer (some ⟨g3,0,none⟩)),(0,.pointer (some ⟨aF,0,none⟩))]) (fun a0=>[.sli 5 Q2O aK aL l6,.sli 7 QA aI aJ aG,.sli 2 Qb aA aB l0,.sli 5 Qa aC aD l1]) (fun a0=>[.blk g3 [.int .u8 a4,.int .i64 a5,.slice aK l6.length aL,.int .u8 a7,.int .u8 a8,.int .i64 a9,.string aP,.int .i64 aQ,.int .u8 aR,.slice aI aG.length aJ] 67,.blk aF [.slice aA l0.length aB,.slice aC l1.length aD,.int .i64 a0,.int .i64 a3] 124]) ?_ ?_
 refine Q5 (Q1 (wF Z QbF (wD 0 2 Z tS_60 tA_60 Z (wN Z tE_60 (wP Z (Q4 (Q3 (Q2 [35,34,33,3,0] (S':=V5 ..) Z (Qw (Q1j (σ:=Nat × Nat × Int) (fun (aT,a1,z)=>Q1h (Q2Q N l6 l0 l1 a3 a4) aT (a1,z) = some b8) (fun (aT,a1,z)=>aT) (fun (aT,a1,z)=>[(35,.int .i64 ((a1:Nat):Int)),(34,.int .i64 ((l6.length:Nat):Int)),(33,.slice aK l6.length aL),(3,.pointer (some ⟨g3,0,none⟩)),(0,.pointer (some ⟨aF,0,none⟩))]) (fun (aT,a1,z)=>[.sli 5 Q2O aK aL l6,.sli 7 QA aI aJ aG,.sli 2 Qb aA aB l0,.sli 5 Qa aC aD l1]) (fun (aT,a1,z)=>[.blk g3 [.int .u8 a4,.int .i64 a5,.slice aK l6.length aL,.int .u8 a7,.int .u8 a8,.int .i64 a9,.string aP,.int .i64 aQ,.int .u8 aR,.slice aI aG.length aJ] 67,.blk aF [.slice aA l0.length aB,.slice aC l1.length aD,.int .i64 z,.int .i64 a3] 124]) (N,0,a2) hm [35,34,33,3,0] Z (asK [0,1,2,3] Z) Z (fun s_ hm=>?_)))))))))))
 obtain ⟨aT,a1,z⟩:=s_
 try dsimp only at hm ⊢
 obtain ⟨bV,bW,bF,hq,hLu1⟩:=QV hm
 clear hm
 subst bF
 replace hm:=hq
 clear hq
 unfold Q2Q at hm
 try dsimp only at hm
 refine Q5 (Q1 (wP Z (Qs (d:=36) (v':=.bool (decide (a1 < l6.length))) (S':=V5 ..) Z Z (Q2l (a:=a1) (b:=l6.length)) (Q4 (Q3 (Q5 ?_))))))
 refine Qt Z (fun aX=>?_) (fun aX=>?_)
 replace hm:=QI hm aX
 refine Q2 [35,34,33,3,0] (S':=V5 ..) Z (Qr (Q3 (Q5 (Qw (Q5 (Q1 ?_))))))
 obtain ⟨aY,bG,hm⟩:=Q6 hm
 refine Q1a 0 a1 Z Z Z Zq Z Z Z Z Z bG tE_60 QaJ (fun bX bY bT bO=>(Q1G R_ArgD_opens 1 Z (fun bZ bH _=>?_)))
 subst bH
 refine Q1F 0 0 Z Z Z Zq Z Z Z (cs:=V5 ..) Z QaJ tA_59 Z Z (QK Z Z Z Zq Z tZ_59 Z (fun g6=>(wS 0 0 Z QaJ (all':=V5 ..) Z (H':=V3 ..) Z (Q4 (Q3 (Q2 [6,35,34,33,3,0] (S':=V6 ..) Z (Q5 (Q1 (wP Z (QO 0 0 Z Z Z Zq Z Z Z (cs:=V5 ..) Z QaJ tA_59 Z Z (wF Z Q9T (wD 1 0 Z tS_53 tA_53 Z (wP Z ?_)))))))))))))
 obtain ⟨⟨bP,bA⟩,bI,hm⟩:=Q6 hm
 try dsimp only at hm
 refine wC [2] [0,1] Z fn_137 Z (Qcw N aF aA aB l0 aC aD l1 z a3 aY.k aY.var aY.v.k aY.v.n aY.v.s (a4 == 1) _ _ bI) (asK [4,5] Z) Z (H':=[_,_]) Z ?_
 rintro _ _ _ ⟨rfl,rfl,rfl⟩
 refine wP Z (Q4 (Q3 (Q2 [45,35,34,33,3,0] (S':=V6 ..) Z ?_)))
 refine Qt Z (fun aZ=>?_) (fun aZ=>?_)
 replace hm:=QI hm aZ
 refine Q2 [] (S':=[]) Z (Q5 (Q1 (wP Z (Q4 (Q3 (Qo (Qk (Q9 (Q9 (Qk (Q9 (Qk (Q9 ?_)))))))))))))
 have hE:=(Zi hm).symm
 replace hE:=Qx hLu1 hE
 replace hE:=Qx hLj_3 hE
 obtain ⟨hE0,hF1⟩:=Prod.mk.inj hE
 obtain ⟨hE1,hE2⟩:=Prod.mk.inj hF1
 clear hE hF1
 replace hE0:=hE0.symm
 subst hE0
 replace hE1:=hE1.symm
 subst hE1
 replace hE2:=hE2.symm
 subst hE2
 refine Qp (Hr:=[_]) [0] Tryz.results102 (Qg Z) ⟨Z,Z,Z⟩ (asK [0,1] Z) Z Z (.inl Z)
 replace hm:=QH hm aZ
 refine Q2 [35,34,33,3,0] (S':=V5 ..) Z (Qr (Qf (Q3 (Q1 (wP Z ?_)))))
 obtain ⟨bJ,hm⟩:=Qd hm
 refine Qs (d:=46) (v':=.int .i64 ((a1 + 1:Nat):Int)) (S':=V5 ..) Z Z (Q1r (a:=a1) (b:=1) bJ) (QT (S':=V5 ..) Z Z Z Z Z (Q4 ?_))
 have hE:=(Zi hm).symm
 replace hE:=QF hLu1 hE
 refine QE [2,0] Z (H':=[_,_]) Z ?_
 refine QU (_,a1 + 1,bA) (Nat.lt_succ_self _) hE [35,34,33,3,0] Z (asK [4,5,0,1] Z) Z
 replace hm:=QH hm aX
 refine Q2 [3,0] (S':=[_,_]) Z (Q1g (Qj (Qj (QD ?_))))
 have hE:=(Zi hm).symm
 replace hE:=Qx hLu1 hE
 refine Qh z hE [3,0] Z (asK [0,1,2,3] Z) Z
 rintro a0 hE
 try dsimp only
 have hm:=QF hLj_3 hE
 refine Q5 ?_
 obtain ⟨bK,hm,hLj_4⟩:=Q6 hm
 refine QM (σ:=Int) (fun a6=>bK = a6) (fun a6=>[]) (fun a6=>[.sli 2 Qb aA aB l0,.sli 5 Qa aC aD l1]) (fun a6=>[.blk aF [.slice aA l0.length aB,.slice aC l1.length aD,.int .i64 a0,.int .i64 a6] 124]) ?_ ?_
 refine Q5 (Q1 (wF Z Q9T (wD 0 0 Z tS_53 tA_53 Z (wP Z (Q4 (Q3 (Q2 [49,0] (S':=[_,_]) Z ?_)))))))
 refine Qt Z (fun b0=>?_) (fun b0=>?_)
 replace hm:=QI hm b0
 refine Q2 [0] (S':=[_]) Z (Q1 (wP Z (wP Z (wF Z tF_124_2 (wD 1 3 Z Q1m Q1H Z (wP Z ?_))))))
 obtain ⟨bL,hm⟩:=Qd hm
 refine Qs (d:=54) (v':=.int .i64 (a3 + 1)) (S':=V5 ..) Z Z (i64_in bL) (wP Z (wF Z tF_124_2 (wS 1 3 Z Q1m (all':=V4 ..) Z (H':=[_,_]) Z (Q4 ?_))))
 have hE:=(Zi hm).symm
 refine QE [1] Z (H':=[_]) Z ?_
 refine Qh (a3 + 1) hE [] Z (asK [2,3] Z) Z
 replace hm:=QH hm b0
 refine Q2 [] (S':=[]) Z (Qr ?_)
 have hE:=(Zi hm).symm
 refine QE [1] Z (H':=[_]) Z ?_
 refine Qh a3 hE [] Z (asK [2,3] Z) Z
 rintro a6 hE
 try dsimp only
 have hm:=hLj_4
 try rw [hE] at hm
 refine Q5 (Q1 (wP Z (Q4 (Q3 (Qo (Qk (Q9 ?_)))))))
 have hE:=(Zi hm).symm
 obtain ⟨hE0,hF1⟩:=Prod.mk.inj hE
 obtain ⟨hE1,hE2⟩:=Prod.mk.inj hF1
 clear hE hF1
 replace hE0:=hE0.symm
 subst hE0
 replace hE1:=hE1.symm
 subst hE1
 replace hE2:=hE2.symm
 subst hE2
 refine Qp (Hr:=[_]) [0] Tryz.results102 (Qg Z) ⟨Z,Z,Z⟩ (asK [0,1] Z) Z Z (.inl Z)
 replace hm:=QH hm aS
 refine Q2 [8,3,0] (S':=V3 ..) Z (Q5 (Q1 (wP Z (wP Z (Q4 (Q3 (Q2 [57,3,0] (S':=V3 ..) Z ?_)))))))
 refine Qt Z (fun b1=>?_) (fun b1=>?_)
 replace hm:=QI hm b1
 refine Q2 [3,0] (S':=[_,_]) Z (Q5 (Q1 (wF Z tF_67_1 (wD 0 1 Z Q1m Q1H Z (wP Z (wP Z ?_))))))
 refine QG (d:=62) (S':=V5 ..) Z Z (fun b2=>?_) (fun b2=>?_)
 replace hm:=QI hm b2
 refine wF Z QbF (wD 0 2 Z tS_60 tA_60 Z (wN Z tE_60 (wP Z (Qs (d:=66) (v':=.bool (l6.length == 0)) (S':=V9 ..) Z Z (Q4J (a:=l6.length) (b:=0)) (wP Z (wP Z ?_))))))
 refine QG (d:=68) (S':=V11 ..) Z Z (fun b3=>?_) (fun b3=>?_)
 replace hm:=QI hm b3
 refine wP Z (wF Z QbG (QO 0 3 Z Z Z Zq Z Z Z (cs:=V7 ..) Z Q57 Q7Z Z Z ?_))
 obtain ⟨c0,bM,hm⟩:=Q6 hm
 refine wC [1] [0] Z fn_138 Z (Q9O N aF aA aB l0 aC aD l1 a2 a3 a7 a8 a9 aP aQ aR aI aJ aG _ bM) (asK [2,3,1] Z) Z (H':=[_]) Z ?_
 rintro _ _ _ ⟨rfl,rfl,rfl⟩
 refine wP Z (wP Z (Q4 (Q3 (Q2 [4] (S':=[_]) Z (Qo (Qk (Q9 ?_)))))))
 have hE:=(Zi hm).symm
 obtain ⟨hE0,hF1⟩:=Prod.mk.inj hE
 obtain ⟨hE1,hE2⟩:=Prod.mk.inj hF1
 clear hE hF1
 replace hE0:=hE0.symm
 subst hE0
 replace hE1:=hE1.symm
 subst hE1
 replace hE2:=hE2.symm
 subst hE2
 refine Qp (Hr:=[_]) [0] Tryz.results102 (Qg Z) ⟨Z,Z,Z⟩ (asK [0,1] Z) Z Z (.inl Z)
 replace hm:=QH hm b3
 refine wO Z (wO Z (wO Z (wO Z (wP Z (wP Z (Q4 (Q3 (Q2 [4] (S':=[_]) Z (Qo (Qk (Q9 ?_)))))))))))
 have hE:=(Zi hm).symm
 obtain ⟨hE0,hF1⟩:=Prod.mk.inj hE
 obtain ⟨hE1,hE2⟩:=Prod.mk.inj hF1
 clear hE hF1
 replace hE0:=hE0.symm
 subst hE0
 replace hE1:=hE1.symm
 subst hE1
 replace hE2:=hE2.symm
 subst hE2
 refine Qp (Hr:=[_]) [1] Tryz.results102 (Qg Z) ⟨Z,Z,Z⟩ (asK [2,3] Z) Z Z (.inl Z)
 replace hm:=QH hm b2
 refine wO Z (wO Z (wO Z (wO Z (wP Z (wP Z (wO Z (wO Z (wO Z (wO Z (wP Z (wP Z (Q4 (Q3 ?_)))))))))))))
 refine Q2 [4] (S':=[_]) Z (Qo (Qk (Q9 ?_)))
 have hE:=(Zi hm).symm
 obtain ⟨hE0,hF1⟩:=Prod.mk.inj hE
 obtain ⟨hE1,hE2⟩:=Prod.mk.inj hF1
 clear hE hF1
 replace hE0:=hE0.symm
 subst hE0
 replace hE1:=hE1.symm
 subst hE1
 replace hE2:=hE2.symm
 subst hE2
 refine Qp (Hr:=[_]) [1] Tryz.results102 (Qg Z) ⟨Z,Z,Z⟩ (asK [2,3] Z) Z Z (.inl Z)
 replace hm:=QH hm b1
 refine Q2 [] (S':=[]) Z (Qr (Qf (Q3 (Q5 (Q1 (wP Z (Q4 (Q3 (Qo ?_)))))))))
 have hE:=(Zi hm).symm
 obtain ⟨hE0,hF1⟩:=Prod.mk.inj hE
 obtain ⟨hE1,hE2⟩:=Prod.mk.inj hF1
 clear hE hF1
 replace hE0:=hE0.symm
 subst hE0
 replace hE1:=hE1.symm
 subst hE1
 replace hE2:=hE2.symm
 subst hE2
 refine Qp (Hr:=[_]) [1] Tryz.results102 (Qg Z) ⟨Z,Z,Z⟩ (asK [2,3] Z) Z Z (.inl Z)
theorem QbL (N:Nat) (a0:Int) (a1:Int) (a2:Int) (a3:ByteArray) (a4:Int) (a5:Int) (qp0:OA) (qc1:Nat) (l6:List Qm) (qg2:Nat) (qg3:Nat) (qp4:OA) (qc5:Nat) (l7:List Ql) (qp6:OA) (qc7:Nat) (l8:List Qi) (a9:Int) (a10:Int) (o0:Bool) (hm:Q5M N a0 a1 a2 a3 a4 a5 l6 l7 l8 a9 a10 = some o0):Q17 Tryz.prog 180 [.agg #[.int .u8 a0,.int .u8 a1,.int .i64 a2,.string a3,.int .i64 a4,.int .u8 a5,.slice qp0 l6.length qc1],.pointer (some ⟨qg2,0,none⟩)] [.sli 7 QA qp0 qc1 l6,.sli 2 Qb qp4 qc5 l7,.sli 5 Qa qp6 qc7 l8] [.blk qg2 [.pointer (some ⟨qg3,0,none⟩)] 120,.blk qg3 [.slice qp4 l7.length qc5,.slice qp6 l8.length qc7,.int .i64 a9,.int .i64 a10] 124] (fun v Φr Hr=>v = .bool o0 ∧ Φr = [.sli 2 Qb qp4 qc5 l7,.sli 5 Qa qp6 qc7 l8] ∧ Hr = [.blk qg2 [.pointer (some ⟨qg3,0,none⟩)] 120,.blk qg3 [.slice qp4 l7.length qc5,.slice qp6 l8.length qc7,.int .i64 a9,.int .i64 a10] 124]):=by
 unfold Q5M at hm
 refine QC Tryz.func180 Z Tryz.ntmps180 Z (S:=[_,_]) Z (fun C=>(Q5 (Q1 (wB Z (fun g2=>(wP Z (Q4 (Q3 (Q2 [2,1] (S':=[_,_]) Z (Q5 (Q1 (wD 1 0 Z Qah Qab Z (QO 0 0 Z Z Z Zq Z Z Z (cs:=V7 ..) Z Q57 Q7Z Z Z ?_)))))))))))))
 obtain ⟨v6,hc6,hm⟩:=Q6 hm
 refine wC [2] [0,1] Z fn_138 Z (Q9O N qg3 qp4 qc5 l7 qp6 qc7 l8 a9 a10 a0 a1 a2 a3 a4 a5 qp0 qc1 l6 _ hc6) (asK [1,2,0] Z) Z (H':=[_,_]) Z ?_
 rintro _ _ _ ⟨rfl,rfl,rfl⟩
 refine wP Z (wP Z (Q4 (Q3 (Q2 [3] (S':=[_]) Z (Qo ?_)))))
 have hE:=(Zi hm).symm
 replace hE:=hE.symm
 subst hE
 refine Qp (Hr:=[_,_]) [2,0] Tryz.results180 (Qg Z) ⟨Z,Z,Z⟩ (asK [0,1] Z) Z Z (.inl Z)
theorem Qau (N:Nat) (aE:OA) (aF:Nat) (l0:List Qm) (a8:Nat) (a0:Nat) (a1:OA) (a5:Nat) (l1:List Ql) (a6:OA) (a7:Nat) (l2:List Qi) (a3:Int) (a4:Int) (o0:Int) (hm:Q4F N l0 l1 l2 a3 a4 = some o0):Q17 Tryz.prog 214 [.slice aE l0.length aF,.func (.func 180) #[] #[.pointer (some ⟨a8,0,none⟩)]] [.sli 7 QA aE aF l0,.sli 2 Qb a1 a5 l1,.sli 5 Qa a6 a7 l2] [.blk a8 [.pointer (some ⟨a0,0,none⟩)] 120,.blk a0 [.slice a1 l1.length a5,.slice a6 l2.length a7,.int .i64 a3,.int .i64 a4] 124] (fun v Φr Hr=>v = .int .i64 o0 ∧ Φr = [.sli 2 Qb a1 a5 l1,.sli 5 Qa a6 a7 l2] ∧ Hr = [.blk a8 [.pointer (some ⟨a0,0,none⟩)] 120,.blk a0 [.slice a1 l1.length a5,.slice a6 l2.length a7,.int .i64 a3,.int .i64 a4] 124]):=by
 unfold Q4F at hm
 refine QC Tryz.func214 Z Tryz.ntmps214 Z (S:=[_,_]) Z (fun C=>(Q5 (Q1 (wP Z (Q4 (Q3 (Q2 [0,1] (S':=[_,_]) Z (Q5 ?_))))))))
 obtain ⟨aH,hm,hLj_1⟩:=Q1o hm
 refine QM (σ:=Unit) (fun _=>aH = .inl ()) (fun _=>[]) (fun _=>[.sli 2 Qb a1 a5 l1,.sli 5 Qa a6 a7 l2]) (fun _=>[.blk a8 [.pointer (some ⟨a0,0,none⟩)] 120,.blk a0 [.slice a1 l1.length a5,.slice a6 l2.length a7,.int .i64 a3,.int .i64 a4] 124]) ?_ ?_
 refine Q5 (Q1 (wP Z (wN Z Q7O (wP Z (Q4 (Q3 (Q2 [8,7,0,1] (S':=V4 ..) Z (Qw (Q1j (σ:=Nat × Nat) (fun (a9,z)=>Q1h (Q2T N l0 l1 l2 a3 a4) a9 z = some aH) (fun (a9,z)=>a9) (fun (a9,z)=>[(8,.int .i64 ((z:Nat):Int)),(7,.int .i64 ((l0.length:Nat):Int)),(0,.slice aE l0.length aF),(1,.func (.func 180) #[] #[.pointer (some ⟨a8,0,none⟩)])]) (fun (a9,z)=>[.sli 7 QA aE aF l0,.sli 2 Qb a1 a5 l1,.sli 5 Qa a6 a7 l2]) (fun (a9,z)=>[.blk a8 [.pointer (some ⟨a0,0,none⟩)] 120,.blk a0 [.slice a1 l1.length a5,.slice a6 l2.length a7,.int .i64 a3,.int .i64 a4] 124]) (N,0) hm [8,7,0,1] Z (asK [0,1,2] Z) Z (fun s_ hm=>?_))))))))))
 obtain ⟨a9,z⟩:=s_
 try dsimp only at hm ⊢
 obtain ⟨aS,aT,aJ,hq,hLu1⟩:=QV hm
 clear hm
 subst aJ
 replace hm:=hq
 clear hq
 unfold Q2T at hm
 try dsimp only at hm
 refine Q5 (Q1 (wP Z (Qs (d:=9) (v':=.bool (decide (z < l0.length))) (S':=V4 ..) Z Z (Q2l (a:=z) (b:=l0.length)) (Q4 (Q3 (Q5 ?_))))))
 refine Qt Z (fun aI=>?_) (fun aI=>?_)
 replace hm:=QI hm aI
 refine Q2 [8,7,0,1] (S':=V4 ..) Z (Qr (Q3 (Q5 (Qw (Q5 (Q1 (wP Z (wP Z (Q4 (Q3 (Q2 [5,8,7,0,1] (S':=V5 ..) Z (Q5 (Q1 ?_)))))))))))))
 refine wP Z (wP Z (wP Z ?_))
 obtain ⟨aA,aK,hm⟩:=Q6 hm
 refine Q1a 0 z Z Z Z Zq Z Z Z Z Z aK Q7O Q57 (fun aU aV aR aP=>(Q1G Q5F 1 Z (fun aL aM _=>?_)))
 subst aM
 refine Q1F 1 0 Z Z Z Zq Z Z Z (cs:=V7 ..) Z Q57 Q7Z Z Z ?_
 obtain ⟨aW,aN,hm⟩:=Q6 hm
 refine Q1K [0,1] [] Z Z Z Zq Z Z Z fn_180 Z Z (QbL N aA.kind aA.value.k aA.value.n aA.value.s aA.var aA.op aL.1 aL.2 aA.kids a8 a0 a1 a5 l1 a6 a7 l2 a3 a4 _ aN) (asK [0,4,5] Z) Z (H':=[]) Z ?_
 rintro _ _ _ ⟨rfl,rfl,rfl⟩
 refine Q4 (Q3 (Q2 [16,5,8,7,0,1] (S':=V6 ..) Z ?_))
 refine Qt Z (fun aD=>?_) (fun aD=>?_)
 replace hm:=QI hm aD
 refine Q2 [5] (S':=[_]) Z (Q5 (Q1 (wP Z (wP Z (Q4 (Q3 (Q2 [4] (S':=[_]) Z (Qo (Qk (Q9 (Q9 (Qk (Q9 ?_)))))))))))))
 have hE:=(Zi hm).symm
 replace hE:=Qx hLu1 hE
 replace hE:=Qx hLj_1 hE
 replace hE:=hE.symm
 subst hE
 refine Qp (Hr:=[_,_]) [0,1] Tryz.results214 (Qg Z) ⟨Z,Z,Z⟩ (asK [0,1] Z) Z Z (.inl Z)
 replace hm:=QH hm aD
 refine Q2 [8,7,0,1] (S':=V4 ..) Z (Qr (Qf (Q3 (Q1 (wP Z ?_)))))
 obtain ⟨aO,hm⟩:=Qd hm
 refine Qs (d:=18) (v':=.int .i64 ((z + 1:Nat):Int)) (S':=V4 ..) Z Z (Q1r (a:=z) (b:=1) aO) (QT (S':=V4 ..) Z Z Z Z Z (Q4 ?_))
 have hE:=(Zi hm).symm
 replace hE:=QF hLu1 hE
 refine QU (_,z + 1) (Nat.lt_succ_self _) hE [8,7,0,1] Z (asK [5,0,1] Z) Z
 replace hm:=QH hm aI
 refine Q2 [] (S':=[]) Z (Q1g (Qj (Qj (QD ?_))))
 have hE:=(Zi hm).symm
 replace hE:=Qx hLu1 hE
 refine Qh () hE [] Z (asK [1,2] Z) Z
 rintro _ hE
 try dsimp only
 have hm:=QF hLj_1 hE
 try dsimp only at hm
 refine Q5 (Q1 (wP Z (Q4 (Q3 (Qo ?_)))))
 have hE:=(Zi hm).symm
 replace hE:=hE.symm
 subst hE
 refine Qp (Hr:=[_,_]) [0,1] Tryz.results214 (Qg Z) ⟨Z,Z,Z⟩ (asK [0,1] Z) Z Z (.inl Z)
theorem Q9G (N:Nat) (qp0:OA) (qc1:Nat) (l0:List Qm) (qg2:Nat) (qg3:Nat) (qp4:OA) (qc5:Nat) (l1:List Ql) (qp6:OA) (qc7:Nat) (l2:List Qi) (a3:Int) (a4:Int) (o0:Bool) (hm:Q3L N l0 l1 l2 a3 a4 = some o0):Q17 Tryz.prog 179 [.slice qp0 l0.length qc1,.func (.func 180) #[] #[.pointer (some ⟨qg2,0,none⟩)]] [.sli 7 QA qp0 qc1 l0,.sli 2 Qb qp4 qc5 l1,.sli 5 Qa qp6 qc7 l2] [.blk qg2 [.pointer (some ⟨qg3,0,none⟩)] 120,.blk qg3 [.slice qp4 l1.length qc5,.slice qp6 l2.length qc7,.int .i64 a3,.int .i64 a4] 124] (fun v Φr Hr=>v = .bool o0 ∧ Φr = [.sli 2 Qb qp4 qc5 l1,.sli 5 Qa qp6 qc7 l2] ∧ Hr = [.blk qg2 [.pointer (some ⟨qg3,0,none⟩)] 120,.blk qg3 [.slice qp4 l1.length qc5,.slice qp6 l2.length qc7,.int .i64 a3,.int .i64 a4] 124]):=by
 unfold Q3L at hm
 refine QC Tryz.func179 Z Tryz.ntmps179 Z (S:=[_,_]) Z (fun C=>(Q5 (Q1 (wP Z (Q4 (Q3 (Q2 [0,1] (S':=[_,_]) Z (Q5 (Q1 (wP Z (wP Z ?_)))))))))))
 obtain ⟨v7,hc7,hm⟩:=Q6 hm
 refine wC [0,1] [] Z fn_214 Z (Qau N qp0 qc1 l0 qg2 qg3 qp4 qc5 l1 qp6 qc7 l2 a3 a4 _ hc7) (asK [0,1,2] Z) Z (H':=[]) Z ?_
 rintro _ _ _ ⟨rfl,rfl,rfl⟩
 refine wP Z (wP Z (Q4 (Q3 (Q2 [4] (S':=[_]) Z (Qo ?_)))))
 have hE:=(Zi hm).symm
 replace hE:=hE.symm
 subst hE
 refine Qp (Hr:=[_,_]) [0,1] Tryz.results179 (Qg Z) ⟨Z,Z,Z⟩ (asK [0,1] Z) Z Z (.inl Z)
theorem Q9p (N:Nat) (qg0:Nat) (qp1:OA) (qc2:Nat) (l0:List Ql) (qp3:OA) (qc4:Nat) (l1:List Qi) (a2:Int) (a3:Int) (qp5:OA) (qc6:Nat) (l4:List Qm) (o0:Bool) (hm:Q44 N l0 l1 a2 a3 l4 = some o0):Q17 Tryz.prog 140 [.pointer (some ⟨qg0,0,none⟩),.slice qp5 l4.length qc6] [.sli 2 Qb qp1 qc2 l0,.sli 5 Qa qp3 qc4 l1,.sli 7 QA qp5 qc6 l4] [.blk qg0 [.slice qp1 l0.length qc2,.slice qp3 l1.length qc4,.int .i64 a2,.int .i64 a3] 124] (fun v Φr Hr=>v = .bool o0 ∧ Φr = [.sli 2 Qb qp1 qc2 l0,.sli 5 Qa qp3 qc4 l1] ∧ Hr = [.blk qg0 [.slice qp1 l0.length qc2,.slice qp3 l1.length qc4,.int .i64 a2,.int .i64 a3] 124]):=by
 unfold Q44 at hm
 refine QC Tryz.func140 Z Tryz.ntmps140 Z (S:=[_,_]) Z (fun C=>(Q5 (Q1 (wB Z (fun g2=>(wP Z (Q4 (Q3 (Q2 [2,1] (S':=[_,_]) Z (Q5 (Q1 (wP Z (Q2o Z Z Z Zq Z Z ?_)))))))))))))
 obtain ⟨v7,hc7,hm⟩:=Q6 hm
 refine wC [0,1] [] Z fn_179 Z (Q9G N qp5 qc6 l4 g2 qg0 qp1 qc2 l0 qp3 qc4 l1 a2 a3 _ hc7) (asK [2,0,1] Z) Z (H':=[]) Z ?_
 rintro _ _ _ ⟨rfl,rfl,rfl⟩
 refine wP Z (wP Z (Q4 (Q3 (Q2 [4] (S':=[_]) Z (Qo ?_)))))
 have hE:=(Zi hm).symm
 replace hE:=hE.symm
 subst hE
 refine Qp (Hr:=[_]) [1] Tryz.results140 (Qg Z) ⟨Z,Z,Z⟩ (asK [0,1] Z) Z Z (.inl Z)
theorem Qcv (N:Nat) (aA:Nat) (s:OA) (z:Nat) (l0:List Ql) (a0:OA) (a1:Nat) (l1:List Qi) (a2:Int) (a3:Int) (a4:Int) (a5:Int) (a6:Int) (aR:OA) (aS:Nat) (l7:List Qm) (o0:Bool) (hm:Q6h N l0 l1 a2 a3 a4 a5 a6 l7 = some o0):Q17 Tryz.prog 105 [.pointer (some ⟨aA,0,none⟩),.agg #[.int .u8 a4,.int .i64 a5,.int .i64 a6,.slice aR l7.length aS]] [.sli 2 Qb s z l0,.sli 5 Qa a0 a1 l1,.sli 7 QA aR aS l7] [.blk aA [.slice s l0.length z,.slice a0 l1.length a1,.int .i64 a2,.int .i64 a3] 124] (fun v Φr Hr=>v = .bool o0 ∧ Φr = [.sli 2 Qb s z l0,.sli 5 Qa a0 a1 l1] ∧ Hr = [.blk aA [.slice s l0.length z,.slice a0 l1.length a1,.int .i64 a2,.int .i64 a3] 124]):=by
 unfold Q6h at hm
 refine QC Tryz.func105 Z Tryz.ntmps105 Z (S:=[_,_]) Z (fun C=>(Q5 (Q1 (wB Z (fun g3=>(wP Z (Q4 (Q3 (Q2 [3,0] (S':=[_,_]) Z (Q5 (Q5 (Q1 (wF Z tF_81_0 (wD 0 0 Z tS_79 tA_79 Z (Q4 ?_)))))))))))))))
 refine Q3 (Q2 [6,3,0] (S':=V3 ..) Z (Qw (Q5 (Q1 (wP Z (wP Z (Q4 (Q3 (Q2 [7,6,3,0] (S':=V4 ..) Z ?_)))))))))
 refine Qt Z (fun aT=>?_) (fun aT=>?_)
 replace hm:=QI hm aT
 refine Q2 [3,0] (S':=[_,_]) Z (Q5 (Q1 (wF Z tF_81_2 (wD 0 2 Z Q1m Q1H Z (wP Z (wP Z ?_))))))
 refine QG (d:=12) (S':=V5 ..) Z Z (fun aG=>?_) (fun aG=>?_)
 replace hm:=QI hm aG
 refine wP Z (wF Z QbI (wD 0 1 Z Q1m Q1H Z (wF Z Q99 (wD 0 3 Z Q8N Q9h Z (wN Z Q7O ?_)))))
 obtain ⟨b4,aU,hm⟩:=Q6 hm
 refine wC [1] [0] Z fn_135 Z (Q9q N aA s z l0 a0 a1 l1 a2 a3 a5 ((l7.length:Nat):Int) _ aU) (asK [0,1] Z) Z (H':=[_]) Z ?_
 rintro _ _ _ ⟨rfl,rfl,rfl⟩
 refine wP Z (wP Z ?_)
 refine QG (d:=21) (S':=V14 ..) Z Z (fun aH=>?_) (fun aH=>?_)
 replace hm:=QI hm aH
 refine wP Z (wF Z Q99 (wD 1 3 Z Q8N Q9h Z ?_))
 obtain ⟨b5,aV,hm⟩:=Q6 hm
 refine wC [0] [1] Z fn_140 Z (Q9p N aA s z l0 a0 a1 l1 a2 a3 aR aS l7 _ aV) (asK [0,1,4] Z) Z (H':=[_]) Z ?_
 rintro _ _ _ ⟨rfl,rfl,rfl⟩
 refine wP Z (wP Z (Q4 (Q3 (Q2 [4] (S':=[_]) Z (Qo (Qk (Q9 ?_)))))))
 have hE:=(Zi hm).symm
 replace hE:=hE.symm
 subst hE
 refine Qp (Hr:=[_]) [0] Tryz.results105 (Qg Z) ⟨Z,Z,Z⟩ (asK [0,1] Z) Z Z (.inl Z)
 replace hm:=QH hm aH
 refine wO Z (wO Z (wO Z (wO Z (wP Z (wP Z (Q4 (Q3 (Q2 [4] (S':=[_]) Z (Qo (Qk (Q9 ?_)))))))))))
 have hE:=(Zi hm).symm
 replace hE:=hE.symm
 subst hE
 refine Qp (Hr:=[_]) [0] Tryz.results105 (Qg Z) ⟨Z,Z,Z⟩ (asK [0,1] Z) Z Z (.inl Z)
 replace hm:=QH hm aG
 refine wO Z (wO Z (wO Z (wO Z (wO Z (wO Z (wO Z (wP Z (wP Z (wO Z (wO Z (wO Z (wO Z (wP Z ?_)))))))))))))
 refine wP Z (Q4 (Q3 (Q2 [4] (S':=[_]) Z (Qo (Qk (Q9 ?_))))))
 have hE:=(Zi hm).symm
 replace hE:=hE.symm
 subst hE
 refine Qp (Hr:=[_]) [1] Tryz.results105 (Qg Z) ⟨Z,Z,Z⟩ (asK [0,1] Z) Z Z (.inl Z)
 replace hm:=QH hm aT
 refine Q2 [6,3,0] (S':=V3 ..) Z (Q5 (Q1 (wP Z (wP Z (Q4 (Q3 (Q2 [27,6,3,0] (S':=V4 ..) Z ?_)))))))
 refine Qt Z (fun aI=>?_) (fun aI=>?_)
 replace hm:=QI hm aI
 refine Q2 [3,0] (S':=[_,_]) Z (Q5 ?_)
 obtain ⟨aW,hm,hLj_1⟩:=Q6 hm
 unfold Q7Q at hm
 refine QM (σ:=Bool) (fun a7=>aW = a7) (fun a7=>[(4,.bool a7)]) (fun a7=>[.sli 2 Qb s z l0,.sli 5 Qa a0 a1 l1]) (fun a7=>[.blk aA [.slice s l0.length z,.slice a0 l1.length a1,.int .i64 a2,.int .i64 a3] 124]) ?_ ?_
 rcases Q1E hm with ⟨aC,hm⟩ | ⟨aC,hm⟩
 rcases Q1E hm with ⟨aF,hm⟩ | ⟨aF,hm⟩
 rcases Q1E hm with ⟨aJ,hm⟩ | ⟨aJ,hm⟩
 refine QW [0,1,2,3,4,5,6,7,8,9,10,11,12,13,14,15,16,17,18,19,20,21,22] Z Z (fun hok=>(Q8 hok 0 Z Z Z Zq Z Z Z QbI (Qn hok 1 0 1 Z Z Z Zq Z Z Z Z (cs:=[_]) Z Q1m Q1H Z Z (xP hok 2 Z (xP hok 3 Z (Q1z (d:=32) (v':=.bool true) (S':=V5 ..) Z Z (Qy aC) (Q8 hok 4 Z Z Z Zq Z Z Z Q99 (Qn hok 5 0 3 Z Z Z Zq Z Z Z Z (cs:=[_]) Z Q8N Q9h Z Z (Q66 hok 6 Z Z Z Zq Z Z Z Q7O (xP hok 7 Z (Q1z (d:=36) (v':=.bool (l7.length == 0)) (S':=V9 ..) Z Z (Q4J (a:=l7.length) (b:=0)) (xP hok 8 Z (xP hok 9 Z (Q1z (d:=38) (v':=.bool true) (S':=V11 ..) Z Z (Qy aF) ?_))))))))))))))
 refine Q8 hok 10 Z Z Z Zq Z Z Z tF_81_2 (Qn hok 11 0 2 Z Z Z Zq Z Z Z Z (cs:=[_]) Z Q1m Q1H Z Z (xP hok 12 Z (xP hok 13 Z (xP hok 14 Z (Q1z (d:=43) (v':=.bool true) (S':=V16 ..) Z Z (Qy aJ) (Q8 hok 15 Z Z Z Zq Z Z Z tF_81_2 (Qn hok 16 0 2 Z Z Z Zq Z Z Z Z (cs:=[_]) Z Q1m Q1H Z Z (xP hok 17 Z (xP hok 18 Z (Q8 hok 19 Z Z Z Zq Z Z Z tF_124_2 (Qn hok 20 1 3 Z Z Z Zq Z Z Z Z (cs:=[_]) Z Q1m Q1H Z Z (xP hok 21 Z (xP hok 22 Z ?_)))))))))))))
 refine xS hok 23 Z (wP Z (Q4 (QJ [0,1,2] [] Z Z (QS hok Z ?_))))
 have hE:=(Zi hm).symm
 refine QE [1] Z (H':=[_]) Z ?_
 refine Qh (decide (a6 < a3)) hE [4] Z (asK [0,1] Z) Z
 refine QW [0,1,2,3,4,5,6,7,8,9,10,11,12,13,14,15,16,17,18,19,20,21,22] Z Z (fun hok=>(Q8 hok 0 Z Z Z Zq Z Z Z QbI (Qn hok 1 0 1 Z Z Z Zq Z Z Z Z (cs:=[_]) Z Q1m Q1H Z Z (xP hok 2 Z (xP hok 3 Z (Q1z (d:=32) (v':=.bool true) (S':=V5 ..) Z Z (Qy aC) (Q8 hok 4 Z Z Z Zq Z Z Z Q99 (Qn hok 5 0 3 Z Z Z Zq Z Z Z Z (cs:=[_]) Z Q8N Q9h Z Z (Q66 hok 6 Z Z Z Zq Z Z Z Q7O (xP hok 7 Z (Q1z (d:=36) (v':=.bool (l7.length == 0)) (S':=V9 ..) Z Z (Q4J (a:=l7.length) (b:=0)) (xP hok 8 Z (xP hok 9 Z (Q1z (d:=38) (v':=.bool true) (S':=V11 ..) Z Z (Qy aF) ?_))))))))))))))
 refine Q8 hok 10 Z Z Z Zq Z Z Z tF_81_2 (Qn hok 11 0 2 Z Z Z Zq Z Z Z Z (cs:=[_]) Z Q1m Q1H Z Z (xP hok 12 Z (xP hok 13 Z (xP hok 14 Z (Q1z (d:=43) (v':=.bool false) (S':=V16 ..) Z Z (Qy aJ) (xO hok 15 Z (xO hok 16 Z (xO hok 17 Z (xO hok 18 Z (xO hok 19 Z (xO hok 20 Z (xO hok 21 Z (xP hok 22 Z ?_)))))))))))))
 refine xS hok 23 Z (wP Z (Q4 (QJ [0,1,2] [] Z Z (QS hok Z ?_))))
 have hE:=(Zi hm).symm
 refine QE [1] Z (H':=[_]) Z ?_
 refine Qh false hE [4] Z (asK [0,1] Z) Z
 refine QW [0,1,2,3,4,5,6,7,8,9,10,11,12,13,14,15,16,17,18,19,20,21,22] Z Z (fun hok=>(Q8 hok 0 Z Z Z Zq Z Z Z QbI (Qn hok 1 0 1 Z Z Z Zq Z Z Z Z (cs:=[_]) Z Q1m Q1H Z Z (xP hok 2 Z (xP hok 3 Z (Q1z (d:=32) (v':=.bool true) (S':=V5 ..) Z Z (Qy aC) (Q8 hok 4 Z Z Z Zq Z Z Z Q99 (Qn hok 5 0 3 Z Z Z Zq Z Z Z Z (cs:=[_]) Z Q8N Q9h Z Z (Q66 hok 6 Z Z Z Zq Z Z Z Q7O (xP hok 7 Z (Q1z (d:=36) (v':=.bool (l7.length == 0)) (S':=V9 ..) Z Z (Q4J (a:=l7.length) (b:=0)) (xP hok 8 Z (xP hok 9 Z (Q1z (d:=38) (v':=.bool false) (S':=V11 ..) Z Z (Qy aF) ?_))))))))))))))
 refine xO hok 10 Z (xO hok 11 Z (xO hok 12 Z (xP hok 13 Z (xP hok 14 Z (xO hok 15 Z (xO hok 16 Z (xO hok 17 Z (xO hok 18 Z (xO hok 19 Z (xO hok 20 Z (xO hok 21 Z (xP hok 22 Z (xS hok 23 Z ?_)))))))))))))
 refine wP Z (Q4 (QJ [0,1,2] [] Z Z (QS hok Z ?_)))
 have hE:=(Zi hm).symm
 refine QE [1] Z (H':=[_]) Z ?_
 refine Qh false hE [4] Z (asK [0,1] Z) Z
 refine QW [0,1,2,3,4,5,6,7,8,9,10,11,12,13,14,15,16,17,18,19,20,21,22] Z Z (fun hok=>(Q8 hok 0 Z Z Z Zq Z Z Z QbI (Qn hok 1 0 1 Z Z Z Zq Z Z Z Z (cs:=[_]) Z Q1m Q1H Z Z (xP hok 2 Z (xP hok 3 Z (Q1z (d:=32) (v':=.bool false) (S':=V5 ..) Z Z (Qy aC) (xO hok 4 Z (xO hok 5 Z (xO hok 6 Z (xO hok 7 Z (xP hok 8 Z (xP hok 9 Z (xO hok 10 Z (xO hok 11 Z ?_))))))))))))))
 refine xO hok 12 Z (xP hok 13 Z (xP hok 14 Z (xO hok 15 Z (xO hok 16 Z (xO hok 17 Z (xO hok 18 Z (xO hok 19 Z (xO hok 20 Z (xO hok 21 Z (xP hok 22 Z (xS hok 23 Z (wP Z (Q4 ?_)))))))))))))
 refine QJ [0,1,2] [] Z Z (QS hok Z ?_)
 have hE:=(Zi hm).symm
 refine QE [1] Z (H':=[_]) Z ?_
 refine Qh false hE [4] Z (asK [0,1] Z) Z
 rintro a7 hE
 try dsimp only
 have hm:=hLj_1
 try rw [hE] at hm
 refine Qo (Qk (Q9 ?_))
 have hE:=(Zi hm).symm
 replace hE:=hE.symm
 subst hE
 refine Qp (Hr:=[_]) [0] Tryz.results105 (Qg Z) ⟨Z,Z,Z⟩ (asK [0,1] Z) Z Z (.inl Z)
 replace hm:=QH hm aI
 refine Q2 [6,3,0] (S':=V3 ..) Z (Q5 (Q1 (wP Z (wP Z (Q4 (Q3 (Q2 [52,3,0] (S':=V3 ..) Z ?_)))))))
 refine Qt Z (fun aK=>?_) (fun aK=>?_)
 replace hm:=QI hm aK
 refine Q2 [3,0] (S':=[_,_]) Z (Q5 ?_)
 obtain ⟨aX,hm,hLj_2⟩:=Q6 hm
 unfold Q7R at hm
 refine QM (σ:=Bool) (fun a8=>aX = a8) (fun a8=>[(4,.bool a8)]) (fun a8=>[.sli 2 Qb s z l0,.sli 5 Qa a0 a1 l1]) (fun a8=>[.blk aA [.slice s l0.length z,.slice a0 l1.length a1,.int .i64 a2,.int .i64 a3] 124]) ?_ ?_
 refine Q1 (wF Z QbI (wD 0 1 Z Q1m Q1H Z (wP Z (wP Z ?_))))
 refine QG (d:=57) (S':=V5 ..) Z Z (fun aL=>?_) (fun aL=>?_)
 replace hm:=QI hm aL
 refine wF Z tF_81_2 (wD 0 2 Z Q1m Q1H Z (wP Z (wP Z (wP Z ?_))))
 refine QG (d:=62) (S':=V10 ..) Z Z (fun aM=>?_) (fun aM=>?_)
 replace hm:=QI hm aM
 refine wF Z Q99 (wD 0 3 Z Q8N Q9h Z (wN Z Q7O (wP Z (Qs (d:=66) (v':=.bool (decide (0 < l7.length))) (S':=V14 ..) Z Z (natgt (a:=l7.length) (b:=0)) (wP Z (wP Z ?_))))))
 refine QG (d:=68) (S':=V16 ..) Z Z (fun aN=>?_) (fun aN=>?_)
 replace hm:=QI hm aN
 refine wP Z (wF Z Q99 (wD 0 3 Z Q8N Q9h Z ?_))
 obtain ⟨b2,aY,hm⟩:=Q6 hm
 refine wC [1] [0] Z fn_140 Z (Q9p N aA s z l0 a0 a1 l1 a2 a3 aR aS l7 _ aY) (asK [0,1,2] Z) Z (H':=[_]) Z ?_
 rintro _ _ _ ⟨rfl,rfl,rfl⟩
 refine wP Z (wP Z (Q4 ?_))
 have hE:=(Zi hm).symm
 refine QE [0] Z (H':=[_]) Z ?_
 refine Qh b2 hE [4] Z (asK [0,1] Z) Z
 replace hm:=QH hm aN
 refine wO Z (wO Z (wO Z (wO Z (wP Z (wP Z (Q4 ?_))))))
 have hE:=(Zi hm).symm
 refine QE [1] Z (H':=[_]) Z ?_
 refine Qh false hE [4] Z (asK [0,1] Z) Z
 replace hm:=QH hm aM
 refine wO Z (wO Z (wO Z (wO Z (wP Z (wP Z (wO Z (wO Z (wO Z (wO Z (wP Z (wP Z (Q4 ?_))))))))))))
 have hE:=(Zi hm).symm
 refine QE [1] Z (H':=[_]) Z ?_
 refine Qh false hE [4] Z (asK [0,1] Z) Z
 replace hm:=QH hm aL
 refine wO Z (wO Z (wO Z (wP Z (wP Z (wO Z (wO Z (wO Z (wO Z (wP Z (wP Z (wO Z (wO Z (wO Z ?_)))))))))))))
 refine wO Z (wP Z (wP Z (Q4 ?_)))
 have hE:=(Zi hm).symm
 refine QE [1] Z (H':=[_]) Z ?_
 refine Qh false hE [4] Z (asK [0,1] Z) Z
 rintro a8 hE
 try dsimp only
 have hm:=hLj_2
 try rw [hE] at hm
 refine Qo (Qk (Q9 ?_))
 have hE:=(Zi hm).symm
 replace hE:=hE.symm
 subst hE
 refine Qp (Hr:=[_]) [0] Tryz.results105 (Qg Z) ⟨Z,Z,Z⟩ (asK [0,1] Z) Z Z (.inl Z)
 replace hm:=QH hm aK
 refine Q2 [3] (S':=[_]) Z (Qr (Qf (Q3 (Q5 ?_))))
 obtain ⟨aZ,hm,hLj_3⟩:=Q6 hm
 unfold Q7S at hm
 refine QM (σ:=Bool) (fun a9=>aZ = a9) (fun a9=>[(4,.bool a9)]) (fun a9=>[.sli 2 Qb s z l0,.sli 5 Qa a0 a1 l1]) (fun a9=>[.blk aA [.slice s l0.length z,.slice a0 l1.length a1,.int .i64 a2,.int .i64 a3] 124]) ?_ ?_
 refine Q1 (wF Z tF_81_0 (wD 0 0 Z tS_79 tA_79 Z (wP Z (wP Z ?_))))
 refine QG (d:=77) (S':=V4 ..) Z Z (fun aO=>?_) (fun aO=>?_)
 replace hm:=QI hm aO
 refine wF Z QbI (wD 0 1 Z Q1m Q1H Z (wP Z (wP Z (wP Z ?_))))
 refine QG (d:=82) (S':=V9 ..) Z Z (fun aP=>?_) (fun aP=>?_)
 replace hm:=QI hm aP
 refine wF Z tF_81_2 (wD 0 2 Z Q1m Q1H Z (wP Z (wP Z (wP Z ?_))))
 refine QG (d:=87) (S':=V14 ..) Z Z (fun aQ=>?_) (fun aQ=>?_)
 replace hm:=QI hm aQ
 refine wF Z Q99 (wD 0 3 Z Q8N Q9h Z (wN Z Q7O (wP Z (Qs (d:=91) (v':=.bool (l7.length == 0)) (S':=V18 ..) Z Z (Q4J (a:=l7.length) (b:=0)) (wP Z (wP Z (Q4 ?_)))))))
 have hE:=(Zi hm).symm
 refine QE [1] Z (H':=[_]) Z ?_
 refine Qh (l7.length == 0) hE [4] Z (asK [0,1] Z) Z
 replace hm:=QH hm aQ
 refine wO Z (wO Z (wO Z (wO Z (wP Z (wP Z (Q4 ?_))))))
 have hE:=(Zi hm).symm
 refine QE [1] Z (H':=[_]) Z ?_
 refine Qh false hE [4] Z (asK [0,1] Z) Z
 replace hm:=QH hm aP
 refine wO Z (wO Z (wO Z (wP Z (wP Z (wO Z (wO Z (wO Z (wO Z (wP Z (wP Z (Q4 ?_)))))))))))
 have hE:=(Zi hm).symm
 refine QE [1] Z (H':=[_]) Z ?_
 refine Qh false hE [4] Z (asK [0,1] Z) Z
 replace hm:=QH hm aO
 refine wO Z (wO Z (wO Z (wP Z (wP Z (wO Z (wO Z (wO Z (wP Z (wP Z (wO Z (wO Z (wO Z (wO Z ?_)))))))))))))
 refine wP Z (wP Z (Q4 ?_))
 have hE:=(Zi hm).symm
 refine QE [1] Z (H':=[_]) Z ?_
 refine Qh false hE [4] Z (asK [0,1] Z) Z
 rintro a9 hE
 try dsimp only
 have hm:=hLj_3
 try rw [hE] at hm
 refine Qo ?_
 have hE:=(Zi hm).symm
 replace hE:=hE.symm
 subst hE
 refine Qp (Hr:=[_]) [0] Tryz.results105 (Qg Z) ⟨Z,Z,Z⟩ (asK [0,1] Z) Z Z (.inl Z)
theorem QbM (N:Nat) (a0:Int) (a1:Int) (a2:Int) (qp0:OA) (qc1:Nat) (l3:List Qm) (qg2:Nat) (qg3:Nat) (qp4:OA) (qc5:Nat) (l4:List Ql) (qp6:OA) (qc7:Nat) (l5:List Qi) (a6:Int) (a7:Int) (o0:Bool) (hm:Q5N N a0 a1 a2 l3 l4 l5 a6 a7 = some o0):Q17 Tryz.prog 104 [.agg #[.int .u8 a0,.int .i64 a1,.int .i64 a2,.slice qp0 l3.length qc1],.pointer (some ⟨qg2,0,none⟩)] [.sli 7 QA qp0 qc1 l3,.sli 2 Qb qp4 qc5 l4,.sli 5 Qa qp6 qc7 l5] [.blk qg2 [.pointer (some ⟨qg3,0,none⟩)] 120,.blk qg3 [.slice qp4 l4.length qc5,.slice qp6 l5.length qc7,.int .i64 a6,.int .i64 a7] 124] (fun v Φr Hr=>v = .bool o0 ∧ Φr = [.sli 2 Qb qp4 qc5 l4,.sli 5 Qa qp6 qc7 l5] ∧ Hr = [.blk qg2 [.pointer (some ⟨qg3,0,none⟩)] 120,.blk qg3 [.slice qp4 l4.length qc5,.slice qp6 l5.length qc7,.int .i64 a6,.int .i64 a7] 124]):=by
 unfold Q5N at hm
 refine QC Tryz.func104 Z Tryz.ntmps104 Z (S:=[_,_]) Z (fun C=>(Q5 (Q1 (wB Z (fun g2=>(wP Z (Q4 (Q3 (Q2 [2,1] (S':=[_,_]) Z (Q5 (Q1 (wD 1 0 Z Qah Qab Z (QO 0 0 Z Z Z Zq Z Z Z (cs:=V4 ..) Z tS_81 tA_81 Z Z ?_)))))))))))))
 obtain ⟨v6,hc6,hm⟩:=Q6 hm
 refine wC [2] [0,1] Z fn_105 Z (Qcv N qg3 qp4 qc5 l4 qp6 qc7 l5 a6 a7 a0 a1 a2 qp0 qc1 l3 _ hc6) (asK [1,2,0] Z) Z (H':=[_,_]) Z ?_
 rintro _ _ _ ⟨rfl,rfl,rfl⟩
 refine wP Z (wP Z (Q4 (Q3 (Q2 [3] (S':=[_]) Z (Qo ?_)))))
 have hE:=(Zi hm).symm
 replace hE:=hE.symm
 subst hE
 refine Qp (Hr:=[_,_]) [2,0] Tryz.results104 (Qg Z) ⟨Z,Z,Z⟩ (asK [0,1] Z) Z Z (.inl Z)
theorem QaZ (N:Nat) (aC:OA) (aD:Nat) (l0:List Q19) (a7:Nat) (z:Nat) (a0:OA) (a1:Nat) (l1:List Ql) (a5:OA) (a6:Nat) (l2:List Qi) (a3:Int) (a4:Int) (o0:Int) (hm:Q51 N l0 l1 l2 a3 a4 = some o0):Q17 Tryz.prog 139 [.slice aC l0.length aD,.func (.func 104) #[] #[.pointer (some ⟨a7,0,none⟩)]] [.sli 4 QZ aC aD l0,.sli 2 Qb a0 a1 l1,.sli 5 Qa a5 a6 l2] [.blk a7 [.pointer (some ⟨z,0,none⟩)] 120,.blk z [.slice a0 l1.length a1,.slice a5 l2.length a6,.int .i64 a3,.int .i64 a4] 124] (fun v Φr Hr=>v = .int .i64 o0 ∧ Φr = [.sli 2 Qb a0 a1 l1,.sli 5 Qa a5 a6 l2] ∧ Hr = [.blk a7 [.pointer (some ⟨z,0,none⟩)] 120,.blk z [.slice a0 l1.length a1,.slice a5 l2.length a6,.int .i64 a3,.int .i64 a4] 124]):=by
 unfold Q51 at hm
 refine QC Tryz.func139 Z Tryz.ntmps139 Z (S:=[_,_]) Z (fun C=>(Q5 (Q1 (wP Z (Q4 (Q3 (Q2 [0,1] (S':=[_,_]) Z (Q5 ?_))))))))
 obtain ⟨aG,hm,hLj_1⟩:=Q1o hm
 refine QM (σ:=Unit) (fun _=>aG = .inl ()) (fun _=>[]) (fun _=>[.sli 2 Qb a0 a1 l1,.sli 5 Qa a5 a6 l2]) (fun _=>[.blk a7 [.pointer (some ⟨z,0,none⟩)] 120,.blk z [.slice a0 l1.length a1,.slice a5 l2.length a6,.int .i64 a3,.int .i64 a4] 124]) ?_ ?_
 refine Q5 (Q1 (wP Z (wN Z tE_50 (wP Z (Q4 (Q3 (Q2 [8,7,0,1] (S':=V4 ..) Z (Qw (Q1j (σ:=Nat × Nat) (fun (a8,s)=>Q1h (Q33 N l0 l1 l2 a3 a4) a8 s = some aG) (fun (a8,s)=>a8) (fun (a8,s)=>[(8,.int .i64 ((s:Nat):Int)),(7,.int .i64 ((l0.length:Nat):Int)),(0,.slice aC l0.length aD),(1,.func (.func 104) #[] #[.pointer (some ⟨a7,0,none⟩)])]) (fun (a8,s)=>[.sli 4 QZ aC aD l0,.sli 2 Qb a0 a1 l1,.sli 5 Qa a5 a6 l2]) (fun (a8,s)=>[.blk a7 [.pointer (some ⟨z,0,none⟩)] 120,.blk z [.slice a0 l1.length a1,.slice a5 l2.length a6,.int .i64 a3,.int .i64 a4] 124]) (N,0) hm [8,7,0,1] Z (asK [0,1,2] Z) Z (fun s_ hm=>?_))))))))))
 obtain ⟨a8,s⟩:=s_
 try dsimp only at hm ⊢
 obtain ⟨aR,aS,aI,hq,hLu1⟩:=QV hm
 clear hm
 subst aI
 replace hm:=hq
 clear hq
 unfold Q33 at hm
 try dsimp only at hm
 refine Q5 (Q1 (wP Z (Qs (d:=9) (v':=.bool (decide (s < l0.length))) (S':=V4 ..) Z Z (Q2l (a:=s) (b:=l0.length)) (Q4 (Q3 (Q5 ?_))))))
 refine Qt Z (fun aH=>?_) (fun aH=>?_)
 replace hm:=QI hm aH
 refine Q2 [8,7,0,1] (S':=V4 ..) Z (Qr (Q3 (Q5 (Qw (Q5 (Q1 (wP Z (wP Z (Q4 (Q3 (Q2 [5,8,7,0,1] (S':=V5 ..) Z (Q5 (Q1 ?_)))))))))))))
 refine wP Z (wP Z (wP Z ?_))
 obtain ⟨aF,aJ,hm⟩:=Q6 hm
 refine Q1a 0 s Z Z Z Zq Z Z Z Z Z aJ tE_50 tS_81 (fun aT aU aQ aO=>(Q1G Qb2 1 Z (fun aK aL _=>?_)))
 subst aL
 refine Q1F 1 0 Z Z Z Zq Z Z Z (cs:=V4 ..) Z tS_81 tA_81 Z Z ?_
 obtain ⟨aV,aM,hm⟩:=Q6 hm
 refine Q1K [0,1] [] Z Z Z Zq Z Z Z fn_104 Z Z (QbM N aF.kind aF.type aF.which aK.1 aK.2 aF.exprs a7 z a0 a1 l1 a5 a6 l2 a3 a4 _ aM) (asK [0,4,5] Z) Z (H':=[]) Z ?_
 rintro _ _ _ ⟨rfl,rfl,rfl⟩
 refine Q4 (Q3 (Q2 [16,5,8,7,0,1] (S':=V6 ..) Z ?_))
 refine Qt Z (fun aB=>?_) (fun aB=>?_)
 replace hm:=QI hm aB
 refine Q2 [5] (S':=[_]) Z (Q5 (Q1 (wP Z (wP Z (Q4 (Q3 (Q2 [4] (S':=[_]) Z (Qo (Qk (Q9 (Q9 (Qk (Q9 ?_)))))))))))))
 have hE:=(Zi hm).symm
 replace hE:=Qx hLu1 hE
 replace hE:=Qx hLj_1 hE
 replace hE:=hE.symm
 subst hE
 refine Qp (Hr:=[_,_]) [0,1] Tryz.results139 (Qg Z) ⟨Z,Z,Z⟩ (asK [0,1] Z) Z Z (.inl Z)
 replace hm:=QH hm aB
 refine Q2 [8,7,0,1] (S':=V4 ..) Z (Qr (Qf (Q3 (Q1 (wP Z ?_)))))
 obtain ⟨aN,hm⟩:=Qd hm
 refine Qs (d:=18) (v':=.int .i64 ((s + 1:Nat):Int)) (S':=V4 ..) Z Z (Q1r (a:=s) (b:=1) aN) (QT (S':=V4 ..) Z Z Z Z Z (Q4 ?_))
 have hE:=(Zi hm).symm
 replace hE:=QF hLu1 hE
 refine QU (_,s + 1) (Nat.lt_succ_self _) hE [8,7,0,1] Z (asK [5,0,1] Z) Z
 replace hm:=QH hm aH
 refine Q2 [] (S':=[]) Z (Q1g (Qj (Qj (QD ?_))))
 have hE:=(Zi hm).symm
 replace hE:=Qx hLu1 hE
 refine Qh () hE [] Z (asK [1,2] Z) Z
 rintro _ hE
 try dsimp only
 have hm:=QF hLj_1 hE
 try dsimp only at hm
 refine Q5 (Q1 (wP Z (Q4 (Q3 (Qo ?_)))))
 have hE:=(Zi hm).symm
 replace hE:=hE.symm
 subst hE
 refine Qp (Hr:=[_,_]) [0,1] Tryz.results139 (Qg Z) ⟨Z,Z,Z⟩ (asK [0,1] Z) Z Z (.inl Z)
theorem Q9W (N:Nat) (qp0:OA) (qc1:Nat) (l0:List Q19) (qg2:Nat) (qg3:Nat) (qp4:OA) (qc5:Nat) (l1:List Ql) (qp6:OA) (qc7:Nat) (l2:List Qi) (a3:Int) (a4:Int) (o0:Bool) (hm:Q3Y N l0 l1 l2 a3 a4 = some o0):Q17 Tryz.prog 103 [.slice qp0 l0.length qc1,.func (.func 104) #[] #[.pointer (some ⟨qg2,0,none⟩)]] [.sli 4 QZ qp0 qc1 l0,.sli 2 Qb qp4 qc5 l1,.sli 5 Qa qp6 qc7 l2] [.blk qg2 [.pointer (some ⟨qg3,0,none⟩)] 120,.blk qg3 [.slice qp4 l1.length qc5,.slice qp6 l2.length qc7,.int .i64 a3,.int .i64 a4] 124] (fun v Φr Hr=>v = .bool o0 ∧ Φr = [.sli 2 Qb qp4 qc5 l1,.sli 5 Qa qp6 qc7 l2] ∧ Hr = [.blk qg2 [.pointer (some ⟨qg3,0,none⟩)] 120,.blk qg3 [.slice qp4 l1.length qc5,.slice qp6 l2.length qc7,.int .i64 a3,.int .i64 a4] 124]):=by
 unfold Q3Y at hm
 refine QC Tryz.func103 Z Tryz.ntmps103 Z (S:=[_,_]) Z (fun C=>(Q5 (Q1 (wP Z (Q4 (Q3 (Q2 [0,1] (S':=[_,_]) Z (Q5 (Q1 (wP Z (wP Z ?_)))))))))))
 obtain ⟨v7,hc7,hm⟩:=Q6 hm
 refine wC [0,1] [] Z fn_139 Z (QaZ N qp0 qc1 l0 qg2 qg3 qp4 qc5 l1 qp6 qc7 l2 a3 a4 _ hc7) (asK [0,1,2] Z) Z (H':=[]) Z ?_
 rintro _ _ _ ⟨rfl,rfl,rfl⟩
 refine wP Z (wP Z (Q4 (Q3 (Q2 [4] (S':=[_]) Z (Qo ?_)))))
 have hE:=(Zi hm).symm
 replace hE:=hE.symm
 subst hE
 refine Qp (Hr:=[_,_]) [0,1] Tryz.results103 (Qg Z) ⟨Z,Z,Z⟩ (asK [0,1] Z) Z Z (.inl Z)
theorem Qcg (N:Nat) (aE:Nat) (aA:OA) (aB:Nat) (l0:List Ql) (aC:OA) (aD:Nat) (l1:List Qi) (a2:Int) (a3:Int) (a4:ByteArray) (a5:Int) (a6:Int) (aG:OA) (aH:Nat) (l7:List QL) (aI:OA) (aJ:Nat) (l8:List Q19) (o0:Bool) (o1:Int) (o2:Int) (hm:Q5f N l0 l1 a2 a3 a4 a5 a6 l7 l8 = some (o0,o1,o2)):Q17 Tryz.prog 61 [.pointer (some ⟨aE,0,none⟩),.agg #[.string a4,.int .i64 a5,.int .i64 a6,.slice aG l7.length aH,.slice aI l8.length aJ]] [.sli 2 Qb aA aB l0,.sli 5 Qa aC aD l1,.sli 10 QR aG aH l7,.sli 4 QZ aI aJ l8] [.blk aE [.slice aA l0.length aB,.slice aC l1.length aD,.int .i64 a2,.int .i64 a3] 124] (fun v Φr Hr=>v = .bool o0 ∧ Φr = [.sli 2 Qb aA aB l0,.sli 5 Qa aC aD l1] ∧ Hr = [.blk aE [.slice aA l0.length aB,.slice aC l1.length aD,.int .i64 o1,.int .i64 o2] 124]):=by
 unfold Q5f at hm
 refine QC Tryz.func61 Z Tryz.ntmps61 Z (S:=[_,_]) Z (fun C=>(Q5 (Q1 (wB Z (fun g2=>(wB Z (fun g3=>(wP Z (Q4 (Q3 (Q2 [3,2] (S':=[_,_]) Z (Q5 (QW [0,1,2,3,5,6] Z Z (fun hok=>(Qn hok 0 1 0 Z Z Z Zq Z Z Z Z (cs:=[_]) Z Qah Qab Z Z (Qn hok 1 1 0 Z Z Z Zq Z Z Z Z (cs:=[_]) Z Qah Qab Z Z (xP hok 2 Z ?_)))))))))))))))))
 refine Q8 hok 3 Z Z Z Zq Z Z Z Q6x (xS hok 4 Z (wS 2 2 Z Q1m (all':=V4 ..) Z (H':=V3 ..) Z (Q4 (QJ [0,1,2,3] [1] Z Z (xP hok 5 Z (Q8 hok 6 Z Z Z Zq Z Z Z tF_124_2 (xS hok 7 Z (wS 2 3 Z Q1m (all':=V4 ..) Z (H':=V3 ..) Z (Q4 (QJ [0,1,2,3] [] Z Z (QS hok Z (Q3 (Q2 [3,2] (S':=[_,_]) Z ?_)))))))))))))
 refine Q5 (Q5 ?_)
 obtain ⟨b6,hm,hLj_1⟩:=Q6 hm
 unfold Q5t at hm
 refine QM (σ:=Bool) (fun a9=>b6 = a9) (fun a9=>[(3,.pointer (some ⟨g3,0,none⟩)),(2,.pointer (some ⟨g2,0,none⟩)),(38,.bool a9)]) (fun a9=>[.sli 10 QR aG aH l7,.sli 4 QZ aI aJ l8,.sli 2 Qb aA aB l0,.sli 5 Qa aC aD l1]) (fun a9=>[.blk g3 [.string a4,.int .i64 a5,.int .i64 a6,.slice aG l7.length aH,.slice aI l8.length aJ] 52,.blk g2 [.pointer (some ⟨aE,0,none⟩)] 120,.blk aE [.slice aA l0.length aB,.slice aC l1.length aD,.int .i64 0,.int .i64 0] 124]) ?_ ?_
 refine Q1 (wF Z tF_52_0 (wD 0 0 Z Q2e Q3O Z ?_))
 obtain ⟨bK,b7,hm⟩:=Q6 hm
 refine wC [] [0,1,2] Z fn_58 Z (Q73 N a4 _ b7) (asK [] Z) Z (H':=V3 ..) Z ?_
 rintro _ _ _ ⟨rfl,rfl,rfl⟩
 refine wP Z (wP Z ?_)
 refine QG (d:=17) (S':=V6 ..) Z Z (fun aQ=>?_) (fun aQ=>?_)
 replace hm:=QI hm aQ
 refine wO Z (wO Z (wO Z (wP Z (wP Z (wO Z (wO Z (wO Z (wP Z (wP Z (wO Z (wO Z (wO Z (wO Z ?_)))))))))))))
 refine wP Z (wP Z (wO Z (wO Z (wO Z (wO Z (wP Z (Q4 ?_)))))))
 have hE:=(Zi hm).symm
 refine Qh true hE [3,2,38] Z (asK [2,3,0,1] Z) Z
 replace hm:=QH hm aQ
 refine wF Z tF_52_1 (wD 0 1 Z Q1m Q1H Z (wP Z (wP Z (wP Z ?_))))
 refine QG (d:=22) (S':=V11 ..) Z Z (fun aR=>?_) (fun aR=>?_)
 replace hm:=QI hm aR
 refine wO Z (wO Z (wO Z (wP Z (wP Z (wO Z (wO Z (wO Z (wO Z (wP Z (wP Z (wO Z (wO Z (wO Z ?_)))))))))))))
 refine wO Z (wP Z (Q4 ?_))
 have hE:=(Zi hm).symm
 refine Qh true hE [3,2,38] Z (asK [2,3,0,1] Z) Z
 replace hm:=QH hm aR
 refine wF Z tF_52_1 (wD 0 1 Z Q1m Q1H Z (wP Z (wP Z (wP Z ?_))))
 refine QG (d:=27) (S':=V16 ..) Z Z (fun aS=>?_) (fun aS=>?_)
 replace hm:=QI hm aS
 refine wO Z (wO Z (wO Z (wO Z (wP Z (wP Z (wO Z (wO Z (wO Z (wO Z (wP Z (Q4 ?_)))))))))))
 have hE:=(Zi hm).symm
 refine Qh true hE [3,2,38] Z (asK [2,3,0,1] Z) Z
 replace hm:=QH hm aS
 refine wF Z Q7o (wD 0 3 Z QaI tA_49 Z (wN Z Q9j (wP Z (Qs (d:=31) (v':=.bool (decide (8 < l7.length))) (S':=V20 ..) Z Z (natgt (a:=l7.length) (b:=8)) (wP Z (wP Z ?_))))))
 refine QG (d:=33) (S':=V22 ..) Z Z (fun aT=>?_) (fun aT=>?_)
 replace hm:=QI hm aT
 refine wO Z (wO Z (wO Z (wO Z (wP Z (Q4 ?_)))))
 have hE:=(Zi hm).symm
 refine Qh true hE [3,2,38] Z (asK [2,3,0,1] Z) Z
 replace hm:=QH hm aT
 refine wF Z Q9R (wD 0 4 Z tS_50 tA_50 Z (wN Z tE_50 (wP Z (Qs (d:=37) (v':=.bool (decide (8 < l8.length))) (S':=V26 ..) Z Z (natgt (a:=l8.length) (b:=8)) (wP Z (Q4 ?_))))))
 have hE:=(Zi hm).symm
 refine Qh (decide (8 < l8.length)) hE [3,2,38] Z (asK [2,3,0,1] Z) Z
 rintro a9 hE
 try dsimp only
 have hm:=hLj_1
 try rw [hE] at hm
 refine Qt Z (fun aU=>?_) (fun aU=>?_)
 replace hm:=QI hm aU
 refine Q2 [] (S':=[]) Z (Q5 (Q1 (wP Z (Q4 (Q3 (Qo (Q9 ?_)))))))
 have hE:=(Zi hm).symm
 obtain ⟨hE0,hF1⟩:=Prod.mk.inj hE
 obtain ⟨hE1,hE2⟩:=Prod.mk.inj hF1
 clear hE hF1
 replace hE0:=hE0.symm
 subst hE0
 replace hE1:=hE1.symm
 subst hE1
 replace hE2:=hE2.symm
 subst hE2
 refine Qp (Hr:=[_]) [2] Tryz.results61 (Qg Z) ⟨Z,Z,Z⟩ (asK [2,3] Z) Z Z (.inl Z)
 replace hm:=QH hm aU
 refine Q2 [3,2] (S':=[_,_]) Z (Qr (Q3 (Q5 ?_)))
 obtain ⟨aZ,hm,hLj_2⟩:=Q1o hm
 refine QM (σ:=Int × Int) (fun (a1,a7)=>aZ = .inl (a1,a7)) (fun (a1,a7)=>[(3,.pointer (some ⟨g3,0,none⟩)),(2,.pointer (some ⟨g2,0,none⟩))]) (fun (a1,a7)=>[.sli 10 QR aG aH l7,.sli 4 QZ aI aJ l8,.sli 2 Qb aA aB l0,.sli 5 Qa aC aD l1]) (fun (a1,a7)=>[.blk g3 [.string a4,.int .i64 a5,.int .i64 a6,.slice aG l7.length aH,.slice aI l8.length aJ] 52,.blk g2 [.pointer (some ⟨aE,0,none⟩)] 120,.blk aE [.slice aA l0.length aB,.slice aC l1.length aD,.int .i64 a1,.int .i64 a7] 124]) ?_ ?_
 refine Q5 (Q1 (wF Z Q7o (wD 0 3 Z QaI tA_49 Z (wN Z Q9j (wP Z (Q4 (Q3 (Q2 [42,41,40,3,2] (S':=V5 ..) Z (Qw (Q1j (σ:=Nat × Nat × Int × Int) (fun (aL,a8,z,a0)=>Q1h (Q2J N l7 l0 l1) aL (a8,z,a0) = some aZ) (fun (aL,a8,z,a0)=>aL) (fun (aL,a8,z,a0)=>[(42,.int .i64 ((a8:Nat):Int)),(41,.int .i64 ((l7.length:Nat):Int)),(40,.slice aG l7.length aH),(3,.pointer (some ⟨g3,0,none⟩)),(2,.pointer (some ⟨g2,0,none⟩))]) (fun (aL,a8,z,a0)=>[.sli 10 QR aG aH l7,.sli 4 QZ aI aJ l8,.sli 2 Qb aA aB l0,.sli 5 Qa aC aD l1]) (fun (aL,a8,z,a0)=>[.blk g3 [.string a4,.int .i64 a5,.int .i64 a6,.slice aG l7.length aH,.slice aI l8.length aJ] 52,.blk g2 [.pointer (some ⟨aE,0,none⟩)] 120,.blk aE [.slice aA l0.length aB,.slice aC l1.length aD,.int .i64 z,.int .i64 a0] 124]) (N,0,0,0) hm [42,41,40,3,2] Z (asK [0,1,2,3] Z) Z (fun s_ hm=>?_)))))))))))
 obtain ⟨aL,a8,z,a0⟩:=s_
 try dsimp only at hm ⊢
 obtain ⟨bL,bM,b8,hq,hLu1⟩:=QV hm
 clear hm
 subst b8
 replace hm:=hq
 clear hq
 unfold Q2J at hm
 try dsimp only at hm
 refine Q5 (Q1 (wP Z (Qs (d:=43) (v':=.bool (decide (a8 < l7.length))) (S':=V5 ..) Z Z (Q2l (a:=a8) (b:=l7.length)) (Q4 (Q3 (Q5 ?_))))))
 refine Qt Z (fun aV=>?_) (fun aV=>?_)
 replace hm:=QI hm aV
 refine Q2 [42,41,40,3,2] (S':=V5 ..) Z (Qr (Q3 (Q5 (Qw (Q5 (Q1 ?_))))))
 obtain ⟨aF,b9,hm⟩:=Q6 hm
 refine Q1a 0 a8 Z Z Z Zq Z Z Z Z Z b9 Q9j Q6E (fun bN bO bJ bE=>(Q1G Q3C 1 Z (fun aY bA _=>?_)))
 subst bA
 refine Q1F 2 0 Z Z Z Zq Z Z Z (cs:=V10 ..) Z Q6E tA_67 Z Z (QK Z Z Z Zq Z tZ_67 Z (fun g6=>(wS 0 0 Z Q6E (all':=V10 ..) Z (H':=V4 ..) Z (Q4 (Q3 (Q2 [6,42,41,40,3,2] (S':=V6 ..) Z (Q5 (Q1 (wD 2 0 Z Qah Qab Z (QO 0 0 Z Z Z Zq Z Z Z (cs:=V10 ..) Z Q6E tA_67 Z Z ?_))))))))))
 obtain ⟨⟨bF,b1,b2⟩,bB,hm⟩:=Q6 hm
 try dsimp only at hm
 refine wC [3] [0,1,2] Z fn_102 Z (Qcq N aE aA aB l0 aC aD l1 z a0 aF.kind aF.type aY.1.1 aY.1.2 aF.args aF.test.kind aF.test.value.k aF.test.value.n aF.test.value.s aF.test.var aF.test.op aY.2.1 aY.2.2 aF.test.kids _ _ _ bB) (asK [6,7,0,1] Z) Z (H':=V3 ..) Z ?_
 rintro _ _ _ ⟨rfl,rfl,rfl⟩
 refine wP Z (Q4 (Q3 (Q2 [49,42,41,40,3,2] (S':=V6 ..) Z ?_)))
 refine Qt Z (fun aW=>?_) (fun aW=>?_)
 replace hm:=QI hm aW
 refine Q2 [] (S':=[]) Z (Q5 (Q1 (wP Z (Q4 (Q3 (Qo (Qk (Q9 (Q9 (Qk (Q9 ?_)))))))))))
 have hE:=(Zi hm).symm
 replace hE:=Qx hLu1 hE
 replace hE:=Qx hLj_2 hE
 obtain ⟨hE0,hF1⟩:=Prod.mk.inj hE
 obtain ⟨hE1,hE2⟩:=Prod.mk.inj hF1
 clear hE hF1
 replace hE0:=hE0.symm
 subst hE0
 replace hE1:=hE1.symm
 subst hE1
 replace hE2:=hE2.symm
 subst hE2
 refine Qp (Hr:=[_]) [0] Tryz.results61 (Qg Z) ⟨Z,Z,Z⟩ (asK [0,1] Z) Z Z (.inl Z)
 replace hm:=QH hm aW
 refine Q2 [42,41,40,3,2] (S':=V5 ..) Z (Qr (Qf (Q3 (Q1 (wP Z ?_)))))
 obtain ⟨bC,hm⟩:=Qd hm
 refine Qs (d:=50) (v':=.int .i64 ((a8 + 1:Nat):Int)) (S':=V5 ..) Z Z (Q1r (a:=a8) (b:=1) bC) (QT (S':=V5 ..) Z Z Z Z Z (Q4 ?_))
 have hE:=(Zi hm).symm
 replace hE:=QF hLu1 hE
 refine QE [2,3,0] Z (H':=V3 ..) Z ?_
 refine QU (_,a8 + 1,b1,b2) (Nat.lt_succ_self _) hE [42,41,40,3,2] Z (asK [6,7,0,1] Z) Z
 replace hm:=QH hm aV
 refine Q2 [3,2] (S':=[_,_]) Z (Q1g (Qj (Qj (QD ?_))))
 have hE:=(Zi hm).symm
 replace hE:=Qx hLu1 hE
 refine Qh (z,a0) hE [3,2] Z (asK [0,1,2,3] Z) Z
 rintro ⟨a1,a7⟩ hE
 try dsimp only
 have hm:=QF hLj_2 hE
 try dsimp only at hm
 refine Q5 ?_
 rcases Q1E hm with ⟨aO,hm⟩ | ⟨aO,hm⟩
 rcases Q1E hm with ⟨aX,hm⟩ | ⟨aX,hm⟩
 obtain ⟨bP,bD,hm⟩:=Q6 hm
 refine QW [0,1,2,3,4,5,6,7,8,9,10,11,12,13,14,15,16,19,20] Z Z (fun hok=>(Q8 hok 0 Z Z Z Zq Z Z Z QbE (Qn hok 1 0 2 Z Z Z Zq Z Z Z Z (cs:=[_]) Z Q1m Q1H Z Z (Qn hok 2 1 0 Z Z Z Zq Z Z Z Z (cs:=[_]) Z Qah Qab Z Z (xP hok 3 Z (Q8 hok 4 Z Z Z Zq Z Z Z Q6x (Qn hok 5 2 2 Z Z Z Zq Z Z Z Z (cs:=[_]) Z Q1m Q1H Z Z (xP hok 6 Z (xP hok 7 Z (Q1z (d:=58) (v':=.bool true) (S':=V9 ..) Z Z (Qy aO) (Qn hok 8 1 0 Z Z Z Zq Z Z Z Z (cs:=[_]) Z Qah Qab Z Z (xP hok 9 Z (Q8 hok 10 Z Z Z Zq Z Z Z Q6x (Qn hok 11 2 2 Z Z Z Zq Z Z Z Z (cs:=[_]) Z Q1m Q1H Z Z ?_))))))))))))))
 refine xP hok 12 Z (xP hok 13 Z (xP hok 14 Z (Q1z (d:=65) (v':=.bool true) (S':=V16 ..) Z Z (Qy aX) (Q8 hok 15 Z Z Z Zq Z Z Z Q9R (Qn hok 16 0 4 Z Z Z Zq Z Z Z Z (cs:=[_]) Z tS_50 tA_50 Z Z (xS hok 17 Z (Q2o Z Z Z Zq Z Z (Q4 (QJ [0,1,2,3] [0,2,1,2,1,0] Z Z (xS hok 18 Z (wC [1,2] [0] Z fn_103 Z (Q9W N aI aJ l8 g2 aE aA aB l0 aC aD l1 a1 a7 _ bD) (asK [1,2,3] Z) Z (H':=[_]) Z ?_)))))))))))
 rintro _ _ _ ⟨rfl,rfl,rfl⟩
 refine Q4 (QJ [2,3,4,5] [1,0,1,0,2] Z Z (xP hok 19 Z (xP hok 20 Z (xS hok 21 Z (wP Z (Q4 (QJ [0,1,2,3,4,5] [] Z Z (QS hok Z (Q3 (Q2 [4] (S':=[_]) Z (Qo ?_)))))))))))
 have hE:=(Zi hm).symm
 obtain ⟨hE0,hF1⟩:=Prod.mk.inj hE
 obtain ⟨hE1,hE2⟩:=Prod.mk.inj hF1
 clear hE hF1
 replace hE0:=hE0.symm
 subst hE0
 replace hE1:=hE1.symm
 subst hE1
 replace hE2:=hE2.symm
 subst hE2
 refine Qp (Hr:=[_]) [1] Tryz.results61 (Qg Z) ⟨Z,Z,Z⟩ (asK [0,1] Z) Z Z (.inl Z)
 refine QW [0,1,2,3,4,5,6,7,8,9,10,11,12,13,14,15,16,19,20] Z Z (fun hok=>(Q8 hok 0 Z Z Z Zq Z Z Z QbE (Qn hok 1 0 2 Z Z Z Zq Z Z Z Z (cs:=[_]) Z Q1m Q1H Z Z (Qn hok 2 1 0 Z Z Z Zq Z Z Z Z (cs:=[_]) Z Qah Qab Z Z (xP hok 3 Z (Q8 hok 4 Z Z Z Zq Z Z Z Q6x (Qn hok 5 2 2 Z Z Z Zq Z Z Z Z (cs:=[_]) Z Q1m Q1H Z Z (xP hok 6 Z (xP hok 7 Z (Q1z (d:=58) (v':=.bool true) (S':=V9 ..) Z Z (Qy aO) (Qn hok 8 1 0 Z Z Z Zq Z Z Z Z (cs:=[_]) Z Qah Qab Z Z (xP hok 9 Z (Q8 hok 10 Z Z Z Zq Z Z Z Q6x (Qn hok 11 2 2 Z Z Z Zq Z Z Z Z (cs:=[_]) Z Q1m Q1H Z Z ?_))))))))))))))
 refine xP hok 12 Z (xP hok 13 Z (xP hok 14 Z (Q1z (d:=65) (v':=.bool false) (S':=V16 ..) Z Z (Qy aX) (xO hok 15 Z (xO hok 16 Z (xS hok 17 Z (wO Z (Q4 (QJ [0,1,2,3] [2,1,2,1,0] Z Z (xS hok 18 Z (wO Z (Q4 (QJ [0,1,2,3] [2,1,2,1,0] Z Z ?_)))))))))))))
 refine xO hok 19 Z (xP hok 20 Z (xS hok 21 Z (wP Z (Q4 (QJ [0,1,2,3] [] Z Z (QS hok Z (Q3 (Q2 [4] (S':=[_]) Z (Qo ?_)))))))))
 have hE:=(Zi hm).symm
 obtain ⟨hE0,hF1⟩:=Prod.mk.inj hE
 obtain ⟨hE1,hE2⟩:=Prod.mk.inj hF1
 clear hE hF1
 replace hE0:=hE0.symm
 subst hE0
 replace hE1:=hE1.symm
 subst hE1
 replace hE2:=hE2.symm
 subst hE2
 refine Qp (Hr:=[_]) [2] Tryz.results61 (Qg Z) ⟨Z,Z,Z⟩ (asK [2,3] Z) Z Z (.inl Z)
 refine QW [0,1,2,3,4,5,6,7,8,9,10,11,12,13,14,15,16,19,20] Z Z (fun hok=>(Q8 hok 0 Z Z Z Zq Z Z Z QbE (Qn hok 1 0 2 Z Z Z Zq Z Z Z Z (cs:=[_]) Z Q1m Q1H Z Z (Qn hok 2 1 0 Z Z Z Zq Z Z Z Z (cs:=[_]) Z Qah Qab Z Z (xP hok 3 Z (Q8 hok 4 Z Z Z Zq Z Z Z Q6x (Qn hok 5 2 2 Z Z Z Zq Z Z Z Z (cs:=[_]) Z Q1m Q1H Z Z (xP hok 6 Z (xP hok 7 Z (Q1z (d:=58) (v':=.bool false) (S':=V9 ..) Z Z (Qy aO) (xO hok 8 Z (xO hok 9 Z (xO hok 10 Z (xO hok 11 Z ?_))))))))))))))
 refine xO hok 12 Z (xP hok 13 Z (xP hok 14 Z (xO hok 15 Z (xO hok 16 Z (xS hok 17 Z (wO Z (Q4 (QJ [0,1,2,3] [2,1,0] Z Z (xS hok 18 Z (wO Z (Q4 (QJ [0,1,2,3] [2,1,0] Z Z (xO hok 19 Z ?_)))))))))))))
 refine xP hok 20 Z (xS hok 21 Z (wP Z (Q4 (QJ [0,1,2,3] [] Z Z (QS hok Z (Q3 (Q2 [4] (S':=[_]) Z (Qo ?_))))))))
 have hE:=(Zi hm).symm
 obtain ⟨hE0,hF1⟩:=Prod.mk.inj hE
 obtain ⟨hE1,hE2⟩:=Prod.mk.inj hF1
 clear hE hF1
 replace hE0:=hE0.symm
 subst hE0
 replace hE1:=hE1.symm
 subst hE1
 replace hE2:=hE2.symm
 subst hE2
 refine Qp (Hr:=[_]) [2] Tryz.results61 (Qg Z) ⟨Z,Z,Z⟩ (asK [2,3] Z) Z Z (.inl Z)
theorem QbZ (N:Nat) (a7:OA) (a8:Nat) (l0:List Ql) (a9:OA) (aA:Nat) (l1:List Qi) (o0:Bool) (hm:Q75 N l0 l1 = some o0):Q17 Tryz.prog 30 [.agg #[.slice a7 l0.length a8,.slice a9 l1.length aA]] [.sli 2 Qb a7 a8 l0,.sli 5 Qa a9 aA l1] [] (fun v Φr Hr=>v = .bool o0 ∧ Φr = [] ∧ Hr = []):=by
 unfold Q75 at hm
 refine QC Tryz.func30 Z Tryz.ntmps30 Z (S:=[_]) Z (fun C=>(Q5 (Q1 (wB Z (fun g1=>(wP Z (Q4 (Q3 (Q2 [1] (S':=[_]) Z (Q5 (Q1 (QO 0 0 Z Z Z Zq Z Z Z (cs:=[_,_]) Z Q8M QaE Z Z (Q1v Z Z Z Zq Z tZ_122 tP_122 Z (out:=[_,_]) Z (Q1v Z Z Z Zq Z tZ_124 tP_124 Z (out:=V4 ..) Z (wB Z (fun aG=>?_))))))))))))))))
 refine wP Z (Q4 (Q3 (Q2 [3,1] (S':=[_,_]) Z (Q5 (Q5 ?_)))))
 obtain ⟨b4,hm,hLj_1⟩:=Q6 hm
 refine QM (σ:=Bool) (fun aC=>b4 = aC) (fun aC=>[(3,.pointer (some ⟨aG,0,none⟩)),(1,.pointer (some ⟨g1,0,none⟩)),(21,.bool aC)]) (fun aC=>[.sli 2 Qb a7 a8 l0,.sli 5 Qa a9 aA l1]) (fun aC=>[.blk aG [.slice a7 l0.length a8,.slice a9 l1.length aA,.int .i64 0,.int .i64 0] 124,.blk g1 [.slice a7 l0.length a8,.slice a9 l1.length aA] 25]) ?_ ?_
 refine Q1 (wF Z Q5W (wD 1 0 Z Q9m Q9L Z (wN Z Q8w (wP Z (Qs (d:=15) (v':=.bool (decide (32 < l0.length))) (S':=V5 ..) Z Z (natgt (a:=l0.length) (b:=32)) (wP Z ?_))))))
 refine QG (d:=16) (S':=V6 ..) Z Z (fun aN=>?_) (fun aN=>?_)
 replace hm:=QI hm aN
 refine wO Z (wO Z (wO Z (wO Z (wP Z (Q4 ?_)))))
 have hE:=(Zi hm).symm
 refine Qh true hE [3,1,21] Z (asK [0,1] Z) Z
 replace hm:=QH hm aN
 refine wF Z Q6Z (wD 1 1 Z Qai QaD Z (wN Z Q8x (wP Z (Qs (d:=20) (v':=.bool (decide (64 < l1.length))) (S':=V10 ..) Z Z (natgt (a:=l1.length) (b:=64)) (wP Z (Q4 ?_))))))
 have hE:=(Zi hm).symm
 refine Qh (decide (64 < l1.length)) hE [3,1,21] Z (asK [0,1] Z) Z
 rintro aC hE
 try dsimp only
 have hm:=hLj_1
 try rw [hE] at hm
 refine Qt Z (fun aO=>?_) (fun aO=>?_)
 replace hm:=QI hm aO
 refine Q2 [] (S':=[]) Z (Q5 (Q1 (wP Z (Q4 (Q3 (Qo (Q9 ?_)))))))
 have hE:=(Zi hm).symm
 replace hE:=hE.symm
 subst hE
 refine Qp (Hr:=[]) [] Tryz.results30 (Qg Z) ⟨Z,Z,Z⟩ (asK [] Z) Z Z (.inl Z)
 replace hm:=QH hm aO
 refine Q2 [3,1] (S':=[_,_]) Z (Qr (Q3 (Q5 ?_)))
 obtain ⟨aY,hm,hLj_2⟩:=Q1o hm
 refine QM (σ:=Unit) (fun _=>aY = .inl ()) (fun _=>[(3,.pointer (some ⟨aG,0,none⟩)),(1,.pointer (some ⟨g1,0,none⟩))]) (fun _=>[.sli 2 Qb a7 a8 l0,.sli 5 Qa a9 aA l1]) (fun _=>[.blk aG [.slice a7 l0.length a8,.slice a9 l1.length aA,.int .i64 0,.int .i64 0] 124,.blk g1 [.slice a7 l0.length a8,.slice a9 l1.length aA] 25]) ?_ ?_
 refine Q5 (Q1 (wF Z Q5W (wD 1 0 Z Q9m Q9L Z (wN Z Q8w (wP Z (Q4 (Q3 (Q2 [25,24,23,3,1] (S':=V5 ..) Z (Qw (Q1j (σ:=Nat × Nat) (fun (aI,a0)=>Q1h (Q58 N l0 l1) aI a0 = some aY) (fun (aI,a0)=>aI) (fun (aI,a0)=>[(25,.int .i64 ((a0:Nat):Int)),(24,.int .i64 ((l0.length:Nat):Int)),(23,.slice a7 l0.length a8),(3,.pointer (some ⟨aG,0,none⟩)),(1,.pointer (some ⟨g1,0,none⟩))]) (fun (aI,a0)=>[.sli 2 Qb a7 a8 l0,.sli 5 Qa a9 aA l1]) (fun (aI,a0)=>[.blk aG [.slice a7 l0.length a8,.slice a9 l1.length aA,.int .i64 0,.int .i64 0] 124,.blk g1 [.slice a7 l0.length a8,.slice a9 l1.length aA] 25]) (N,0) hm [25,24,23,3,1] Z (asK [0,1] Z) Z (fun s_ hm=>?_)))))))))))
 obtain ⟨aI,a0⟩:=s_
 try dsimp only at hm ⊢
 obtain ⟨bN,bO,b5,hq,hLu1⟩:=QV hm
 clear hm
 subst b5
 replace hm:=hq
 clear hq
 unfold Q58 at hm
 try dsimp only at hm
 refine Q5 (Q1 (wP Z (Qs (d:=26) (v':=.bool (decide (a0 < l0.length))) (S':=V5 ..) Z Z (Q2l (a:=a0) (b:=l0.length)) (Q4 (Q3 (Q5 ?_))))))
 refine Qt Z (fun aP=>?_) (fun aP=>?_)
 replace hm:=QI hm aP
 refine Q2 [25,24,23,3,1] (S':=V5 ..) Z (Qr (Q3 (Q5 (Qw (Q5 (Q1 (wP Z ?_)))))))
 obtain ⟨aQ,b6,hm⟩:=Q6 hm
 refine Q1a 0 a0 Z Z Z Zq Z Z Z Z Z b6 Q8w tS_69 (fun bP bQ bL bH=>(Q1G Q3E 1 Z (fun bR b7 _=>?_)))
 subst b7
 refine Q1F 0 0 Z Z Z Zq Z Z Z (cs:=[_,_]) Z tS_69 tA_69 Z Z (QK Z Z Z Zq Z tZ_69 Z (fun g5=>(wP Z (wS 0 0 Z tS_69 (all':=[_,_]) Z (H':=V3 ..) Z (Q4 (Q3 (Q2 [4,5,25,24,23,3,1] (S':=V7 ..) Z (Q5 ?_))))))))
 obtain ⟨b8,hm,hLj_3⟩:=Q6 hm
 unfold Q7I at hm
 refine QM (σ:=Bool) (fun aD=>b8 = aD) (fun aD=>[(25,.int .i64 ((a0:Nat):Int)),(24,.int .i64 ((l0.length:Nat):Int)),(23,.slice a7 l0.length a8),(3,.pointer (some ⟨aG,0,none⟩)),(1,.pointer (some ⟨g1,0,none⟩)),(53,.bool aD)]) (fun aD=>[.sli 2 Qb a7 a8 l0,.sli 5 Qa a9 aA l1]) (fun aD=>[.blk aG [.slice a7 l0.length a8,.slice a9 l1.length aA,.int .i64 0,.int .i64 0] 124,.blk g1 [.slice a7 l0.length a8,.slice a9 l1.length aA] 25]) ?_ ?_
 obtain ⟨bS,aL,hm⟩:=Q6 hm
 rcases Q1E hm with ⟨aH,hm⟩ | ⟨aH,hm⟩
 refine QW [0,1,3,4,5,6,7,8,9,10,11,12,13,14,15,16,17,18,19,21,22,23] Z Z (fun hok=>(Q8 hok 0 Z Z Z Zq Z Z Z QbH (Qn hok 1 0 0 Z Z Z Zq Z Z Z Z (cs:=[_]) Z Q2e Q3O Z Z (xS hok 2 Z (wC [] [0,1,2] Z fn_58 Z (Q73 N aQ.name _ aL) (asK [] Z) Z (H':=V3 ..) Z ?_)))))
 rintro _ _ _ ⟨rfl,rfl,rfl⟩
 refine Q4 (QJ [0,1,2,3] [] Z Z (xP hok 3 Z (xP hok 4 Z (Q1z (d:=34) (v':=.bool true) (S':=V11 ..) Z Z (Qy aH) (xO hok 5 Z (xO hok 6 Z (xO hok 7 Z (xP hok 8 Z (xP hok 9 Z (xO hok 10 Z (xO hok 11 Z (xO hok 12 Z (xP hok 13 Z ?_)))))))))))))
 refine xP hok 14 Z (xO hok 15 Z (xO hok 16 Z (xO hok 17 Z (xO hok 18 Z (xO hok 19 Z (xO hok 21 Z (xS hok 20 Z (wO Z (Q4 (QJ [0,1,2,3] [0] Z Z (xO hok 22 Z (xP hok 23 Z (QS hok Z ?_)))))))))))))
 have hE:=(Zi hm).symm
 refine QE [1,2] Z (H':=[_,_]) Z ?_
 refine Qh true hE [25,24,23,3,1,53] Z (asK [2,3] Z) Z
 rcases Q1E hm with ⟨aM,hm⟩ | ⟨aM,hm⟩
 refine QW [0,1,3,4,5,6,7,8,9,10,11,12,13,14,15,16,17,18,19,21,22,23] Z Z (fun hok=>(Q8 hok 0 Z Z Z Zq Z Z Z QbH (Qn hok 1 0 0 Z Z Z Zq Z Z Z Z (cs:=[_]) Z Q2e Q3O Z Z (xS hok 2 Z (wC [] [0,1,2] Z fn_58 Z (Q73 N aQ.name _ aL) (asK [] Z) Z (H':=V3 ..) Z ?_)))))
 rintro _ _ _ ⟨rfl,rfl,rfl⟩
 refine Q4 (QJ [0,1,2,3] [] Z Z (xP hok 3 Z (xP hok 4 Z (Q1z (d:=34) (v':=.bool false) (S':=V11 ..) Z Z (Qy aH) (Q8 hok 5 Z Z Z Zq Z Z Z Q9U (Qn hok 6 0 1 Z Z Z Zq Z Z Z Z (cs:=[_]) Z Q1m Q1H Z Z (xP hok 7 Z (xP hok 8 Z (xP hok 9 Z (Q1z (d:=39) (v':=.bool true) (S':=V16 ..) Z Z (Qy aM) (xO hok 10 Z (xO hok 11 Z (xO hok 12 Z ?_)))))))))))))
 refine xP hok 13 Z (xP hok 14 Z (xO hok 15 Z (xO hok 16 Z (xO hok 17 Z (xO hok 18 Z (xO hok 19 Z (xO hok 21 Z (xS hok 20 Z (wO Z (Q4 (QJ [0,1,2,3] [0,0] Z Z (xO hok 22 Z (xP hok 23 Z ?_)))))))))))))
 refine QS hok Z ?_
 have hE:=(Zi hm).symm
 refine QE [1,2] Z (H':=[_,_]) Z ?_
 refine Qh true hE [25,24,23,3,1,53] Z (asK [2,3] Z) Z
 rcases Q1E hm with ⟨aR,hm⟩ | ⟨aR,hm⟩
 refine QW [0,1,3,4,5,6,7,8,9,10,11,12,13,14,15,16,17,18,19,21,22,23] Z Z (fun hok=>(Q8 hok 0 Z Z Z Zq Z Z Z QbH (Qn hok 1 0 0 Z Z Z Zq Z Z Z Z (cs:=[_]) Z Q2e Q3O Z Z (xS hok 2 Z (wC [] [0,1,2] Z fn_58 Z (Q73 N aQ.name _ aL) (asK [] Z) Z (H':=V3 ..) Z ?_)))))
 rintro _ _ _ ⟨rfl,rfl,rfl⟩
 refine Q4 (QJ [0,1,2,3] [] Z Z (xP hok 3 Z (xP hok 4 Z (Q1z (d:=34) (v':=.bool false) (S':=V11 ..) Z Z (Qy aH) (Q8 hok 5 Z Z Z Zq Z Z Z Q9U (Qn hok 6 0 1 Z Z Z Zq Z Z Z Z (cs:=[_]) Z Q1m Q1H Z Z (xP hok 7 Z (xP hok 8 Z (xP hok 9 Z (Q1z (d:=39) (v':=.bool false) (S':=V16 ..) Z Z (Qy aM) (Q8 hok 10 Z Z Z Zq Z Z Z Q9U (Qn hok 11 0 1 Z Z Z Zq Z Z Z Z (cs:=[_]) Z Q1m Q1H Z Z (xP hok 12 Z ?_)))))))))))))
 refine xP hok 13 Z (xP hok 14 Z (Q1z (d:=44) (v':=.bool true) (S':=V21 ..) Z Z (Qy aR) (xO hok 15 Z (xO hok 16 Z (xO hok 17 Z (xO hok 18 Z (xO hok 19 Z (xO hok 21 Z (xS hok 20 Z (wO Z (Q4 (QJ [0,1,2,3] [0,0,0] Z Z (xO hok 22 Z ?_)))))))))))))
 refine xP hok 23 Z (QS hok Z ?_)
 have hE:=(Zi hm).symm
 refine QE [1,2] Z (H':=[_,_]) Z ?_
 refine Qh true hE [25,24,23,3,1,53] Z (asK [2,3] Z) Z
 obtain ⟨bI,b9,hm⟩:=Q6 hm
 refine QW [0,1,3,4,5,6,7,8,9,10,11,12,13,14,15,16,17,18,19,21,22,23] Z Z (fun hok=>(Q8 hok 0 Z Z Z Zq Z Z Z QbH (Qn hok 1 0 0 Z Z Z Zq Z Z Z Z (cs:=[_]) Z Q2e Q3O Z Z (xS hok 2 Z (wC [] [0,1,2] Z fn_58 Z (Q73 N aQ.name _ aL) (asK [] Z) Z (H':=V3 ..) Z ?_)))))
 rintro _ _ _ ⟨rfl,rfl,rfl⟩
 refine Q4 (QJ [0,1,2,3] [] Z Z (xP hok 3 Z (xP hok 4 Z (Q1z (d:=34) (v':=.bool false) (S':=V11 ..) Z Z (Qy aH) (Q8 hok 5 Z Z Z Zq Z Z Z Q9U (Qn hok 6 0 1 Z Z Z Zq Z Z Z Z (cs:=[_]) Z Q1m Q1H Z Z (xP hok 7 Z (xP hok 8 Z (xP hok 9 Z (Q1z (d:=39) (v':=.bool false) (S':=V16 ..) Z Z (Qy aM) (Q8 hok 10 Z Z Z Zq Z Z Z Q9U (Qn hok 11 0 1 Z Z Z Zq Z Z Z Z (cs:=[_]) Z Q1m Q1H Z Z (xP hok 12 Z ?_)))))))))))))
 refine xP hok 13 Z (xP hok 14 Z (Q1z (d:=44) (v':=.bool false) (S':=V21 ..) Z Z (Qy aR) (xP hok 15 Z (xP hok 16 Z (Q8 hok 17 Z Z Z Zq Z Z Z Qcd (Q8 hok 18 Z Z Z Zq Z Z Z QbH (Qn hok 19 0 0 Z Z Z Zq Z Z Z Z (cs:=[_]) Z Q2e Q3O Z Z (xP hok 21 Z (xS hok 20 Z (wC [1] [0,2] Z fn_59 Z (Qcf N aG a7 a8 l0 a9 aA l1 0 0 aQ.name _ b9) (asK [2,3] Z) Z (H':=[_,_]) Z ?_))))))))))
 rintro _ _ _ ⟨rfl,rfl,rfl⟩
 refine Q4 (QJ [2,3,4,5] [1,1,1] Z Z (xP hok 22 Z (xP hok 23 Z (QS hok Z ?_))))
 have hE:=(Zi hm).symm
 refine QE [0,2] Z (H':=[_,_]) Z ?_
 refine Qh (bI != ((a0:Nat):Int)) hE [25,24,23,3,1,53] Z (asK [0,1] Z) Z
 rintro aD hE
 try dsimp only
 have hm:=hLj_3
 try rw [hE] at hm
 refine Qt Z (fun aS=>?_) (fun aS=>?_)
 replace hm:=QI hm aS
 refine Q2 [] (S':=[]) Z (Q5 (Q1 (wP Z (Q4 (Q3 (Qo (Qk (Q9 (Q9 (Qk (Q9 ?_)))))))))))
 have hE:=(Zi hm).symm
 replace hE:=Qx hLu1 hE
 replace hE:=Qx hLj_2 hE
 replace hE:=hE.symm
 subst hE
 refine Qp (Hr:=[]) [] Tryz.results30 (Qg Z) ⟨Z,Z,Z⟩ (asK [] Z) Z Z (.inl Z)
 replace hm:=QH hm aS
 refine Q2 [25,24,23,3,1] (S':=V5 ..) Z (Qr (Qf (Q3 (Q1 (wP Z ?_)))))
 obtain ⟨bA,hm⟩:=Qd hm
 refine Qs (d:=54) (v':=.int .i64 ((a0 + 1:Nat):Int)) (S':=V5 ..) Z Z (Q1r (a:=a0) (b:=1) bA) (QT (S':=V5 ..) Z Z Z Z Z (Q4 ?_))
 have hE:=(Zi hm).symm
 replace hE:=QF hLu1 hE
 refine QU (_,a0 + 1) (Nat.lt_succ_self _) hE [25,24,23,3,1] Z (asK [0,1] Z) Z
 replace hm:=QH hm aP
 refine Q2 [3,1] (S':=[_,_]) Z (Q1g (Qj (Qj (QD ?_))))
 have hE:=(Zi hm).symm
 replace hE:=Qx hLu1 hE
 refine Qh () hE [3,1] Z (asK [0,1] Z) Z
 rintro _ hE
 try dsimp only
 have hm:=QF hLj_2 hE
 try dsimp only at hm
 refine Q5 ?_
 obtain ⟨aZ,hm,hLj_4⟩:=Q1o hm
 refine QM (σ:=Unit) (fun _=>aZ = .inl ()) (fun _=>[]) (fun _=>[]) (fun _=>[]) ?_ ?_
 refine Q5 (Q1 (wF Z Q6Z (wD 1 1 Z Qai QaD Z (wN Z Q8x (wP Z (Q4 (Q3 (Q2 [58,57,56,3] (S':=V4 ..) Z (Qw (Q7M [0] Z (H':=[_]) Z (Q1j (σ:=Nat × Nat × Int × Int) (fun (aJ,a1,s,z)=>Q1h (Q59 N l1 l0) aJ (a1,s,z) = some aZ) (fun (aJ,a1,s,z)=>aJ) (fun (aJ,a1,s,z)=>[(58,.int .i64 ((a1:Nat):Int)),(57,.int .i64 ((l1.length:Nat):Int)),(56,.slice a9 l1.length aA),(3,.pointer (some ⟨aG,0,none⟩))]) (fun (aJ,a1,s,z)=>[.sli 5 Qa a9 aA l1,.sli 2 Qb a7 a8 l0]) (fun (aJ,a1,s,z)=>[.blk aG [.slice a7 l0.length a8,.slice a9 l1.length aA,.int .i64 s,.int .i64 z] 124]) (N,0,0,0) hm [58,57,56,3] Z (asK [1,0] Z) Z (fun s_ hm=>?_))))))))))))
 obtain ⟨aJ,a1,s,z⟩:=s_
 try dsimp only at hm ⊢
 obtain ⟨bT,bU,bB,hq,hLu2⟩:=QV hm
 clear hm
 subst bB
 replace hm:=hq
 clear hq
 unfold Q59 at hm
 try dsimp only at hm
 refine Q5 (Q1 (wP Z (Qs (d:=59) (v':=.bool (decide (a1 < l1.length))) (S':=V4 ..) Z Z (Q2l (a:=a1) (b:=l1.length)) (Q4 (Q3 (Q5 ?_))))))
 refine Qt Z (fun aT=>?_) (fun aT=>?_)
 replace hm:=QI hm aT
 refine Q2 [58,57,56,3] (S':=V4 ..) Z (Qr (Q3 (Q5 (Qw (Q5 (Q1 (wP Z ?_)))))))
 obtain ⟨aK,bC,hm⟩:=Q6 hm
 refine Q1a 0 a1 Z Z Z Zq Z Z Z Z Z bC Q8x Q5X (fun bV bW bM bJ=>(Q1G Q3D 1 Z (fun aW bD _=>?_)))
 subst bD
 refine Q1F 2 0 Z Z Z Zq Z Z Z (cs:=V5 ..) Z Q5X tA_52 Z Z (QK Z Z Z Zq Z tZ_52 Z (fun g7=>(wP Z (wS 0 0 Z Q5X (all':=V5 ..) Z (H':=[_,_]) Z (Q4 (Q3 (Q2 [6,7,58,57,56,3] (S':=V6 ..) Z (Q5 ?_))))))))
 obtain ⟨bE,hm,hLj_5⟩:=Q6 hm
 refine QM (σ:=Int × Int × Bool) (fun (a5,a6,aE)=>bE = (a5,a6,aE)) (fun (a5,a6,aE)=>[(58,.int .i64 ((a1:Nat):Int)),(57,.int .i64 ((l1.length:Nat):Int)),(56,.slice a9 l1.length aA),(3,.pointer (some ⟨aG,0,none⟩)),(76,.bool aE)]) (fun (a5,a6,aE)=>[.sli 5 Qa a9 aA l1,.sli 2 Qb a7 a8 l0]) (fun (a5,a6,aE)=>[.blk aG [.slice a7 l0.length a8,.slice a9 l1.length aA,.int .i64 a5,.int .i64 a6] 124]) ?_ ?_
 obtain ⟨bX,b0,hm⟩:=Q6 hm
 rcases Q1E hm with ⟨aU,hm⟩ | ⟨aU,hm⟩
 refine QW [0,1,2,3,4,6,7,8,9,10,12,13] Z Z (fun hok=>(xP hok 0 Z (xP hok 1 Z (Q8 hok 2 Z Z Z Zq Z Z Z Qcd (Q8 hok 3 Z Z Z Zq Z Z Z tF_52_0 (Qn hok 4 0 0 Z Z Z Zq Z Z Z Z (cs:=[_]) Z Q2e Q3O Z Z (xP hok 6 Z (xS hok 5 Z (wC [1] [0] Z fn_60 Z (Q9o N aG a7 a8 l0 a9 aA l1 s z aK.name _ b0) (asK [5,4] Z) Z (H':=[_]) Z ?_)))))))))
 rintro _ _ _ ⟨rfl,rfl,rfl⟩
 refine Q4 (QJ [2,3,4,5,6,7] [] Z Z (xP hok 7 Z (xP hok 8 Z (Q1z (d:=71) (v':=.bool true) (S':=V14 ..) Z Z (Qy aU) (xO hok 9 Z (xO hok 10 Z (xS hok 11 Z (wO Z (Q4 (QJ [0,1,2,3,4,5,6,7] [1] Z Z (xO hok 12 Z (xP hok 13 Z (QS hok Z ?_)))))))))))))
 have hE:=(Zi hm).symm
 refine QE [0] Z (H':=[_]) Z ?_
 refine Qh (s,z,true) hE [58,57,56,3,76] Z (asK [1,0] Z) Z
 obtain ⟨⟨b1,b2,b3⟩,bF,hm⟩:=Q6 hm
 try dsimp only at hm
 refine QW [0,1,2,3,4,6,7,8,9,10,12,13] Z Z (fun hok=>(xP hok 0 Z (xP hok 1 Z (Q8 hok 2 Z Z Z Zq Z Z Z Qcd (Q8 hok 3 Z Z Z Zq Z Z Z tF_52_0 (Qn hok 4 0 0 Z Z Z Zq Z Z Z Z (cs:=[_]) Z Q2e Q3O Z Z (xP hok 6 Z (xS hok 5 Z (wC [1] [0] Z fn_60 Z (Q9o N aG a7 a8 l0 a9 aA l1 s z aK.name _ b0) (asK [5,4] Z) Z (H':=[_]) Z ?_)))))))))
 rintro _ _ _ ⟨rfl,rfl,rfl⟩
 refine Q4 (QJ [2,3,4,5,6,7] [] Z Z (xP hok 7 Z (xP hok 8 Z (Q1z (d:=71) (v':=.bool false) (S':=V14 ..) Z Z (Qy aU) (xP hok 9 Z (Qn hok 10 1 0 Z Z Z Zq Z Z Z Z (cs:=V5 ..) Z Q5X tA_52 Z Z (xS hok 11 Z (wC [0] [1] Z fn_61 Z (Qcg N aG a7 a8 l0 a9 aA l1 s z aK.name aK.salience aK.vars aW.1.1 aW.1.2 aK.conds aW.2.1 aW.2.2 aK.acts _ _ _ bF) (asK [0,1,2,3] Z) Z (H':=[_]) Z ?_))))))))
 rintro _ _ _ ⟨rfl,rfl,rfl⟩
 refine Q4 (QJ [2,3,4,5,6,7,8,9] [1] Z Z (xP hok 12 Z (xP hok 13 Z (QS hok Z ?_))))
 have hE:=(Zi hm).symm
 refine QE [0] Z (H':=[_]) Z ?_
 refine Qh (b2,b3,!b1) hE [58,57,56,3,76] Z (asK [1,0] Z) Z
 rintro ⟨a5,a6,aE⟩ hE
 try dsimp only
 have hm:=hLj_5
 try rw [hE] at hm
 try dsimp only at hm
 refine Qt Z (fun aV=>?_) (fun aV=>?_)
 replace hm:=QI hm aV
 refine Q2 [] (S':=[]) Z (Q5 (Q1 (wP Z (Q4 (Q3 (Qo (Qk (Q9 (Q9 (Qk (Q9 ?_)))))))))))
 have hE:=(Zi hm).symm
 replace hE:=Qx hLu2 hE
 replace hE:=Qx hLj_4 hE
 replace hE:=hE.symm
 subst hE
 refine Qp (Hr:=[]) [] Tryz.results30 (Qg Z) ⟨Z,Z,Z⟩ (asK [] Z) Z Z (.inl Z)
 replace hm:=QH hm aV
 refine Q2 [58,57,56,3] (S':=V4 ..) Z (Qr (Qf (Q3 (Q1 (wP Z ?_)))))
 obtain ⟨bG,hm⟩:=Qd hm
 refine Qs (d:=77) (v':=.int .i64 ((a1 + 1:Nat):Int)) (S':=V4 ..) Z Z (Q1r (a:=a1) (b:=1) bG) (QT (S':=V4 ..) Z Z Z Z Z (Q4 ?_))
 have hE:=(Zi hm).symm
 replace hE:=QF hLu2 hE
 refine QU (_,a1 + 1,a5,a6) (Nat.lt_succ_self _) hE [58,57,56,3] Z (asK [0,1] Z) Z
 replace hm:=QH hm aT
 refine Q2 [] (S':=[]) Z (Q1g (Qj (Qj (QD ?_))))
 have hE:=(Zi hm).symm
 replace hE:=Qx hLu2 hE
 refine QE [] Z (H':=[]) Z ?_
 refine Qh () hE [] Z (asK [] Z) Z
 rintro _ hE
 try dsimp only
 have hm:=QF hLj_4 hE
 try dsimp only at hm
 refine Q5 (Q1 (wP Z (Q4 (Q3 (Qo ?_)))))
 have hE:=(Zi hm).symm
 replace hE:=hE.symm
 subst hE
 refine Qp (Hr:=[]) [] Tryz.results30 (Qg Z) ⟨Z,Z,Z⟩ (asK [] Z) Z Z (.inl Z)
theorem w_naive_right_1_s (N:Nat) (a0:Int) (a1:Int) (a2:ByteArray) (o0:Bool) (hm:Q83 N a0 a1 a2 = some o0):Q17 Tryz.prog 63 [.agg #[.int .u8 a0,.int .i64 a1,.string a2]] [] [] (fun v Φr Hr=>v = .bool o0 ∧ Φr = [] ∧ Hr = []):=by
 unfold Q83 at hm
 refine QC Tryz.func63 Z Tryz.ntmps63 Z (S:=[_]) Z (fun C=>(Q5 (Q1 (wB Z (fun g1=>(wP Z (Q4 (Q3 (Q2 [1] (S':=[_]) Z (Q5 (Q1 (QO 0 0 Z Z Z Zq Z Z Z (cs:=V3 ..) Z Q1C Q2M Z Z ?_))))))))))))
 obtain ⟨v4,hc4,hm⟩:=Q6 hm
 refine wC [] [0] Z fn_64 Z (Q5E N a0 a1 a2 _ hc4) (asK [] Z) Z (H':=[_]) Z ?_
 rintro _ _ _ ⟨rfl,rfl,rfl⟩
 refine wP Z (wP Z (Q4 (Q3 (Q2 [2] (S':=[_]) Z (Qo ?_)))))
 have hE:=(Zi hm).symm
 replace hE:=hE.symm
 subst hE
 refine Qp (Hr:=[]) [] Tryz.results63 (Qg Z) ⟨Z,Z,Z⟩ (asK [] Z) Z Z (.inl Z)
theorem Qak (N:Nat) (a5:OA) (a6:Nat) (l0:List V) (o0:Int) (hm:Q4o N l0 = some o0):Q17 Tryz.prog 106 [.slice a5 l0.length a6,.func (.func 63) #[] #[]] [.sli 3 R_V a5 a6 l0] [] (fun v Φr Hr=>v = .int .i64 o0 ∧ Φr = [] ∧ Hr = []):=by
 unfold Q4o at hm
 refine QC Tryz.func106 Z Tryz.ntmps106 Z (S:=[_,_]) Z (fun C=>(Q5 (Q1 (wP Z (Q4 (Q3 (Q2 [0,1] (S':=[_,_]) Z (Q5 ?_))))))))
 obtain ⟨a8,hm,hLj_1⟩:=Q1o hm
 refine QM (σ:=Unit) (fun _=>a8 = .inl ()) (fun _=>[]) (fun _=>[]) (fun _=>[]) ?_ ?_
 refine Q5 (Q1 (wP Z (wN Z Q5r (wP Z (Q4 (Q3 (Q2 [8,7,0,1] (S':=V4 ..) Z (Qw (Q1j (σ:=Nat × Nat) (fun (a0,z)=>Q1h (Q2L N l0) a0 z = some a8) (fun (a0,z)=>a0) (fun (a0,z)=>[(8,.int .i64 ((z:Nat):Int)),(7,.int .i64 ((l0.length:Nat):Int)),(0,.slice a5 l0.length a6),(1,.func (.func 63) #[] #[])]) (fun (a0,z)=>[.sli 3 R_V a5 a6 l0]) (fun (a0,z)=>[]) (N,0) hm [8,7,0,1] Z (asK [0] Z) Z (fun s_ hm=>?_))))))))))
 obtain ⟨a0,z⟩:=s_
 try dsimp only at hm ⊢
 obtain ⟨aJ,aK,aB,hq,hLu1⟩:=QV hm
 clear hm
 subst aB
 replace hm:=hq
 clear hq
 unfold Q2L at hm
 try dsimp only at hm
 refine Q5 (Q1 (wP Z (Qs (d:=9) (v':=.bool (decide (z < l0.length))) (S':=V4 ..) Z Z (Q2l (a:=z) (b:=l0.length)) (Q4 (Q3 (Q5 ?_))))))
 refine Qt Z (fun a9=>?_) (fun a9=>?_)
 replace hm:=QI hm a9
 refine Q2 [8,7,0,1] (S':=V4 ..) Z (Qr (Q3 (Q5 (Qw (Q5 (Q1 (wP Z (wP Z (Q4 (Q3 (Q2 [5,8,7,0,1] (S':=V5 ..) Z (Q5 (Q1 ?_)))))))))))))
 refine wP Z (wP Z (wP Z ?_))
 obtain ⟨aA,aC,hm⟩:=Q6 hm
 refine Q1a 0 z Z Z Z Zq Z Z Z Z Z aC Q5r Q1C (fun aL aM aI aG=>(Q1G Q6f 1 Z (fun aN aD _=>?_)))
 subst aD
 refine Q1F 0 0 Z Z Z Zq Z Z Z (cs:=V3 ..) Z Q1C Q2M Z Z ?_
 obtain ⟨aO,aE,hm⟩:=Q6 hm
 refine Q1K [] [] Z Z Z Zq Z Z Z fn_63 Z Z (w_naive_right_1_s N aA.k aA.n aA.s _ aE) (asK [] Z) Z (H':=[]) Z ?_
 rintro _ _ _ ⟨rfl,rfl,rfl⟩
 refine Q4 (Q3 (Q2 [16,5,8,7,0,1] (S':=V6 ..) Z ?_))
 refine Qt Z (fun a1=>?_) (fun a1=>?_)
 replace hm:=QI hm a1
 refine Q2 [5] (S':=[_]) Z (Q5 (Q1 (wP Z (wP Z (Q4 (Q3 (Q2 [4] (S':=[_]) Z (Qo (Qk (Q9 (Q9 (Qk (Q9 ?_)))))))))))))
 have hE:=(Zi hm).symm
 replace hE:=Qx hLu1 hE
 replace hE:=Qx hLj_1 hE
 replace hE:=hE.symm
 subst hE
 refine Qp (Hr:=[]) [] Tryz.results106 (Qg Z) ⟨Z,Z,Z⟩ (asK [] Z) Z Z (.inl Z)
 replace hm:=QH hm a1
 refine Q2 [8,7,0,1] (S':=V4 ..) Z (Qr (Qf (Q3 (Q1 (wP Z ?_)))))
 obtain ⟨aF,hm⟩:=Qd hm
 refine Qs (d:=18) (v':=.int .i64 ((z + 1:Nat):Int)) (S':=V4 ..) Z Z (Q1r (a:=z) (b:=1) aF) (QT (S':=V4 ..) Z Z Z Z Z (Q4 ?_))
 have hE:=(Zi hm).symm
 replace hE:=QF hLu1 hE
 refine QU (_,z + 1) (Nat.lt_succ_self _) hE [8,7,0,1] Z (asK [2] Z) Z
 replace hm:=QH hm a9
 refine Q2 [] (S':=[]) Z (Q1g (Qj (Qj (QD ?_))))
 have hE:=(Zi hm).symm
 replace hE:=Qx hLu1 hE
 refine Qh () hE [] Z (asK [] Z) Z
 rintro _ hE
 try dsimp only
 have hm:=QF hLj_1 hE
 try dsimp only at hm
 refine Q5 (Q1 (wP Z (Q4 (Q3 (Qo ?_)))))
 have hE:=(Zi hm).symm
 replace hE:=hE.symm
 subst hE
 refine Qp (Hr:=[]) [] Tryz.results106 (Qg Z) ⟨Z,Z,Z⟩ (asK [] Z) Z Z (.inl Z)
theorem Q9w (N:Nat) (qp0:OA) (qc1:Nat) (l0:List V) (o0:Bool) (hm:Q3x N l0 = some o0):Q17 Tryz.prog 62 [.slice qp0 l0.length qc1,.func (.func 63) #[] #[]] [.sli 3 R_V qp0 qc1 l0] [] (fun v Φr Hr=>v = .bool o0 ∧ Φr = [] ∧ Hr = []):=by
 unfold Q3x at hm
 refine QC Tryz.func62 Z Tryz.ntmps62 Z (S:=[_,_]) Z (fun C=>(Q5 (Q1 (wP Z (Q4 (Q3 (Q2 [0,1] (S':=[_,_]) Z (Q5 (Q1 (wP Z (wP Z ?_)))))))))))
 obtain ⟨v7,hc7,hm⟩:=Q6 hm
 refine wC [] [] Z fn_106 Z (Qak N qp0 qc1 l0 _ hc7) (asK [0] Z) Z (H':=[]) Z ?_
 rintro _ _ _ ⟨rfl,rfl,rfl⟩
 refine wP Z (wP Z (Q4 (Q3 (Q2 [4] (S':=[_]) Z (Qo ?_)))))
 have hE:=(Zi hm).symm
 replace hE:=hE.symm
 subst hE
 refine Qp (Hr:=[]) [] Tryz.results62 (Qg Z) ⟨Z,Z,Z⟩ (asK [] Z) Z Z (.inl Z)
theorem Qc1 (N:Nat) (aA:OA) (aB:Nat) (l0:List Ql) (aC:OA) (aD:Nat) (l1:List Qi) (aE:OA) (aF:Nat) (l2:List Qz) (o0:Bool) (hm:Q77 N l0 l1 l2 = some o0):Q17 Tryz.prog 31 [.agg #[.slice aA l0.length aB,.slice aC l1.length aD],.slice aE l2.length aF] [.sli 2 Qb aA aB l0,.sli 5 Qa aC aD l1,.sli 3 QP aE aF l2] [] (fun v Φr Hr=>v = .bool o0 ∧ Φr = [] ∧ Hr = []):=by
 unfold Q77 at hm
 refine QC Tryz.func31 Z Tryz.ntmps31 Z (S:=[_,_]) Z (fun C=>(Q5 (Q1 (wB Z (fun g2=>(wP Z (Q4 (Q3 (Q2 [2,1] (S':=[_,_]) Z (Q5 (Q1 (wP Z (Q4 (Q3 (Q5 ?_)))))))))))))))
 obtain ⟨aN,hm,hLj_1⟩:=Q1o hm
 refine QM (σ:=Unit) (fun _=>aN = .inl ()) (fun _=>[]) (fun _=>[]) (fun _=>[]) ?_ ?_
 refine Q5 (Q1 (wP Z (wN Z Q2y (wP Z (Q4 (Q3 (Q2 [10,9,8,5,2] (S':=V5 ..) Z (Qw (Q1j (σ:=Nat × Nat × Int) (fun (a8,s,a0)=>Q1h (Q46 N l2 l0) a8 (s,a0) = some aN) (fun (a8,s,a0)=>a8) (fun (a8,s,a0)=>[(10,.int .i64 ((s:Nat):Int)),(9,.int .i64 ((l2.length:Nat):Int)),(8,.slice aE l2.length aF),(5,.int .i64 a0),(2,.pointer (some ⟨g2,0,none⟩))]) (fun (a8,s,a0)=>[.sli 3 QP aE aF l2,.sli 2 Qb aA aB l0,.sli 5 Qa aC aD l1]) (fun (a8,s,a0)=>[.blk g2 [.slice aA l0.length aB,.slice aC l1.length aD] 25]) (N,0,0) hm [10,9,8,5,2] Z (asK [2,0,1] Z) Z (fun s_ hm=>?_))))))))))
 obtain ⟨a8,s,a0⟩:=s_
 try dsimp only at hm ⊢
 obtain ⟨b8,b9,aS,hq,hLu1⟩:=QV hm
 clear hm
 subst aS
 replace hm:=hq
 clear hq
 unfold Q46 at hm
 try dsimp only at hm
 refine Q5 (Q1 (wP Z (Qs (d:=11) (v':=.bool (decide (s < l2.length))) (S':=V5 ..) Z Z (Q2l (a:=s) (b:=l2.length)) (Q4 (Q3 (Q5 ?_))))))
 refine Qt Z (fun aI=>?_) (fun aI=>?_)
 replace hm:=QI hm aI
 refine Q2 [10,9,8,5,2] (S':=V5 ..) Z (Qr (Q3 (Q5 (Qw (Q5 (Q1 ?_))))))
 obtain ⟨a6,aT,hm⟩:=Q6 hm
 refine Q1a 0 s Z Z Z Zq Z Z Z Z Z aT Q2y Q2N (fun bA bB b6 b0=>(Q1G Q3c 1 Z (fun aG aU _=>?_)))
 subst aU
 refine Q1F 1 0 Z Z Z Zq Z Z Z (cs:=V3 ..) Z Q2N tA_71 Z Z (QK Z Z Z Zq Z Q9N Z (fun g7=>(wS 0 0 Z Q2N (all':=V3 ..) Z (H':=[_,_]) Z (Q4 (Q3 (Q2 [7,10,9,8,5,2] (S':=V6 ..) Z (Q5 (Q5 ?_))))))))
 obtain ⟨aV,hm,hLj_2⟩:=Q6 hm
 unfold Q7K at hm
 refine QM (σ:=Bool) (fun z=>aV = z) (fun z=>[(7,.pointer (some ⟨g7,0,none⟩)),(10,.int .i64 ((s:Nat):Int)),(9,.int .i64 ((l2.length:Nat):Int)),(8,.slice aE l2.length aF),(2,.pointer (some ⟨g2,0,none⟩)),(53,.bool z)]) (fun z=>[.sli 3 R_V aG.1 aG.2 a6.args,.sli 3 QP aE aF l2,.sli 2 Qb aA aB l0,.sli 5 Qa aC aD l1]) (fun z=>[.blk g7 [.int .i64 (a6.id),.int .i64 (a6.ty),.slice aG.1 a6.args.length aG.2] 71,.blk g2 [.slice aA l0.length aB,.slice aC l1.length aD] 25]) ?_ ?_
 rcases Q1E hm with ⟨a1,hm⟩ | ⟨a1,hm⟩
 refine QW [0,1,2,3,4,5,6,7,8,9,10,11,12,13,14,15,16,17,18,19,20,21,22,23,24,25,26,27,28,29,30,31,32,33,34,35,36,37,39] Z Z (fun hok=>(Q8 hok 0 Z Z Z Zq Z Z Z Q6d (Qn hok 1 0 0 Z Z Z Zq Z Z Z Z (cs:=[_]) Z Q1m Q1H Z Z (xP hok 2 Z (xP hok 3 Z (xP hok 4 Z (Q1z (d:=18) (v':=.bool true) (S':=V10 ..) Z Z (Qy a1) (xO hok 5 Z (xO hok 6 Z (xO hok 7 Z (xP hok 8 Z (xP hok 9 Z (xO hok 10 Z (xO hok 11 Z ?_))))))))))))))
 refine xO hok 12 Z (xP hok 13 Z (xP hok 14 Z (xO hok 15 Z (xO hok 16 Z (xO hok 17 Z (xO hok 18 Z (xO hok 19 Z (xO hok 20 Z (xP hok 21 Z (xP hok 22 Z (xO hok 23 Z (xO hok 24 Z (xO hok 25 Z ?_)))))))))))))
 refine xO hok 26 Z (xO hok 27 Z (xO hok 28 Z (xO hok 29 Z (xO hok 30 Z (xO hok 31 Z (xO hok 32 Z (xO hok 33 Z (xP hok 34 Z (xP hok 35 Z (xO hok 36 Z (xO hok 37 Z (xS hok 38 Z (wO Z ?_)))))))))))))
 refine Q4 (QJ [0,1,2,3,4,5] [0] Z Z (xP hok 39 Z (QS hok Z ?_)))
 have hE:=(Zi hm).symm
 refine Qh true hE [7,10,9,8,2,53] Z (asK [0,3,4,5] Z) Z
 rcases Q1E hm with ⟨a5,hm⟩ | ⟨a5,hm⟩
 refine QW [0,1,2,3,4,5,6,7,8,9,10,11,12,13,14,15,16,17,18,19,20,21,22,23,24,25,26,27,28,29,30,31,32,33,34,35,36,37,39] Z Z (fun hok=>(Q8 hok 0 Z Z Z Zq Z Z Z Q6d (Qn hok 1 0 0 Z Z Z Zq Z Z Z Z (cs:=[_]) Z Q1m Q1H Z Z (xP hok 2 Z (xP hok 3 Z (xP hok 4 Z (Q1z (d:=18) (v':=.bool false) (S':=V10 ..) Z Z (Qy a1) (Q8 hok 5 Z Z Z Zq Z Z Z Q6d (Qn hok 6 0 0 Z Z Z Zq Z Z Z Z (cs:=[_]) Z Q1m Q1H Z Z (xP hok 7 Z (xP hok 8 Z (xP hok 9 Z (Q1z (d:=23) (v':=.bool true) (S':=V15 ..) Z Z (Qy a5) (xO hok 10 Z ?_))))))))))))))
 refine xO hok 11 Z (xO hok 12 Z (xP hok 13 Z (xP hok 14 Z (xO hok 15 Z (xO hok 16 Z (xO hok 17 Z (xO hok 18 Z (xO hok 19 Z (xO hok 20 Z (xP hok 21 Z (xP hok 22 Z (xO hok 23 Z (xO hok 24 Z ?_)))))))))))))
 refine xO hok 25 Z (xO hok 26 Z (xO hok 27 Z (xO hok 28 Z (xO hok 29 Z (xO hok 30 Z (xO hok 31 Z (xO hok 32 Z (xO hok 33 Z (xP hok 34 Z (xP hok 35 Z (xO hok 36 Z (xO hok 37 Z (xS hok 38 Z ?_)))))))))))))
 refine wO Z (Q4 (QJ [0,1,2,3,4,5] [0,0] Z Z (xP hok 39 Z (QS hok Z ?_))))
 have hE:=(Zi hm).symm
 refine Qh true hE [7,10,9,8,2,53] Z (asK [0,3,4,5] Z) Z
 rcases Q1E hm with ⟨a7,hm⟩ | ⟨a7,hm⟩
 refine QW [0,1,2,3,4,5,6,7,8,9,10,11,12,13,14,15,16,17,18,19,20,21,22,23,24,25,26,27,28,29,30,31,32,33,34,35,36,37,39] Z Z (fun hok=>(Q8 hok 0 Z Z Z Zq Z Z Z Q6d (Qn hok 1 0 0 Z Z Z Zq Z Z Z Z (cs:=[_]) Z Q1m Q1H Z Z (xP hok 2 Z (xP hok 3 Z (xP hok 4 Z (Q1z (d:=18) (v':=.bool false) (S':=V10 ..) Z Z (Qy a1) (Q8 hok 5 Z Z Z Zq Z Z Z Q6d (Qn hok 6 0 0 Z Z Z Zq Z Z Z Z (cs:=[_]) Z Q1m Q1H Z Z (xP hok 7 Z (xP hok 8 Z (xP hok 9 Z (Q1z (d:=23) (v':=.bool false) (S':=V15 ..) Z Z (Qy a5) (Q8 hok 10 Z Z Z Zq Z Z Z Q98 ?_))))))))))))))
 refine Qn hok 11 0 1 Z Z Z Zq Z Z Z Z (cs:=[_]) Z Q1m Q1H Z Z (xP hok 12 Z (xP hok 13 Z (xP hok 14 Z (Q1z (d:=28) (v':=.bool true) (S':=V20 ..) Z Z (Qy a7) (xO hok 15 Z (xO hok 16 Z (xO hok 17 Z (xO hok 18 Z (xO hok 19 Z (xO hok 20 Z (xP hok 21 Z (xP hok 22 Z (xO hok 23 Z ?_)))))))))))))
 refine xO hok 24 Z (xO hok 25 Z (xO hok 26 Z (xO hok 27 Z (xO hok 28 Z (xO hok 29 Z (xO hok 30 Z (xO hok 31 Z (xO hok 32 Z (xO hok 33 Z (xP hok 34 Z (xP hok 35 Z (xO hok 36 Z (xO hok 37 Z ?_)))))))))))))
 refine xS hok 38 Z (wO Z (Q4 (QJ [0,1,2,3,4,5] [0,0,0] Z Z (xP hok 39 Z (QS hok Z ?_)))))
 have hE:=(Zi hm).symm
 refine Qh true hE [7,10,9,8,2,53] Z (asK [0,3,4,5] Z) Z
 rcases Q1E hm with ⟨a9,hm⟩ | ⟨a9,hm⟩
 refine QW [0,1,2,3,4,5,6,7,8,9,10,11,12,13,14,15,16,17,18,19,20,21,22,23,24,25,26,27,28,29,30,31,32,33,34,35,36,37,39] Z Z (fun hok=>(Q8 hok 0 Z Z Z Zq Z Z Z Q6d (Qn hok 1 0 0 Z Z Z Zq Z Z Z Z (cs:=[_]) Z Q1m Q1H Z Z (xP hok 2 Z (xP hok 3 Z (xP hok 4 Z (Q1z (d:=18) (v':=.bool false) (S':=V10 ..) Z Z (Qy a1) (Q8 hok 5 Z Z Z Zq Z Z Z Q6d (Qn hok 6 0 0 Z Z Z Zq Z Z Z Z (cs:=[_]) Z Q1m Q1H Z Z (xP hok 7 Z (xP hok 8 Z (xP hok 9 Z (Q1z (d:=23) (v':=.bool false) (S':=V15 ..) Z Z (Qy a5) (Q8 hok 10 Z Z Z Zq Z Z Z Q98 ?_))))))))))))))
 refine Qn hok 11 0 1 Z Z Z Zq Z Z Z Z (cs:=[_]) Z Q1m Q1H Z Z (xP hok 12 Z (xP hok 13 Z (xP hok 14 Z (Q1z (d:=28) (v':=.bool false) (S':=V20 ..) Z Z (Qy a7) (Q8 hok 15 Z Z Z Zq Z Z Z Q98 (Qn hok 16 0 1 Z Z Z Zq Z Z Z Z (cs:=[_]) Z Q1m Q1H Z Z (Q8 hok 17 Z Z Z Zq Z Z Z Q5W (Qn hok 18 1 0 Z Z Z Zq Z Z Z Z (cs:=[_]) Z Q9m Q9L Z Z (Q66 hok 19 Z Z Z Zq Z Z Z Q8w (xP hok 20 Z (xP hok 21 Z (xP hok 22 Z (Q1z (d:=36) (v':=.bool true) (S':=V28 ..) Z Z (Qy a9) ?_)))))))))))))
 refine xO hok 23 Z (xO hok 24 Z (xO hok 25 Z (xO hok 26 Z (xO hok 27 Z (xO hok 28 Z (xO hok 29 Z (xO hok 30 Z (xO hok 31 Z (xO hok 32 Z (xO hok 33 Z (xP hok 34 Z (xP hok 35 Z (xO hok 36 Z ?_)))))))))))))
 refine xO hok 37 Z (xS hok 38 Z (wO Z (Q4 (QJ [0,1,2,3,4,5] [1,0,0,0,0] Z Z (xP hok 39 Z (QS hok Z ?_))))))
 have hE:=(Zi hm).symm
 refine Qh true hE [7,10,9,8,2,53] Z (asK [0,3,4,5] Z) Z
 obtain ⟨aO,hm⟩:=Qd hm
 obtain ⟨bC,aP,hm⟩:=Q6 hm
 rcases Q1E hm with ⟨aJ,hm⟩ | ⟨aJ,hm⟩
 refine QW [0,1,2,3,4,5,6,7,8,9,10,11,12,13,14,15,16,17,18,19,20,21,22,23,24,25,26,27,28,29,30,31,32,33,34,35,36,37,39] Z Z (fun hok=>(Q8 hok 0 Z Z Z Zq Z Z Z Q6d (Qn hok 1 0 0 Z Z Z Zq Z Z Z Z (cs:=[_]) Z Q1m Q1H Z Z (xP hok 2 Z (xP hok 3 Z (xP hok 4 Z (Q1z (d:=18) (v':=.bool false) (S':=V10 ..) Z Z (Qy a1) (Q8 hok 5 Z Z Z Zq Z Z Z Q6d (Qn hok 6 0 0 Z Z Z Zq Z Z Z Z (cs:=[_]) Z Q1m Q1H Z Z (xP hok 7 Z (xP hok 8 Z (xP hok 9 Z (Q1z (d:=23) (v':=.bool false) (S':=V15 ..) Z Z (Qy a5) (Q8 hok 10 Z Z Z Zq Z Z Z Q98 ?_))))))))))))))
 refine Qn hok 11 0 1 Z Z Z Zq Z Z Z Z (cs:=[_]) Z Q1m Q1H Z Z (xP hok 12 Z (xP hok 13 Z (xP hok 14 Z (Q1z (d:=28) (v':=.bool false) (S':=V20 ..) Z Z (Qy a7) (Q8 hok 15 Z Z Z Zq Z Z Z Q98 (Qn hok 16 0 1 Z Z Z Zq Z Z Z Z (cs:=[_]) Z Q1m Q1H Z Z (Q8 hok 17 Z Z Z Zq Z Z Z Q5W (Qn hok 18 1 0 Z Z Z Zq Z Z Z Z (cs:=[_]) Z Q9m Q9L Z Z (Q66 hok 19 Z Z Z Zq Z Z Z Q8w (xP hok 20 Z (xP hok 21 Z (xP hok 22 Z (Q1z (d:=36) (v':=.bool false) (S':=V28 ..) Z Z (Qy a9) ?_)))))))))))))
 refine Q8 hok 23 Z Z Z Zq Z Z Z QaH (Qn hok 24 0 2 Z Z Z Zq Z Z Z Z (cs:=[_]) Z Q7p Q7n Z Z (Q66 hok 25 Z Z Z Zq Z Z Z Q5r (Q8 hok 26 Z Z Z Zq Z Z Z Q5W (Qn hok 27 1 0 Z Z Z Zq Z Z Z Z (cs:=[_]) Z Q9m Q9L Z Z (Q8 hok 28 Z Z Z Zq Z Z Z Q98 (Qn hok 29 0 1 Z Z Z Zq Z Z Z Z (cs:=[_]) Z Q1m Q1H Z Z (Q2P hok 30 4 a6.ty.toNat Z Z Z Zq Z Z Z Z Z (Q1d aO) aP Q8w tS_69 (fun b1 b2 aW aR=>(Q3s Q3E 1 Z (fun b3 aK _=>?_))))))))))
 subst aK
 refine Q8 hok 31 Z Z Z Zq Z Z Z Q9U (Q4N hok 32 0 1 Z Z Z Zq Z Z Z Z (cs:=[_]) Z Q1m Q1H Z Z (xP hok 33 Z (xP hok 34 Z (xP hok 35 Z (Q1z (d:=49) (v':=.bool true) (S':=V41 ..) Z Z (Qy aJ) (xO hok 36 Z (xO hok 37 Z (xS hok 38 Z (wO Z (Q4 (QJ [0,1,2,3,4,5,6,7] [0,1,0,1,0,0,0,0] Z Z (xP hok 39 Z (QS hok Z ?_)))))))))))))
 have hE:=(Zi hm).symm
 refine Qh true hE [7,10,9,8,2,53] Z (asK [2,5,6,7] Z) Z
 obtain ⟨b4,aX,hm⟩:=Q6 hm
 refine QW [0,1,2,3,4,5,6,7,8,9,10,11,12,13,14,15,16,17,18,19,20,21,22,23,24,25,26,27,28,29,30,31,32,33,34,35,36,37,39] Z Z (fun hok=>(Q8 hok 0 Z Z Z Zq Z Z Z Q6d (Qn hok 1 0 0 Z Z Z Zq Z Z Z Z (cs:=[_]) Z Q1m Q1H Z Z (xP hok 2 Z (xP hok 3 Z (xP hok 4 Z (Q1z (d:=18) (v':=.bool false) (S':=V10 ..) Z Z (Qy a1) (Q8 hok 5 Z Z Z Zq Z Z Z Q6d (Qn hok 6 0 0 Z Z Z Zq Z Z Z Z (cs:=[_]) Z Q1m Q1H Z Z (xP hok 7 Z (xP hok 8 Z (xP hok 9 Z (Q1z (d:=23) (v':=.bool false) (S':=V15 ..) Z Z (Qy a5) (Q8 hok 10 Z Z Z Zq Z Z Z Q98 ?_))))))))))))))
 refine Qn hok 11 0 1 Z Z Z Zq Z Z Z Z (cs:=[_]) Z Q1m Q1H Z Z (xP hok 12 Z (xP hok 13 Z (xP hok 14 Z (Q1z (d:=28) (v':=.bool false) (S':=V20 ..) Z Z (Qy a7) (Q8 hok 15 Z Z Z Zq Z Z Z Q98 (Qn hok 16 0 1 Z Z Z Zq Z Z Z Z (cs:=[_]) Z Q1m Q1H Z Z (Q8 hok 17 Z Z Z Zq Z Z Z Q5W (Qn hok 18 1 0 Z Z Z Zq Z Z Z Z (cs:=[_]) Z Q9m Q9L Z Z (Q66 hok 19 Z Z Z Zq Z Z Z Q8w (xP hok 20 Z (xP hok 21 Z (xP hok 22 Z (Q1z (d:=36) (v':=.bool false) (S':=V28 ..) Z Z (Qy a9) ?_)))))))))))))
 refine Q8 hok 23 Z Z Z Zq Z Z Z QaH (Qn hok 24 0 2 Z Z Z Zq Z Z Z Z (cs:=[_]) Z Q7p Q7n Z Z (Q66 hok 25 Z Z Z Zq Z Z Z Q5r (Q8 hok 26 Z Z Z Zq Z Z Z Q5W (Qn hok 27 1 0 Z Z Z Zq Z Z Z Z (cs:=[_]) Z Q9m Q9L Z Z (Q8 hok 28 Z Z Z Zq Z Z Z Q98 (Qn hok 29 0 1 Z Z Z Zq Z Z Z Z (cs:=[_]) Z Q1m Q1H Z Z (Q2P hok 30 4 a6.ty.toNat Z Z Z Zq Z Z Z Z Z (Q1d aO) aP Q8w tS_69 (fun b1 b2 aW aR=>(Q3s Q3E 1 Z (fun b3 aK _=>?_))))))))))
 subst aK
 refine Q8 hok 31 Z Z Z Zq Z Z Z Q9U (Q4N hok 32 0 1 Z Z Z Zq Z Z Z Z (cs:=[_]) Z Q1m Q1H Z Z (xP hok 33 Z (xP hok 34 Z (xP hok 35 Z (Q1z (d:=49) (v':=.bool false) (S':=V41 ..) Z Z (Qy aJ) (Q8 hok 36 Z Z Z Zq Z Z Z QaH (Qn hok 37 0 2 Z Z Z Zq Z Z Z Z (cs:=[_]) Z Q7p Q7n Z Z (xS hok 38 Z (wC [] [0,1] Z fn_62 Z (Q9w N aG.1 aG.2 a6.args _ aX) (asK [2] Z) Z (H':=[_,_]) Z ?_)))))))))
 rintro _ _ _ ⟨rfl,rfl,rfl⟩
 refine Q4 (QJ [0,1,2,3,4,5,6,7] [0,1,0,1,0,0,0,0] Z Z (xP hok 39 Z (QS hok Z ?_)))
 have hE:=(Zi hm).symm
 refine Qh b4 hE [7,10,9,8,2,53] Z (asK [2,5,6,7] Z) Z
 rintro z hE
 try dsimp only
 have hm:=hLj_2
 try rw [hE] at hm
 refine Qt Z (fun aL=>?_) (fun aL=>?_)
 replace hm:=QI hm aL
 refine Q2 [] (S':=[]) Z (Q5 (Q1 (wP Z (Q4 (Q3 (Qo (Q9 (Qk (Q9 (Q9 (Qk (Q9 ?_))))))))))))
 have hE:=(Zi hm).symm
 replace hE:=Qx hLu1 hE
 replace hE:=Qx hLj_1 hE
 replace hE:=hE.symm
 subst hE
 refine Qp (Hr:=[]) [] Tryz.results31 (Qg Z) ⟨Z,Z,Z⟩ (asK [] Z) Z Z (.inl Z)
 replace hm:=QH hm aL
 refine Q2 [7,10,9,8,2] (S':=V5 ..) Z (Qr (Q3 (Q1 (wF Z Q6d (wD 0 0 Z Q1m Q1H Z (wP Z (Q4 (Qf (Q3 (Q2 [5,10,9,8,2] (S':=V5 ..) Z (Q1 (wP Z ?_))))))))))))
 obtain ⟨aY,hm⟩:=Qd hm
 refine Qs (d:=56) (v':=.int .i64 ((s + 1:Nat):Int)) (S':=V5 ..) Z Z (Q1r (a:=s) (b:=1) aY) (QT (S':=V5 ..) Z Z Z Z Z (Q4 ?_))
 have hE:=(Zi hm).symm
 replace hE:=QF hLu1 hE
 refine QE [1] Z (H':=[_]) Z ?_
 refine QU (_,s + 1,a6.id) (Nat.lt_succ_self _) hE [10,9,8,5,2] Z (asK [1,2,3] Z) Z
 replace hm:=QH hm aI
 refine Q2 [] (S':=[]) Z (Q1g (Qj (Qj (QD ?_))))
 have hE:=(Zi hm).symm
 replace hE:=Qx hLu1 hE
 refine QE [] Z (H':=[]) Z ?_
 refine Qh () hE [] Z (asK [] Z) Z
 rintro _ hE
 try dsimp only
 have hm:=QF hLj_1 hE
 try dsimp only at hm
 refine Q5 (Q1 (wP Z (Q4 (Q3 (Qo ?_)))))
 have hE:=(Zi hm).symm
 replace hE:=hE.symm
 subst hE
 refine Qp (Hr:=[]) [] Tryz.results31 (Qg Z) ⟨Z,Z,Z⟩ (asK [] Z) Z Z (.inl Z)
theorem Q9B (N:Nat) (a0:Int) (o2:List Bool) (o6:List V) (hm:Q4j N a0 = some (o2,o6)):Q17 Tryz.prog 43 [.int .i64 a0] [] [] (fun v Φr Hr=>∃ (o0:OA) (o1:Nat) (o3:Nat) (o4:OA) (o5:Nat) (o7:Nat),v = .agg #[.slice o0 o3 o1,.slice o4 o7 o5] ∧ Φr = [] ∧ Hr = [.own 4 1 Q1n (.slice o0 o3 o1) o2,.own 57 3 R_V (.slice o4 o7 o5) o6]):=by
 unfold Q4j at hm
 refine QC Tryz.func43 Z Tryz.ntmps43 Z (S:=[_]) Z (fun C=>(Q5 (Q1 (QK Z Z Z Zq Z Q8z Z (fun g2=>(Q4 (Q3 (Q5 (Q5 ?_)))))))))
 obtain ⟨aE,hm,hLj_1⟩:=Q6 hm
 refine QM (σ:=Bool) (fun a1=>aE = a1) (fun a1=>[(0,.int .i64 a0),(2,.pointer (some ⟨g2,0,none⟩)),(8,.bool a1)]) (fun a1=>[]) (fun a1=>[.blk g2 [V1,V1] 100]) ?_ ?_
 refine Q1 (wP Z (wP Z (wP Z ?_)))
 refine QG (d:=5) (S':=V4 ..) Z Z (fun aA=>?_) (fun aA=>?_)
 replace hm:=QI hm aA
 refine wO Z (wO Z (wP Z (Q4 ?_)))
 have hE:=(Zi hm).symm
 refine Qh true hE [0,2,8] Z (asK [] Z) Z
 replace hm:=QH hm aA
 refine wP Z (wP Z (wP Z (Q4 ?_)))
 have hE:=(Zi hm).symm
 refine Qh (decide (a0 > 16)) hE [0,2,8] Z (asK [] Z) Z
 rintro a1 hE
 try dsimp only
 have hm:=hLj_1
 try rw [hE] at hm
 refine Qt Z (fun aB=>?_) (fun aB=>?_)
 replace hm:=QI hm aB
 refine Q2 [2] (S':=[_]) Z (Q5 (Q1 (Q1v Z Z Z Zq Z Q8z tP_100 Z (out:=[_,_]) Z (wS 0 0 Z Q2B (all':=[_,_]) Z (H':=[_]) Z (Q4 (Q3 (Q2 [2] (S':=[_]) Z (Qo (Q9 ?_)))))))))
 have hE:=(Zi hm).symm
 obtain ⟨hE0,hE1⟩:=Prod.mk.inj hE
 clear hE
 replace hE0:=hE0.symm
 subst hE0
 replace hE1:=hE1.symm
 subst hE1
 refine Q3r 4 1 Q1n (Q3r 57 3 R_V ?_)
 refine Qp (Hr:=[_,_]) [1,0] Tryz.results43 (Q1e 2 Z Z Q2B Q65 Z Z) ⟨none,0,0,none,0,0,Z,Z,Z⟩ (asK [] Z) Z Z (.inl Z)
 replace hm:=QH hm aB
 refine Q2 [0,2] (S':=[_,_]) Z (Qr (Q3 (Q5 ?_)))
 obtain ⟨a6,hm⟩:=Qd hm
 obtain ⟨a7,hm⟩:=Qd hm
 obtain ⟨a8,hm⟩:=Qd hm
 obtain ⟨a9,hm⟩:=Qd hm
 refine QM (σ:=OA × OA) (fun _=>True) (fun (s,z)=>[(2,.pointer (some ⟨g2,0,none⟩))]) (fun (s,z)=>[]) (fun (s,z)=>[.blk g2 [.slice s a0.toNat a0.toNat,.slice z a0.toNat a0.toNat] 100,.own 4 1 Q1n (.slice s a0.toNat a0.toNat) (List.replicate a0.toNat false),.own 57 3 R_V (.slice z a0.toNat a0.toNat) (List.replicate a0.toNat (⟨0,0,(⟨#[]⟩ : ByteArray)⟩ : V))]) ?_ ?_
 refine QW [0,2,4] Z Z (fun hok=>(xP hok 0 Z (xP hok 2 Z ?_)))
 refine Q34 hok 1 3 Z Z Z Z Z Z ?_ ?_
 refine Q9X (m:=a0.toNat) Q1n false Z Z Z Zq Z Z Z (Q1d a6) (Q1d a6) tE_98 tR_4 Z Z (fun _ _=>⟨(),Z,Qu⟩) (Nat.le_trans (Nat.mul_le_mul_left _ a7) (by decide)) (Nat.le_trans a7 (by decide)) (fun aC=>(Q4 (QJ [] [] Z Z (xS hok 3 Z (Q9X (m:=a0.toNat) R_V (⟨0,0,(⟨#[]⟩ : ByteArray)⟩ : V) Z Z Z Zq Z Z Z (Q1d a8) (Q1d a8) Q5r tR_57 Z Z (fun _ _=>⟨(),Z,Qu⟩) (Nat.le_trans (Nat.mul_le_mul_left _ a9) (by decide)) (Nat.le_trans a9 (by decide)) (fun aD=>(Q4 (QJ [] [] Z Z (Q9y hok 4 Z Z Z Zq Z Z Q8z tP_100 Z (out:=[_,_]) Z (xS hok 5 Z (wS 2 0 Z Q2B (all':=[_,_]) Z (H':=V3 ..) Z (Q4 (QJ [] [] Z Z (QS hok Z (QE [2,1,0] Z (H':=V3 ..) Z ?_)))))))))))))))
 refine Qh (some ⟨aC,0,none⟩,some ⟨aD,0,none⟩) trivial [2] Z (asK [] Z) Z
 refine Q9X (m:=a0.toNat) R_V (⟨0,0,(⟨#[]⟩ : ByteArray)⟩ : V) Z Z Z Zq Z Z Z (Q1d a8) (Q1d a8) Q5r tR_57 Z Z (fun _ _=>⟨(),Z,Qu⟩) (Nat.le_trans (Nat.mul_le_mul_left _ a9) (by decide)) (Nat.le_trans a9 (by decide)) (fun aD=>(Q4 (QJ [] [] Z Z (xS hok 1 Z (Q9X (m:=a0.toNat) Q1n false Z Z Z Zq Z Z Z (Q1d a6) (Q1d a6) tE_98 tR_4 Z Z (fun _ _=>⟨(),Z,Qu⟩) (Nat.le_trans (Nat.mul_le_mul_left _ a7) (by decide)) (Nat.le_trans a7 (by decide)) (fun aC=>(Q4 (QJ [] [] Z Z (Q9y hok 4 Z Z Z Zq Z Z Q8z tP_100 Z (out:=[_,_]) Z (xS hok 5 Z (wS 2 0 Z Q2B (all':=[_,_]) Z (H':=V3 ..) Z (Q4 (QJ [] [] Z Z (QS hok Z (QE [2,0,1] Z (H':=V3 ..) Z ?_)))))))))))))))
 refine Qh (some ⟨aC,0,none⟩,some ⟨aD,0,none⟩) trivial [2] Z (asK [] Z) Z
 rintro ⟨s,z⟩ _
 try dsimp only
 refine Qo ?_
 have hE:=(Zi hm).symm
 obtain ⟨hE0,hE1⟩:=Prod.mk.inj hE
 clear hE
 replace hE0:=hE0.symm
 subst hE0
 replace hE1:=hE1.symm
 subst hE1
 refine Qp (Hr:=[_,_]) [1,2] Tryz.results43 (Q1e 0 Z Z Q2B Q65 Z Z) ⟨s,a0.toNat,a0.toNat,z,a0.toNat,a0.toNat,Z,Z,Z⟩ (asK [] Z) Z Z (.inl Z)
theorem Clone67f_s (p:OA) (c:Nat) (l:List Int) (hb:l.length ≤ 17592186044416):Q17 Tryz.prog 67 [.slice p l.length c] [.sli 1 Q20 p c l] [] (fun v Φr Hr=>∃ p' c',v = .slice p' l.length c' ∧ Φr = [] ∧ Hr = [.own 3 1 Q20 v l]):=by
 refine QC Tryz.func67 Z Tryz.ntmps67 Z (S:=[_]) Z (fun C=>(wc_know (fun F w h=>sli_nil (h _ (Q12 (k:=0) Z))) (fun isnil=>(Q5 (Q1 (wP Z (Q4 (Q3 (Q5 (Q5 (Q1 (wP Z (wl_eqlNil Z Z Z Zq Z Z Z Q5V (Q4 (Q3 ?_)))))))))))))))
 refine Q2 [4,2,0] (S':=V3 ..) Z ?_
 refine Qt Z (fun h4=>?_) (fun h4=>?_)
 replace h4:=Qca h4
 obtain rfl:=isnil h4
 subst h4
 refine Q5b 3 1 Q20 (Q5 (Q1 (QT (S':=[_,_]) Z Z Z Z Z (Q4 (Q3 (Qo (Q9 (Qp (Hr:=[.own 3 1 Q20 (V1) []]) [0] Tryz.results67 (Qg Z) ?_ (asK [] Z) Z Z (.inl Z)))))))))
 exact ⟨none,0,Z,Z,Z⟩
 replace h4:=Qbt h4
 refine Qr (Q3 (Q5 (Q1 (QB Z Z Z Zq Z Q5V Q1m tZ_3 Z (zs:=[]) (by kernel_rfl) Z (out:=[]) Z (fun g5=>(wP Z (Q1Z (sz:=1) (m:=0) Q20 [] 0 Z (fun F w hφ=>Z) Z (by decide) (H':=[_]) Z (Q4M 0 0 Z Z Z Zq Z Z Z Z Z Q5V tR_3 Z Z (by simp; omega) (by simp; omega) (H2:=fun p7 c7=>[.own 3 1 Q20 (.slice p7 (l).length c7) l]) (fun _ _=>Z) (fun p7 c7=>(QT (S':=V5 ..) Z Z Z Z Z (Q4 (Q3 (Q2 [2,4,0] (S':=V3 ..) Z (Qo (Qp (Hr:=[.own 3 1 Q20 (.slice p7 (l).length c7) l]) [0] Tryz.results67 (Qg Z) ?_ (asK [] Z) Z Z (.inl Z))))))))))))))))
 exact ⟨_,_,Z,Z,Z⟩
theorem Clone68f_s (p:OA) (c:Nat) (l:List V) (hb:l.length ≤ 4398046511104):Q17 Tryz.prog 68 [.slice p l.length c] [.sli 3 R_V p c l] [] (fun v Φr Hr=>∃ p' c',v = .slice p' l.length c' ∧ Φr = [] ∧ Hr = [.own 57 3 R_V v l]):=by
 refine QC Tryz.func68 Z Tryz.ntmps68 Z (S:=[_]) Z (fun C=>(wc_know (fun F w h=>sli_nil (h _ (Q12 (k:=0) Z))) (fun isnil=>(Q5 (Q1 (wP Z (Q4 (Q3 (Q5 (Q5 (Q1 (wP Z (wl_eqlNil Z Z Z Zq Z Z Z Q5r (Q4 (Q3 ?_)))))))))))))))
 refine Q2 [4,2,0] (S':=V3 ..) Z ?_
 refine Qt Z (fun h4=>?_) (fun h4=>?_)
 replace h4:=Qca h4
 obtain rfl:=isnil h4
 subst h4
 refine Q5b 57 3 R_V (Q5 (Q1 (QT (S':=[_,_]) Z Z Z Z Z (Q4 (Q3 (Qo (Q9 (Qp (Hr:=[.own 57 3 R_V (V1) []]) [0] Tryz.results68 (Qg Z) ?_ (asK [] Z) Z Z (.inl Z)))))))))
 exact ⟨none,0,Z,Z,Z⟩
 replace h4:=Qbt h4
 refine Qr (Q3 (Q5 (Q1 (QB Z Z Z Zq Z Q5r Q1C Q3A Z (zs:=[]) (by kernel_rfl) Z (out:=[]) Z (fun g5=>(wP Z (Q1Z (sz:=3) (m:=0) R_V [] 0 Z (fun F w hφ=>Z) Z (by decide) (H':=[_]) Z (Q4M 0 0 Z Z Z Zq Z Z Z Z Z Q5r tR_57 Z Z (by simp; omega) (by simp; omega) (H2:=fun p7 c7=>[.own 57 3 R_V (.slice p7 (l).length c7) l]) (fun _ _=>Z) (fun p7 c7=>(QT (S':=V5 ..) Z Z Z Z Z (Q4 (Q3 (Q2 [2,4,0] (S':=V3 ..) Z (Qo (Qp (Hr:=[.own 57 3 R_V (.slice p7 (l).length c7) l]) [0] Tryz.results68 (Qg Z) ?_ (asK [] Z) Z Z (.inl Z))))))))))))))))
 exact ⟨_,_,Z,Z,Z⟩
theorem Qcy (N:Nat) (a0:Int) (s:OA) (aI:Nat) (z:Nat) (l1:List Int) (aB:OA) (aC:Nat) (aD:Nat) (l2:List V) (aE:Nat) (aJ:OA) (aK:Nat) (aL:Nat) (l3:List Qv)  (hm:Q7J N a0 l1 l2 l3 = some ()):Q17 Tryz.prog 33 [.agg #[.int .i64 a0,.slice s aI z],.slice aB aC aD,.pointer (some ⟨aE,0,none⟩)] [] [.own 3 1 Q20 (.slice s aI z) l1,.own 57 3 R_V (.slice aB aC aD) l2,.blk aE [.slice aJ aK aL] 31,Q21 QN 41 2 (.slice aJ aK aL) l3] (fun v Φr Hr=>∃ (o0:OA) (o1:Nat),v = .tuple #[] ∧ Φr = [] ∧ Hr = [.own 57 3 R_V (.slice aB aC aD) l2,.blk aE [.slice o0 ((l3 ++ [(⟨a0,l1⟩ : Qv)]).length) o1] 31,Q21 QN 41 2 (.slice o0 ((l3 ++ [(⟨a0,l1⟩ : Qv)]).length) o1) (l3 ++ [(⟨a0,l1⟩ : Qv)])]):=by
 unfold Q7J at hm
 refine QC Tryz.func33 Z Tryz.ntmps33 Z (S:=V3 ..) Z (fun C=>(Q5 (Q1 (wB Z (fun g3=>(Q4 (Q3 (Q2 [3,2] (S':=[_,_]) Z (Q1 (wD 3 0 Z tS_31 tA_31 Z (QO 0 0 Z Z Z Zq Z Z Z (cs:=[_,_]) Z Q8f tA_41 Z Z (QB Z Z Z Zq Z Q9i Q8f tZ_41 Z (zs:=[.int .i64 0,V1]) (by kernel_rfl) Z (out:=[_,_]) Z (fun g7=>(wl_treeLen 5 Z (fun aM _=>?_)))))))))))))))
 subst aM
 refine QQ 2 Z (fun aF _=>?_)
 subst aF
 refine wl_treeOut 5 Z (fun a6 a9=>?_)
 obtain ⟨aO,hm⟩:=Qd hm
 have a7:List.map (fun x:Qv × (OA × Nat)=>x.1) (a6 ++ [((⟨a0,l1⟩ : Qv),(s,z))]) = l3 ++ [(⟨a0,l1⟩ : Qv)]:=pair_app a9 (us:=[(⟨a0,l1⟩ : Qv)]) rfl
 have aA:a6.length + ([((⟨a0,l1⟩ : Qv),(s,z))] : List (Qv × (OA × Nat))).length ≤ 4398046511104:=by rw [pair_len a9]; exact aO
 refine Q2p (R:=QN.pair) ([((⟨a0,l1⟩ : Qv),(s,z))]) 6 1 Z Z Z Zq Z Z Z Z Z (fun F w hφ=>⟨[.int .i64 a0,.slice s l1.length z],[],Z,Z,Z,Z⟩) Q9i tR_41 Z Z (Nat.le_trans aA (by decide)) (Nat.le_trans (Nat.mul_le_mul_right _ aA) (by decide)) (H2:=fun p8 c8=>[_,_,_,_,_,_,.own 41 2 QN.pair (.slice p8 ((a6 ++ [((⟨a0,l1⟩ : Qv),(s,z))]).length) c8) (a6 ++ [((⟨a0,l1⟩ : Qv),(s,z))])]) (fun _ _=>Z) (fun p8 c8=>(Q3R 1 Z (H':=V6 ..) Z (Qs (d:=8) (v':=.slice p8 ((l3 ++ [(⟨a0,l1⟩ : Qv)]).length) c8) (S':=V5 ..) Z Z (by rw [pair_len a7]) (Qb0 5 (φ':=.own 41 2 QN.pair (.slice p8 ((l3 ++ [(⟨a0,l1⟩ : Qv)]).length) c8) (a6 ++ [((⟨a0,l1⟩ : Qv),(s,z))])) Z (by rw [pair_len a7]) (H':=V6 ..) Z (Q5y [2,0,1,3,4,5] Z (H':=V6 ..) Z (Q27 [Q4i QN (a6 ++ [((⟨a0,l1⟩ : Qv),(s,z))]) none,_,_,_,_] (fun _ h=>Q16.bagPush (T:=QN) (x:=(⟨a0,l1⟩ : Qv)) (r:=(s,z)) (zs:=a6) (H:=V5 ..) h 0 Z) (Q27 [_,_,_,Q21 QN 41 2 (.slice p8 ((l3 ++ [(⟨a0,l1⟩ : Qv)]).length) c8) (l3 ++ [(⟨a0,l1⟩ : Qv)])] (fun _ h=>h.treeIn 4 0 Z Z Z a7) (wS 2 0 Z tS_31 (all':=[_]) Z (H':=V4 ..) Z (Q4 ?_)))))))))
 have hE:=(Zi hm).symm
 refine Q6v (Hr:=V3 ..) [1,2,3] Tryz.results33 ⟨p8,c8,Z,Z,Z⟩ (asK [] Z) Z Z (.inr Z)
theorem Qc0 (N:Nat) (qp0:OA) (qc1:Nat) (l0:List Int) (qp2:OA) (qc3:Nat) (l1:List V) (qg4:Nat) (qg5:Nat) (qp6:OA) (qn7:Nat) (qc8:Nat) (l2:List Qv) (qg9:Nat) (a3:Int)  (hm:Q97 N l0 l1 l2 a3 = some ()):Q17 Tryz.prog 66 [.slice qp0 l0.length qc1,.slice qp2 l1.length qc3,.pointer (some ⟨qg4,0,none⟩),.pointer (some ⟨qg9,0,none⟩)] [.sli 1 Q20 qp0 qc1 l0,.sli 3 R_V qp2 qc3 l1] [.blk qg4 [.func (.func 33) #[] #[.pointer (some ⟨qg5,0,none⟩)]] 88,.blk qg5 [.slice qp6 qn7 qc8] 31,Q21 QN 41 2 (.slice qp6 qn7 qc8) l2,.blk qg9 [.int .i64 a3] 3] (fun v Φr Hr=>∃ (o0:OA) (o1:Nat),v = .tuple #[] ∧ Φr = [] ∧ Hr = [.blk qg4 [.func (.func 33) #[] #[.pointer (some ⟨qg5,0,none⟩)]] 88,.blk qg5 [.slice o0 ((l2 ++ [(⟨a3,l0⟩ : Qv)]).length) o1] 31,Q21 QN 41 2 (.slice o0 ((l2 ++ [(⟨a3,l0⟩ : Qv)]).length) o1) (l2 ++ [(⟨a3,l0⟩ : Qv)]),.blk qg9 [.int .i64 a3] 3]):=by
 unfold Q97 at hm
 refine QC Tryz.func66 Z Tryz.ntmps66 Z (S:=V4 ..) Z (fun C=>?_)
 obtain ⟨hg9,hm⟩:=Qd hm
 obtain ⟨hg12,hm⟩:=Qd hm
 obtain ⟨_,hc13,hm⟩:=Q6 hm
 try dsimp only at hm
 refine QW [0,1,2,4,5] Z Z (fun hok=>(Qn hok 0 0 0 Z Z Z Zq Z Z Z Z (cs:=[_]) Z tS_88 tA_88 Z Z (Qn hok 1 3 0 Z Z Z Zq Z Z Z Z (cs:=[_]) Z Q1m Q1H Z Z (xP hok 2 Z (xP hok 5 Z (xS hok 3 Z (wC [] [0,1,2,3] Z fn_67 Z (Clone67f_s qp0 qc1 l0 hg9) (asK [0] Z) Z (H':=V4 ..) Z ?_)))))))
 rintro _ _ _ ⟨p9,c9,rfl,rfl,rfl⟩
 refine Q4 (QJ [0,1] [4,1] Z Z (Q9y hok 4 Z Z Z Zq Z Z tZ_41 tP_41 Z (out:=[_,_]) Z (xS hok 6 Z (wC [] [0,1,2,3,4] Z fn_68 Z (Clone68f_s qp2 qc3 l1 hg12) (asK [1] Z) Z (H':=V5 ..) Z ?_))))
 rintro _ _ _ ⟨p12,c12,rfl,rfl,rfl⟩
 refine Q4 (QJ [0,1] [5,2] Z Z (xS hok 7 Z (Q1K [1,0,3,4] [2,5] Z Z Z Zq Z Z Z fn_33 Z Z (Qcy N a3 p9 l0.length c9 l0 p12 l1.length c12 l1 qg5 qp6 qn7 qc8 l2 hc13) (asK [] Z) Z (H':=[_,_]) Z ?_)))
 rintro _ _ _ ⟨p13_0,c13_1,rfl,rfl,rfl⟩
 refine Q4 (QJ [0,1] [4] Z Z (QS hok Z ?_))
 have hE:=(Zi hm).symm
 refine Q6v (Hr:=V4 ..) [3,1,2,4] Tryz.results66 ⟨p13_0,c13_1,Z,Z,Z⟩ (asK [] Z) Z Z (.inr Z)
theorem Qct (N:Nat) (a0:Int) (a1:Int) (a2:ByteArray) (o0:Int) (o1:Int) (o2:ByteArray) (o3:Nat) (hm:Q8d N a0 a1 a2 = some (o0,o1,o2,o3)):Q17 Tryz.prog 80 [.agg #[.int .u8 a0,.int .i64 a1,.string a2]] [] [] (fun v Φr Hr=>v = .tuple #[.agg #[.int .u8 o0,.int .i64 o1,.string o2],.int .i64 ((o3:Nat):Int)] ∧ Φr = [] ∧ Hr = []):=by
 unfold Q8d at hm
 refine QC Tryz.func80 Z Tryz.ntmps80 Z (S:=[_]) Z (fun C=>(Q5 (Q1 (wB Z (fun g1=>(QK Z Z Z Zq Z Q3A Z (fun g2=>(wP Z (Q4 (Q3 (Q2 [2,1] (S':=[_,_]) Z (Q5 (Q5 (Q1 (QO 1 0 Z Z Z Zq Z Z Z (cs:=V3 ..) Z Q1C Q2M Z Z ?_)))))))))))))))
 obtain ⟨v5,hc5,hm⟩:=Q6 hm
 refine wC [] [0,1] Z fn_64 Z (Q5E N a0 a1 a2 _ hc5) (asK [] Z) Z (H':=[_,_]) Z ?_
 rintro _ _ _ ⟨rfl,rfl,rfl⟩
 refine wP Z (Q4 (Q3 (Q2 [6,2,1] (S':=V3 ..) Z ?_)))
 refine Qt Z (fun hb6=>?_) (fun hb6=>?_)
 replace hm:=QI hm hb6
 refine Q2 [2] (S':=[_]) Z (Q5 (Q1 (Q1v Z Z Z Zq Z Q3A Q9M Z (out:=V3 ..) Z (wS 0 0 Z Q1C (all':=V3 ..) Z (H':=[_,_]) Z (wP Z (Q4 (Q3 (Q2 [3,2] (S':=[_,_]) Z (Qo (Q9 ?_))))))))))
 have hE:=(Zi hm).symm
 obtain ⟨hE0,hF1⟩:=Prod.mk.inj hE
 obtain ⟨hE1,hF2⟩:=Prod.mk.inj hF1
 obtain ⟨hE2,hE3⟩:=Prod.mk.inj hF2
 clear hE hF1 hF2
 replace hE0:=hE0.symm
 subst hE0
 replace hE1:=hE1.symm
 subst hE1
 replace hE2:=hE2.symm
 subst hE2
 replace hE3:=hE3.symm
 subst hE3
 refine Q1D (Hr:=[]) [] Tryz.results80 (Q1e 0 Z Z Q1C Q2M Z Z) (Qg Z) ⟨Z,Z,Z⟩ (asK [] Z) Z Z (.inl Z)
 replace hm:=QH hm hb6
 refine Q2 [2,1] (S':=[_,_]) Z (Qr (Q3 (Q5 (Q1 (QO 1 0 Z Z Z Zq Z Z Z (cs:=V3 ..) Z Q1C Q2M Z Z (wS 0 0 Z Q1C (all':=V3 ..) Z (H':=[_,_]) Z (wP Z (Q4 (Q3 (Q2 [3,2] (S':=[_,_]) Z (Qo ?_)))))))))))
 have hE:=(Zi hm).symm
 obtain ⟨hE0,hF1⟩:=Prod.mk.inj hE
 obtain ⟨hE1,hF2⟩:=Prod.mk.inj hF1
 obtain ⟨hE2,hE3⟩:=Prod.mk.inj hF2
 clear hE hF1 hF2
 replace hE0:=hE0.symm
 subst hE0
 replace hE1:=hE1.symm
 subst hE1
 replace hE2:=hE2.symm
 subst hE2
 replace hE3:=hE3.symm
 subst hE3
 refine Q1D (Hr:=[]) [] Tryz.results80 (Q1e 0 Z Z Q1C Q2M Z Z) (Qg Z) ⟨Z,Z,Z⟩ (asK [] Z) Z Z (.inl Z)
theorem w_expr_Eval_1_s (N:Nat) (qg0:Nat) (a0:Int) (a1:Int) (a2:Int) (a3:ByteArray) (a4:Int) (a5:Int) (qp1:OA) (qc2:Nat) (l6:List Qm) (o0:Int) (o1:Int) (o2:ByteArray) (o3:Nat) (hm:Q95 N a0 a1 a2 a3 a4 a5 l6 = some (o0,o1,o2,o3)):Q17 Tryz.prog 79 [.pointer (some ⟨qg0,0,none⟩)] [.sli 7 QA qp1 qc2 l6] [.blk qg0 [.int .u8 a0,.int .u8 a1,.int .i64 a2,.string a3,.int .i64 a4,.int .u8 a5,.slice qp1 l6.length qc2] 65] (fun v Φr Hr=>v = .tuple #[.agg #[.int .u8 o0,.int .i64 o1,.string o2],.int .i64 ((o3:Nat):Int)] ∧ Φr = [.sli 7 QA qp1 qc2 l6] ∧ Hr = [.blk qg0 [.int .u8 a0,.int .u8 a1,.int .i64 a2,.string a3,.int .i64 a4,.int .u8 a5,.slice qp1 l6.length qc2] 65]):=by
 unfold Q95 at hm
 refine QC Tryz.func79 Z Tryz.ntmps79 Z (S:=[_]) Z (fun C=>(Q5 (Q1 (QK Z Z Z Zq Z Q3A Z (fun g1=>(wP Z (Q4 (Q3 (Q2 [1,0] (S':=[_,_]) Z (Q5 (Q1 (wF Z tF_65_1 (QO 1 1 Z Z Z Zq Z Z Z (cs:=V3 ..) Z Q1C Q2M Z Z ?_)))))))))))))
 obtain ⟨⟨v5_0,v5_1,v5_2,v5_3⟩,hc5,hm⟩:=Q6 hm
 try dsimp only at hm
 refine wC [] [0,1] Z fn_80 Z (Qct N a1 a2 a3 _ _ _ _ hc5) (asK [] Z) Z (H':=[_,_]) Z ?_
 rintro _ _ _ ⟨rfl,rfl,rfl⟩
 refine wP Z (wP Z (wS 0 0 Z Q1C (all':=V3 ..) Z (H':=[_,_]) Z (wP Z (Q4 (Q3 (Q2 [2,1] (S':=[_,_]) Z (Qo ?_)))))))
 have hE:=(Zi hm).symm
 obtain ⟨hE0,hF1⟩:=Prod.mk.inj hE
 obtain ⟨hE1,hF2⟩:=Prod.mk.inj hF1
 obtain ⟨hE2,hE3⟩:=Prod.mk.inj hF2
 clear hE hF1 hF2
 replace hE0:=hE0.symm
 subst hE0
 replace hE1:=hE1.symm
 subst hE1
 replace hE2:=hE2.symm
 subst hE2
 replace hE3:=hE3.symm
 subst hE3
 refine Q1D (Hr:=[_]) [1] Tryz.results79 (Q1e 0 Z Z Q1C Q2M Z Z) (Qg Z) ⟨Z,Z,Z⟩ (asK [0] Z) Z Z (.inl Z)
theorem w_expr_Eval_2_s (N:Nat) (aA:Nat) (a0:Int) (a1:Int) (a2:Int) (a3:ByteArray) (a4:Int) (a5:Int) (a6:OA) (a7:Nat) (l6:List Qm) (aB:Nat) (a8:OA) (a9:Nat) (l7:List V) (o0:Int) (o1:Int) (o2:ByteArray) (o3:Nat) (hm:Q96 N a0 a1 a2 a3 a4 a5 l6 l7 = some (o0,o1,o2,o3)):Q17 Tryz.prog 81 [.pointer (some ⟨aA,0,none⟩),.pointer (some ⟨aB,0,none⟩)] [.sli 7 QA a6 a7 l6,.sli 3 R_V a8 a9 l7] [.blk aA [.int .u8 a0,.int .u8 a1,.int .i64 a2,.string a3,.int .i64 a4,.int .u8 a5,.slice a6 l6.length a7] 65,.blk aB [.slice a8 l7.length a9] 43] (fun v Φr Hr=>v = .tuple #[.agg #[.int .u8 o0,.int .i64 o1,.string o2],.int .i64 ((o3:Nat):Int)] ∧ Φr = [.sli 7 QA a6 a7 l6,.sli 3 R_V a8 a9 l7] ∧ Hr = [.blk aA [.int .u8 a0,.int .u8 a1,.int .i64 a2,.string a3,.int .i64 a4,.int .u8 a5,.slice a6 l6.length a7] 65,.blk aB [.slice a8 l7.length a9] 43]):=by
 unfold Q96 at hm
 refine QC Tryz.func81 Z Tryz.ntmps81 Z (S:=[_,_]) Z (fun C=>(Q5 (Q1 (QK Z Z Z Zq Z Q3A Z (fun g2=>(wP Z (Q4 (Q3 (Q2 [2,0,1] (S':=V3 ..) Z (Q5 (Q5 ?_)))))))))))
 obtain ⟨aH,hm,hLj_1⟩:=Q6 hm
 refine QM (σ:=Bool) (fun z=>aH = z) (fun z=>[(2,.pointer (some ⟨g2,0,none⟩)),(0,.pointer (some ⟨aA,0,none⟩)),(1,.pointer (some ⟨aB,0,none⟩)),(13,.bool z)]) (fun z=>[.sli 7 QA a6 a7 l6,.sli 3 R_V a8 a9 l7]) (fun z=>[.blk g2 [.int .u8 0,.int .i64 0,.string ((⟨#[]⟩ : ByteArray))] 57,.blk aA [.int .u8 a0,.int .u8 a1,.int .i64 a2,.string a3,.int .i64 a4,.int .u8 a5,.slice a6 l6.length a7] 65,.blk aB [.slice a8 l7.length a9] 43]) ?_ ?_
 refine Q1 (wF Z QaF (wD 1 4 Z Q1m Q1H Z (wP Z (wP Z ?_))))
 refine QG (d:=7) (S':=V6 ..) Z Z (fun aF=>?_) (fun aF=>?_)
 replace hm:=QI hm aF
 refine wO Z (wO Z (wO Z (wO Z (wO Z (wP Z (Q4 ?_))))))
 have hE:=(Zi hm).symm
 refine Qh true hE [2,0,1,13] Z (asK [0,1] Z) Z
 replace hm:=QH hm aF
 refine wF Z QaF (wD 1 4 Z Q1m Q1H Z (wD 2 0 Z Q7p Q7n Z (wN Z Q5r (wP Z (wP Z (Q4 ?_))))))
 have hE:=(Zi hm).symm
 refine Qh (decide (a4 ≥ ((l7.length:Nat):Int))) hE [2,0,1,13] Z (asK [0,1] Z) Z
 rintro z hE
 try dsimp only
 have hm:=hLj_1
 try rw [hE] at hm
 refine Qt Z (fun aC=>?_) (fun aC=>?_)
 replace hm:=QI hm aC
 refine Q2 [2] (S':=[_]) Z (Q5 (Q1 (Q1v Z Z Z Zq Z Q3A Q9M Z (out:=V3 ..) Z (wS 0 0 Z Q1C (all':=V3 ..) Z (H':=V3 ..) Z (wP Z (Q4 (Q3 (Q2 [3,2] (S':=[_,_]) Z (Qo (Q9 ?_))))))))))
 have hE:=(Zi hm).symm
 obtain ⟨hE0,hF1⟩:=Prod.mk.inj hE
 obtain ⟨hE1,hF2⟩:=Prod.mk.inj hF1
 obtain ⟨hE2,hE3⟩:=Prod.mk.inj hF2
 clear hE hF1 hF2
 replace hE0:=hE0.symm
 subst hE0
 replace hE1:=hE1.symm
 subst hE1
 replace hE2:=hE2.symm
 subst hE2
 replace hE3:=hE3.symm
 subst hE3
 refine Q1D (Hr:=[_,_]) [1,2] Tryz.results81 (Q1e 0 Z Z Q1C Q2M Z Z) (Qg Z) ⟨Z,Z,Z⟩ (asK [0,1] Z) Z Z (.inl Z)
 replace hm:=QH hm aC
 refine Q2 [2,0,1] (S':=V3 ..) Z (Qr (Q3 (Q5 (Q1 (wD 2 0 Z Q7p Q7n Z (wF Z QaF (wD 1 4 Z Q1m Q1H Z ?_)))))))
 obtain ⟨aI,hm⟩:=Qd hm
 obtain ⟨aG,aJ,hm⟩:=Q6 hm
 refine Q1a 1 a4.toNat Z Z Z Zq Z Z Z Z (Q1d aI) aJ Q5r Q1C (fun b0 b1 aZ aP=>(Q1G Q6f 1 Z (fun b2 aK _=>?_)))
 subst aK
 refine Q1F 0 0 Z Z Z Zq Z Z Z (cs:=V3 ..) Z Q1C Q2M Z Z ?_
 obtain ⟨⟨aQ,aR,aS,aT⟩,aL,hm⟩:=Q6 hm
 try dsimp only at hm
 refine wC [] [0,1,2] Z fn_80 Z (Qct N aG.k aG.n aG.s _ _ _ _ aL) (asK [] Z) Z (H':=V3 ..) Z ?_
 rintro _ _ _ ⟨rfl,rfl,rfl⟩
 refine wP Z (wP Z (wS 0 0 Z Q1C (all':=V3 ..) Z (H':=V3 ..) Z (wP Z (Q4 (Q3 (Q2 [3,2] (S':=[_,_]) Z (Qo ?_)))))))
 have hE:=(Zi hm).symm
 obtain ⟨hE0,hF1⟩:=Prod.mk.inj hE
 obtain ⟨hE1,hF2⟩:=Prod.mk.inj hF1
 obtain ⟨hE2,hE3⟩:=Prod.mk.inj hF2
 clear hE hF1 hF2
 replace hE0:=hE0.symm
 subst hE0
 replace hE1:=hE1.symm
 subst hE1
 replace hE2:=hE2.symm
 subst hE2
 replace hE3:=hE3.symm
 subst hE3
 refine Q1D (Hr:=[_,_]) [1,2] Tryz.results81 (Q1e 0 Z Z Q1C Q2M Z Z) (Qg Z) ⟨Z,Z,Z⟩ (asK [2,3] Z) Z Z (.inl Z)
theorem Q93 (N:Nat) (a0:Int)  (hm:Q7y N a0 = some ()):Q17 Tryz.prog 119 [.int .i64 a0] [] [] (fun v Φr Hr=>v = .agg #[.int .u8 1,.int .i64 a0,.string ((⟨#[]⟩ : ByteArray))] ∧ Φr = [] ∧ Hr = []):=by
 unfold Q7y at hm
 refine QC Tryz.func119 Z Tryz.ntmps119 Z (S:=[_]) Z (fun C=>(Q5 (Q1 (QK Z Z Z Zq Z Q3A Z (fun g2=>(Q4 (Q3 (Q5 (Q1 (wP Z (Q1v Z Z Z Zq Z Q3A Q9M Z (out:=V3 ..) Z (wS 0 0 Z Q1C (all':=V3 ..) Z (H':=[_]) Z (Q4 (Q3 (Q2 [2] (S':=[_]) Z ?_)))))))))))))))
 refine Qo ?_
 have hE:=(Zi hm).symm
 refine Qp (Hr:=[]) [] Tryz.results119 (Q1e 0 Z Z Q1C Q2M Z Z) ⟨Z,Z,Z⟩ (asK [] Z) Z Z (.inl Z)
theorem Q9J (N:Nat) (a0:Bool) (o0:Int) (hm:Q64 N a0 = some o0):Q17 Tryz.prog 117 [.bool a0] [] [] (fun v Φr Hr=>v = .agg #[.int .u8 1,.int .i64 o0,.string ((⟨#[]⟩ : ByteArray))] ∧ Φr = [] ∧ Hr = []):=by
 unfold Q64 at hm
 refine QC Tryz.func117 Z Tryz.ntmps117 Z (S:=[_]) Z (fun C=>(Q5 (Q1 (QK Z Z Z Zq Z Q3A Z (fun g2=>(Q4 (Q3 (Q5 (Q5 (Q1 (wP Z (Q4 (Q3 (Q2 [3,2] (S':=[_,_]) Z ?_))))))))))))))
 refine Qt Z (fun hb3=>?_) (fun hb3=>?_)
 replace hm:=QI hm hb3
 refine Q2 [2] (S':=[_]) Z (Q5 (Q1 ?_))
 obtain ⟨_,hc4,hm⟩:=Q6 hm
 try dsimp only at hm
 refine wC [] [0] Z fn_119 Z (Q93 N 1 hc4) (asK [] Z) Z (H':=[_]) Z ?_
 rintro _ _ _ ⟨rfl,rfl,rfl⟩
 refine wS 0 0 Z Q1C (all':=V3 ..) Z (H':=[_]) Z (Q4 (Q3 (Q2 [2] (S':=[_]) Z (Qo (Q9 ?_)))))
 have hE:=(Zi hm).symm
 replace hE:=hE.symm
 subst hE
 refine Qp (Hr:=[]) [] Tryz.results117 (Q1e 0 Z Z Q1C Q2M Z Z) ⟨Z,Z,Z⟩ (asK [] Z) Z Z (.inl Z)
 replace hm:=QH hm hb3
 refine Q2 [2] (S':=[_]) Z (Qr (Q3 (Q5 (Q1 ?_))))
 obtain ⟨_,hc5,hm⟩:=Q6 hm
 try dsimp only at hm
 refine wC [] [0] Z fn_119 Z (Q93 N 0 hc5) (asK [] Z) Z (H':=[_]) Z ?_
 rintro _ _ _ ⟨rfl,rfl,rfl⟩
 refine wS 0 0 Z Q1C (all':=V3 ..) Z (H':=[_]) Z (Q4 (Q3 (Q2 [2] (S':=[_]) Z (Qo ?_))))
 have hE:=(Zi hm).symm
 replace hE:=hE.symm
 subst hE
 refine Qp (Hr:=[]) [] Tryz.results117 (Q1e 0 Z Z Q1C Q2M Z Z) ⟨Z,Z,Z⟩ (asK [] Z) Z Z (.inl Z)
end Go.Proofs.YtbgodclhmgmcgaaGreatDoor
