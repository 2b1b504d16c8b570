import Derived.Test.YtbgodclhmgmcgaaGreatDoorXW5
namespace Go.Proofs.YtbgodclhmgmcgaaGreatDoor
open Go.RowKit
set_option maxRecDepth 100000
set_option maxHeartbeats 4000000
theorem Q8M (N:Nat)(aL:OA)(aM:Nat)(l0:List QP)(aG:Nat)(a1:Int)(a2:Int)(aA:OA)(aB:Nat)(l3:List Q3S)(a4:Int)(a5:Int)(a6:Int)(a7:ByteArray)(a8:Int)(a9:Int)(aC:OA)(aD:Nat)(z:List Qe)(aH:Nat)(aE:OA)(aF:Nat)(a0:List Bool)(s:OA)(y:Nat)(a3:List V)(o0:Int)(hm:Q4o N l0 a1 a2 l3 a4 a5 a6 a7 a8 a9 z a0 a3=some o0):Q1d Tryz.prog 120 [.slice aL l0.length aM,.func (.func 86) #[] #[.pointer (some ⟨aG,0,none⟩),.pointer (some ⟨aH,0,none⟩)]] [.sli 3 QW aL aM l0,.sli 5 Q2w aA aB l3,.sli 7 Qs aC aD z,.sli 1 Q1R aE aF a0,.sli 3 R_V s y a3] [.blk aG [.int .u8 a1,.int .i64 a2,.slice aA l3.length aB,.int .u8 a4,.int .u8 a5,.int .i64 a6,.string a7,.int .i64 a8,.int .u8 a9,.slice aC z.length aD] 67,.blk aH [.slice aE a0.length aF,.slice s a3.length y] 100] (fun v Φr Hr=>v=.int .i64 o0∧Φr=[.sli 5 Q2w aA aB l3,.sli 7 Qs aC aD z,.sli 1 Q1R aE aF a0,.sli 3 R_V s y a3]∧Hr=[.blk aG [.int .u8 a1,.int .i64 a2,.slice aA l3.length aB,.int .u8 a4,.int .u8 a5,.int .i64 a6,.string a7,.int .i64 a8,.int .u8 a9,.slice aC z.length aD] 67,.blk aH [.slice aE a0.length aF,.slice s a3.length y] 100]):=by
 unfold Q4o at hm
 refine QI Tryz.func120 Z Tryz.ntmps120 Z (S:=[_,_]) Z (fun C=>(Q5 (Q1 (wP Z (Q4 (Q3 (Q2 [0,1] (S':=[_,_]) Z (Q5 ?_))))))))
 obtain ⟨aO,hm,hLj_1⟩:=QN hm
 refine QF (σ:=Unit) (fun _=>aO=.inl ()) (fun _=>[]) (fun _=>[.sli 5 Q2w aA aB l3,.sli 7 Qs aC aD z,.sli 1 Q1R aE aF a0,.sli 3 R_V s y a3]) (fun _=>[.blk aG [.int .u8 a1,.int .i64 a2,.slice aA l3.length aB,.int .u8 a4,.int .u8 a5,.int .i64 a6,.string a7,.int .i64 a8,.int .u8 a9,.slice aC z.length aD] 67,.blk aH [.slice aE a0.length aF,.slice s a3.length y] 100]) ?_ ?_
 refine Q5 (Q1 (wP Z (wN Z Q6s (wP Z (Q4 (Q3 (Q2 [8,7,0,1] (S':=V4 ..) Z (Qx (Q1o (σ:=Nat×Nat) (fun (aI,h)=>Q19 (Q2M N l0 a1 a2 l3 a4 a5 a6 a7 a8 a9 z a0 a3) aI h=some aO) (fun (aI,h)=>aI) (fun (aI,h)=>[(8,.int .i64 ((h:Nat):Int)),(7,.int .i64 ((l0.length:Nat):Int)),(0,.slice aL l0.length aM),(1,.func (.func 86) #[] #[.pointer (some ⟨aG,0,none⟩),.pointer (some ⟨aH,0,none⟩)])]) (fun (aI,h)=>[.sli 3 QW aL aM l0,.sli 5 Q2w aA aB l3,.sli 7 Qs aC aD z,.sli 1 Q1R aE aF a0,.sli 3 R_V s y a3]) (fun (aI,h)=>[.blk aG [.int .u8 a1,.int .i64 a2,.slice aA l3.length aB,.int .u8 a4,.int .u8 a5,.int .i64 a6,.string a7,.int .i64 a8,.int .u8 a9,.slice aC z.length aD] 67,.blk aH [.slice aE a0.length aF,.slice s a3.length y] 100]) (N,0) hm [8,7,0,1] Z (asK [0,1,2,3,4] Z) Z (fun s_ hm=>?_))))))))))
 obtain ⟨aI,h⟩:=s_
 try dsimp only at hm ⊢
 obtain ⟨b8,b9,aZ,hq,hLu1⟩:=Q10 hm
 clear hm
 subst aZ
 replace hm:=hq
 clear hq
 unfold Q2M at hm
 try dsimp only at hm
 refine Q5 (Q1 (wP Z (QD (d:=9) (v':=.bool (decide (h < l0.length))) (S':=V4 ..) Z Z (Q2E (a:=h) (b:=l0.length)) (Q4 (Q3 (Q5 ?_))))))
 refine Qm Z (fun aX=>?_) (fun aX=>?_)
 replace hm:=Qw hm aX
 refine Q2 [8,7,0,1] (S':=V4 ..) Z (Qt (Q3 (Q5 (Qx (Q5 (Q1 (wP Z (wP Z (Q4 (Q3 (Q2 [5,8,7,0,1] (S':=V5 ..) Z (Q5 (Q1 ?_)))))))))))))
 refine wP Z (wP Z (wP Z ?_))
 obtain ⟨aY,b0,hm⟩:=Q7 hm
 refine QT 0 h Z Z Z Zq Z Z Z Z Z b0 Q6s Q5Z (fun bA bB b7 b5=>(Q1h Q2k 1 Z (fun b1 b2 _=>?_)))
 subst b2
 refine Q1g 1 0 Z Z Z Zq Z Z Z (cs:=V3 ..) Z Q5Z tA_71 Z Z ?_
 obtain ⟨bC,b3,hm⟩:=Q7 hm
 refine Q1p [0,1] [] Z Z Z Zq Z Z Z fn_86 Z Z (QaY N aY.id aY.ty b1.1 b1.2 aY.args aG a1 a2 aA aB l3 a4 a5 a6 a7 a8 a9 aC aD z aH aE aF a0 s y a3 _ b3) (asK [0,4,5,6,7] Z) Z (H':=[]) Z ?_
 rintro _ _ _ ⟨rfl,rfl,rfl⟩
 refine Q4 (Q3 (Q2 [16,5,8,7,0,1] (S':=V6 ..) Z ?_))
 refine Qm Z (fun aK=>?_) (fun aK=>?_)
 replace hm:=Qw hm aK
 refine Q2 [5] (S':=[_]) Z (Q5 (Q1 (wP Z (wP Z (Q4 (Q3 (Q2 [4] (S':=[_]) Z (Qk (Qa (Q8 (Q8 (Qa (Q8 ?_)))))))))))))
 have hE:=(Zi hm).symm
 replace hE:=Qn hLu1 hE
 replace hE:=Qn hLj_1 hE
 replace hE:=hE.symm
 subst hE
 refine Qq (Hr:=[_,_]) [0,1] Tryz.results120 (Qb Z) ⟨Z,Z,Z⟩ (asK [0,1,2,3] Z) Z Z (.inl Z)
 replace hm:=Qv hm aK
 refine Q2 [8,7,0,1] (S':=V4 ..) Z (Qt (Qf (Q3 (Q1 (wP Z ?_)))))
 obtain ⟨b4,hm⟩:=Qz hm
 refine QD (d:=18) (v':=.int .i64 ((h+1:Nat):Int)) (S':=V4 ..) Z Z (Q1f (a:=h) (b:=1) b4) (QS (S':=V4 ..) Z Z Z Z Z (Q4 ?_))
 have hE:=(Zi hm).symm
 replace hE:=QA hLu1 hE
 refine QY (_,h+1) (Nat.lt_succ_self _) hE [8,7,0,1] Z (asK [7,0,1,2,3] Z) Z
 replace hm:=Qv hm aX
 refine Q2 [] (S':=[]) Z (Q1k (Qo (Qo (QG ?_))))
 have hE:=(Zi hm).symm
 replace hE:=Qn hLu1 hE
 refine Qd () hE [] Z (asK [1,2,3,4] Z) Z
 rintro _ hE
 try dsimp only
 have hm:=QA hLj_1 hE
 try dsimp only at hm
 refine Q5 (Q1 (wP Z (Q4 (Q3 (Qk ?_)))))
 have hE:=(Zi hm).symm
 replace hE:=hE.symm
 subst hE
 refine Qq (Hr:=[_,_]) [0,1] Tryz.results120 (Qb Z) ⟨Z,Z,Z⟩ (asK [0,1,2,3] Z) Z Z (.inl Z)
theorem Q82 (N:Nat)(qp0:OA)(qc1:Nat)(l0:List QP)(qg2:Nat)(a1:Int)(a2:Int)(qp3:OA)(qc4:Nat)(l3:List Q3S)(a4:Int)(a5:Int)(a6:Int)(a7:ByteArray)(a8:Int)(a9:Int)(qp5:OA)(qc6:Nat)(l10:List Qe)(qg7:Nat)(qp8:OA)(qc9:Nat)(l11:List Bool)(qp10:OA)(qc11:Nat)(l12:List V)(o0:Bool)(hm:Q3A N l0 a1 a2 l3 a4 a5 a6 a7 a8 a9 l10 l11 l12=some o0):Q1d Tryz.prog 85 [.slice qp0 l0.length qc1,.func (.func 86) #[] #[.pointer (some ⟨qg2,0,none⟩),.pointer (some ⟨qg7,0,none⟩)]] [.sli 3 QW qp0 qc1 l0,.sli 5 Q2w qp3 qc4 l3,.sli 7 Qs qp5 qc6 l10,.sli 1 Q1R qp8 qc9 l11,.sli 3 R_V qp10 qc11 l12] [.blk qg2 [.int .u8 a1,.int .i64 a2,.slice qp3 l3.length qc4,.int .u8 a4,.int .u8 a5,.int .i64 a6,.string a7,.int .i64 a8,.int .u8 a9,.slice qp5 l10.length qc6] 67,.blk qg7 [.slice qp8 l11.length qc9,.slice qp10 l12.length qc11] 100] (fun v Φr Hr=>v=.bool o0∧Φr=[.sli 5 Q2w qp3 qc4 l3,.sli 7 Qs qp5 qc6 l10,.sli 1 Q1R qp8 qc9 l11,.sli 3 R_V qp10 qc11 l12]∧Hr=[.blk qg2 [.int .u8 a1,.int .i64 a2,.slice qp3 l3.length qc4,.int .u8 a4,.int .u8 a5,.int .i64 a6,.string a7,.int .i64 a8,.int .u8 a9,.slice qp5 l10.length qc6] 67,.blk qg7 [.slice qp8 l11.length qc9,.slice qp10 l12.length qc11] 100]):=by
 unfold Q3A at hm
 refine QI Tryz.func85 Z Tryz.ntmps85 Z (S:=[_,_]) Z (fun C=>(Q5 (Q1 (wP Z (Q4 (Q3 (Q2 [0,1] (S':=[_,_]) Z (Q5 (Q1 (wP Z (wP Z ?_)))))))))))
 obtain ⟨v7,hc7,hm⟩:=Q7 hm
 refine wC [0,1] [] Z fn_120 Z (Q8M N qp0 qc1 l0 qg2 a1 a2 qp3 qc4 l3 a4 a5 a6 a7 a8 a9 qp5 qc6 l10 qg7 qp8 qc9 l11 qp10 qc11 l12 _ hc7) (asK [0,1,2,3,4] Z) Z (H':=[]) Z ?_
 rintro _ _ _ ⟨rfl,rfl,rfl⟩
 refine wP Z (wP Z (Q4 (Q3 (Q2 [4] (S':=[_]) Z (Qk ?_)))))
 have hE:=(Zi hm).symm
 replace hE:=hE.symm
 subst hE
 refine Qq (Hr:=[_,_]) [0,1] Tryz.results85 (Qb Z) ⟨Z,Z,Z⟩ (asK [0,1,2,3] Z) Z Z (.inl Z)
theorem w_pattern_Some_s (N:Nat)(a0:Int)(a1:Int)(qp0:OA)(qc1:Nat)(l2:List Q3S)(a3:Int)(a4:Int)(a5:Int)(a6:ByteArray)(a7:Int)(a8:Int)(qp2:OA)(qc3:Nat)(l9:List Qe)(qp4:OA)(qc5:Nat)(l10:List Bool)(qp6:OA)(qc7:Nat)(l11:List V)(qp8:OA)(qc9:Nat)(l12:List QP)(o0:Bool)(hm:Q6e N a0 a1 l2 a3 a4 a5 a6 a7 a8 l9 l10 l11 l12=some o0):Q1d Tryz.prog 45 [.agg #[.int .u8 a0,.int .i64 a1,.slice qp0 l2.length qc1,.int .u8 a3,.int .u8 a4,.int .i64 a5,.string a6,.int .i64 a7,.int .u8 a8,.slice qp2 l9.length qc3],.agg #[.slice qp4 l10.length qc5,.slice qp6 l11.length qc7],.slice qp8 l12.length qc9] [.sli 5 Q2w qp0 qc1 l2,.sli 7 Qs qp2 qc3 l9,.sli 1 Q1R qp4 qc5 l10,.sli 3 R_V qp6 qc7 l11,.sli 3 QW qp8 qc9 l12] [] (fun v Φr Hr=>v=.bool o0∧Φr=[]∧Hr=[]):=by
 unfold Q6e at hm
 refine QI Tryz.func45 Z Tryz.ntmps45 Z (S:=V3 ..) Z (fun C=>(Q5 (Q1 (wB Z (fun g3=>(wB Z (fun g4=>(wP Z (Q4 (Q3 (Q2 [4,3,2] (S':=V3 ..) Z (Q5 (Q1 (wP Z (Q33 Z Z Z Zq Z Z ?_)))))))))))))))
 obtain ⟨v9,hc9,hm⟩:=Q7 hm
 refine wC [1,0] [] Z fn_85 Z (Q82 N qp8 qc9 l12 g3 a0 a1 qp0 qc1 l2 a3 a4 a5 a6 a7 a8 qp2 qc3 l9 g4 qp4 qc5 l10 qp6 qc7 l11 _ hc9) (asK [4,0,1,2,3] Z) Z (H':=[]) Z ?_
 rintro _ _ _ ⟨rfl,rfl,rfl⟩
 refine wP Z (Q4 (Q3 (Q2 [6] (S':=[_]) Z (Qk ?_))))
 have hE:=(Zi hm).symm
 replace hE:=hE.symm
 subst hE
 refine Qq (Hr:=[]) [] Tryz.results45 (Qb Z) ⟨Z,Z,Z⟩ (asK [] Z) Z Z (.inl Z)
theorem Q97 (N:Nat)(a0:Int)  (hm:Q5X N a0=some ()):Q1d Tryz.prog 87 [.int .i64 a0] [] [] (fun v Φr Hr=>v=.bool (a0 !=a0)∧Φr=[]∧Hr=[]):=by
 unfold Q5X at hm
 refine QI Tryz.func87 Z Tryz.ntmps87 Z (S:=[_]) Z (fun C=>(Q5 (Q1 (wP Z (Q4 (Q3 (Q2 [0] (S':=[_]) Z (Q5 (Q1 (wP Z (wP Z (wP Z (wP Z (Q4 ?_))))))))))))))
 refine Q3 (Q2 [2] (S':=[_]) Z (Qk ?_))
 have hE:=(Zi hm).symm
 refine Qq (Hr:=[]) [] Tryz.results87 (Qb Z) ⟨Z,Z,Z⟩ (asK [] Z) Z Z (.inl Z)
theorem QaM (N:Nat)(a0:Int)(a1:Int)(o0:Int)(hm:Q66 N a0 a1=some o0):Q1d Tryz.prog 48 [.int .i64 a0,.int .i64 a1] [] [] (fun v Φr Hr=>v=.int .i64 o0∧Φr=[]∧Hr=[]):=by
 unfold Q66 at hm
 refine QI Tryz.func48 Z Tryz.ntmps48 Z (S:=[_,_]) Z (fun C=>(Q5 (Q1 (wP Z (Q4 (Q3 (Q2 [0,1] (S':=[_,_]) Z (Q5 (Q1 (wP Z ?_))))))))))
 obtain ⟨_,a6,hm⟩:=Q7 hm
 try dsimp only at hm
 refine wC [] [] Z fn_87 Z (Q97 N a0 a6) (asK [] Z) Z (H':=[]) Z ?_
 rintro _ _ _ ⟨rfl,rfl,rfl⟩
 refine wP Z (Q4 (Q3 (Q2 [5,0,1] (S':=V3 ..) Z (Q5 (Q1 (wP Z ?_))))))
 obtain ⟨_,a3,hm⟩:=Q7 hm
 try dsimp only at hm
 refine wC [] [] Z fn_87 Z (Q97 N a1 a3) (asK [] Z) Z (H':=[]) Z ?_
 rintro _ _ _ ⟨rfl,rfl,rfl⟩
 refine wP Z (Q4 (Q3 (Q2 [6,5,0,1] (S':=V4 ..) Z (Q5 (Q5 (Q1 (wP Z (Q4 (Q3 (Q2 [11,6,0,1] (S':=V4 ..) Z ?_))))))))))
 refine Qm Z (fun h=>?_) (fun h=>?_)
 replace hm:=Qw hm h
 refine Q2 [6] (S':=[_]) Z (Q5 (Q5 (Q1 (wP Z (Q4 (Q3 (Q2 [12] (S':=[_]) Z ?_)))))))
 refine Qm Z (fun s=>?_) (fun s=>?_)
 replace hm:=Qw hm s
 refine Q2 [] (S':=[]) Z (Q5 (Q1 (wP Z (Q4 (Q3 (Qk (Q8 (Q8 ?_))))))))
 have hE:=(Zi hm).symm
 replace hE:=hE.symm
 subst hE
 refine Qq (Hr:=[]) [] Tryz.results48 (Qb Z) ⟨Z,Z,Z⟩ (asK [] Z) Z Z (.inl Z)
 replace hm:=Qv hm s
 refine Q2 [] (S':=[]) Z (Qt (Q3 (Q5 (Q1 (wP Z (Q4 (Q3 (Qk (Q8 ?_)))))))))
 have hE:=(Zi hm).symm
 replace hE:=hE.symm
 subst hE
 refine Qq (Hr:=[]) [] Tryz.results48 (Qb Z) ⟨Z,Z,Z⟩ (asK [] Z) Z Z (.inl Z)
 replace hm:=Qv hm h
 refine Q2 [6,0,1] (S':=V3 ..) Z (Qt (Q3 (Q5 (Q5 (Q1 (wP Z (Q4 (Q3 (Q2 [13,0,1] (S':=V3 ..) Z ?_)))))))))
 refine Qm Z (fun y=>?_) (fun y=>?_)
 replace hm:=Qw hm y
 refine Q2 [] (S':=[]) Z (Q5 (Q1 (wP Z (Q4 (Q3 (Qk (Q8 ?_)))))))
 have hE:=(Zi hm).symm
 replace hE:=hE.symm
 subst hE
 refine Qq (Hr:=[]) [] Tryz.results48 (Qb Z) ⟨Z,Z,Z⟩ (asK [] Z) Z Z (.inl Z)
 replace hm:=Qv hm y
 refine Q2 [0,1] (S':=[_,_]) Z (Qt (Q3 (Q5 (Q5 (Q1 (wP Z (wP Z (wP Z (Q4 (Q3 (Q2 [16,0,1] (S':=V3 ..) Z ?_)))))))))))
 refine Qm Z (fun z=>?_) (fun z=>?_)
 replace hm:=Qw hm z
 refine Q2 [] (S':=[]) Z (Q5 (Q1 (wP Z (Q4 (Q3 (Qk (Q8 ?_)))))))
 have hE:=(Zi hm).symm
 replace hE:=hE.symm
 subst hE
 refine Qq (Hr:=[]) [] Tryz.results48 (Qb Z) ⟨Z,Z,Z⟩ (asK [] Z) Z Z (.inl Z)
 replace hm:=Qv hm z
 refine Q2 [0,1] (S':=[_,_]) Z (Qt (Q3 (Q5 (Q5 (Q1 (wP Z (wP Z (wP Z (Q4 (Q3 (Q2 [19] (S':=[_]) Z ?_)))))))))))
 refine Qm Z (fun a2=>?_) (fun a2=>?_)
 replace hm:=Qw hm a2
 refine Q2 [] (S':=[]) Z (Q5 (Q1 (wP Z (Q4 (Q3 (Qk (Q8 ?_)))))))
 have hE:=(Zi hm).symm
 replace hE:=hE.symm
 subst hE
 refine Qq (Hr:=[]) [] Tryz.results48 (Qb Z) ⟨Z,Z,Z⟩ (asK [] Z) Z Z (.inl Z)
 replace hm:=Qv hm a2
 refine Q2 [] (S':=[]) Z (Qt (Q3 (Q5 (Q1 (wP Z (Q4 (Q3 (Qk ?_))))))))
 have hE:=(Zi hm).symm
 replace hE:=hE.symm
 subst hE
 refine Qq (Hr:=[]) [] Tryz.results48 (Qb Z) ⟨Z,Z,Z⟩ (asK [] Z) Z Z (.inl Z)
theorem Q9v (N:Nat)(a0:Int)(a1:Int)(qp0:OA)(qc1:Nat)(l2:List V)(a3:Int)(o0:Int)(hm:Q5x N a0 a1 l2 a3=some o0):Q1d Tryz.prog 47 [.agg #[.int .i64 a0,.int .i64 a1,.slice qp0 l2.length qc1],.int .i64 a3] [.sli 3 R_V qp0 qc1 l2] [] (fun v Φr Hr=>v=.int .i64 o0∧Φr=[]∧Hr=[]):=by
 unfold Q5x at hm
 refine QI Tryz.func47 Z Tryz.ntmps47 Z (S:=[_,_]) Z (fun C=>(Q5 (Q1 (wB Z (fun g2=>(wP Z (Q4 (Q3 (Q2 [2,1] (S':=[_,_]) Z (Q5 (Q1 (wF Z Q3g (wD 0 0 Z QZ Q15 Z (wP Z ?_))))))))))))))
 obtain ⟨v8,hc8,hm⟩:=Q7 hm
 refine wC [] [0] Z fn_48 Z (QaM N a0 a3 _ hc8) (asK [] Z) Z (H':=[_]) Z ?_
 rintro _ _ _ ⟨rfl,rfl,rfl⟩
 refine wP Z (Q4 (Q3 (Q2 [4] (S':=[_]) Z (Qk ?_))))
 have hE:=(Zi hm).symm
 replace hE:=hE.symm
 subst hE
 refine Qq (Hr:=[]) [] Tryz.results47 (Qb Z) ⟨Z,Z,Z⟩ (asK [] Z) Z Z (.inl Z)
theorem Q7q (N:Nat)(a0:OA)(a2:Nat)(l0:List QP)(a1:Int)(o0:Int)(o1:Bool)(hm:Q1J N l0 a1=some (o0,o1)):Q1d Tryz.prog 46 [.slice a0 l0.length a2,.int .i64 a1,.func (.func 47) #[] #[]] [.sli 3 QW a0 a2 l0] [] (fun v Φr Hr=>v=.tuple #[.int .i64 o0,.bool o1]∧Φr=[]∧Hr=[]):=by
 unfold Q1J at hm
 refine QI Tryz.func46 Z Tryz.ntmps46 Z (S:=V3 ..) Z (fun C=>(Q5 (Q1 (wP Z (wP Z (Q4 (Q3 (Q2 [0,1,2] (S':=V3 ..) Z (Q5 (Q1 (wP Z (wN Z Q6s (wP Z (Q4 ?_))))))))))))))
 refine Q3 (Q2 [8,0,1,2] (S':=V4 ..) Z (Q5 (Q1 (wP Z (wP Z (wP Z (Q4 (Q3 (Q2 [10,9,8,0,1,2] (S':=V6 ..) Z (Q5 ?_))))))))))
 obtain ⟨a7,hm,hLj_1⟩:=Q7 hm
 refine QF (σ:=Int) (fun y=>a7=y) (fun y=>[(9,.int .i64 y),(8,.int .i64 ((l0.length:Nat):Int)),(0,.slice a0 l0.length a2),(1,.int .i64 a1),(2,.func (.func 47) #[] #[])]) (fun y=>[.sli 3 QW a0 a2 l0]) (fun y=>[]) ?_ ?_
 refine Qx (Q1o (σ:=Nat×Int×Int) (fun (z,h,s)=>Q19 (Q1P N l0 a1) z (h,s)=some a7) (fun (z,h,s)=>z) (fun (z,h,s)=>[(10,.int .i64 h),(9,.int .i64 s),(8,.int .i64 ((l0.length:Nat):Int)),(0,.slice a0 l0.length a2),(1,.int .i64 a1),(2,.func (.func 47) #[] #[])]) (fun (z,h,s)=>[.sli 3 QW a0 a2 l0]) (fun (z,h,s)=>[]) (N,((l0.length:Nat):Int),0) hm [10,9,8,0,1,2] Z (asK [0] Z) Z (fun s_ hm=>?_))
 obtain ⟨z,h,s⟩:=s_
 try dsimp only at hm ⊢
 obtain ⟨aU,aV,aB,hq,hLu1⟩:=Q10 hm
 clear hm
 subst aB
 replace hm:=hq
 clear hq
 unfold Q1P at hm
 try dsimp only at hm
 refine Q5 (Q5 (Q1 (wP Z (wP Z (wP Z (Q4 (Q3 (Q2 [17,10,9,8,0,1,2] (S':=V7 ..) Z ?_))))))))
 refine Qm Z (fun a4=>?_) (fun a4=>?_)
 replace hm:=Qw hm a4
 refine Q2 [10,9,8,0,1,2] (S':=V6 ..) Z (Qt (Q3 (Qx (Q5 (Q1 (wP Z (wP Z (wP Z ?_))))))))
 obtain ⟨aC,hm⟩:=Qz hm
 refine QD (d:=20) (v':=.int .i64 (s+h)) (S':=V8 ..) Z Z (i64_in aC) (Q3E Z Z Z Zq (rk_conv Z Z tI_3 tI_149) (Q65 Z Z Z Zq Z Z Z (run_shr (by decide)) (Q3E Z Z Z Zq (rk_conv Z Z tI_149 tI_3) (wP Z (Q4 (Q3 (Q2 [11,10,9,8,0,1,2] (S':=V7 ..) Z (Q5 (Q1 (wP Z (wP Z (wP Z ?_))))))))))))
 obtain ⟨aD,hm⟩:=Qz hm
 obtain ⟨a9,aE,hm⟩:=Q7 hm
 refine QT 0 ((IntKind.wrap .i64 (Int.fdiv (IntKind.wrap .u64 (s+h)) (2 ^ (1)))).toNat) Z Z Z Zq Z Z Z Z (Q1I aD) aE Q6s Q5Z (fun aW aX aS aO=>(Q1h Q2k 1 Z (fun aF aG _=>?_)))
 subst aG
 refine Q1g 1 0 Z Z Z Zq Z Z Z (cs:=V3 ..) Z Q5Z tA_71 Z Z (wP Z ?_)
 obtain ⟨aY,aH,hm⟩:=Q7 hm
 refine Q1p [] [] Z Z Z Zq Z Z Z fn_47 Z Z (Q9v N a9.id a9.ty aF.1 aF.2 a9.args a1 _ aH) (asK [0] Z) Z (H':=[]) Z ?_
 rintro _ _ _ ⟨rfl,rfl,rfl⟩
 refine wP Z (Q4 (Q3 (Q2 [31,11,10,9,8,0,1,2] (S':=V8 ..) Z ?_)))
 refine Qm Z (fun a5=>?_) (fun a5=>?_)
 replace hm:=Qw hm a5
 refine Q2 [11,10,8,0,1,2] (S':=V6 ..) Z (Q1 (wP Z (wP Z ?_)))
 obtain ⟨aI,hm⟩:=Qz hm
 refine QD (d:=33) (v':=.int .i64 ((IntKind.wrap .i64 (Int.fdiv (IntKind.wrap .u64 (s+h)) (2 ^ (1))))+1)) (S':=V7 ..) Z Z (i64_in aI) (wP Z (Q4 (Qf ?_)))
 have hE:=(Zi hm).symm
 replace hE:=QA hLu1 hE
 refine QY (_,h,(IntKind.wrap .i64 (Int.fdiv (IntKind.wrap .u64 (s+h)) (2 ^ (1))))+1) (Nat.lt_succ_self _) hE [10,9,8,0,1,2] Z (asK [3] Z) Z
 replace hm:=Qv hm a5
 refine Q2 [11,9,8,0,1,2] (S':=V6 ..) Z (Q1 (wP Z (wP Z (Q4 (Qf ?_)))))
 have hE:=(Zi hm).symm
 replace hE:=QA hLu1 hE
 refine QY (_,IntKind.wrap .i64 (Int.fdiv (IntKind.wrap .u64 (s+h)) (2 ^ (1))),s) (Nat.lt_succ_self _) hE [10,9,8,0,1,2] Z (asK [3] Z) Z
 replace hm:=Qv hm a4
 refine Q2 [9,8,0,1,2] (S':=V5 ..) Z (Q1k (Qo (Qo (QG ?_))))
 have hE:=(Zi hm).symm
 replace hE:=Qn hLu1 hE
 refine Qd s hE [9,8,0,1,2] Z (asK [0] Z) Z
 rintro y hE
 try dsimp only
 have hm:=hLj_1
 try rw [hE] at hm
 refine Q5 (Q1 (wP Z (wP Z (wP Z (wP Z (wP Z ?_))))))
 refine Qr (d:=39) (S':=V9 ..) Z Z (fun a6=>?_) (fun a6=>?_)
 replace hm:=Qw hm a6
 refine wP Z (wP Z (wP Z ?_))
 obtain ⟨aJ,hm⟩:=Qz hm
 obtain ⟨aA,aK,hm⟩:=Q7 hm
 refine QT 0 y.toNat Z Z Z Zq Z Z Z Z (Q1I aJ) aK Q6s Q5Z (fun aZ b0 aT aP=>(Q1h Q2k 1 Z (fun aL aM _=>?_)))
 subst aM
 refine Q1g 1 0 Z Z Z Zq Z Z Z (cs:=V3 ..) Z Q5Z tA_71 Z Z (wP Z ?_)
 obtain ⟨b1,aN,hm⟩:=Q7 hm
 refine Q1p [] [] Z Z Z Zq Z Z Z fn_47 Z Z (Q9v N aA.id aA.ty aL.1 aL.2 aA.args a1 _ aN) (asK [0] Z) Z (H':=[]) Z ?_
 rintro _ _ _ ⟨rfl,rfl,rfl⟩
 refine wP Z (wP Z (wP Z (wP Z (Q4 (Q3 (Q2 [7,6] (S':=[_,_]) Z (Qk ?_)))))))
 have hE:=(Zi hm).symm
 obtain ⟨hE0,hE1⟩:=Prod.mk.inj hE
 clear hE
 replace hE0:=hE0.symm
 subst hE0
 replace hE1:=hE1.symm
 subst hE1
 refine QH (Hr:=[]) [] Tryz.results46 (Qb Z) (Qb Z) ⟨Z,Z,Z⟩ (asK [] Z) Z Z (.inl Z)
 replace hm:=Qv hm a6
 refine wO Z (wO Z (wO Z (wO Z (wO Z (wO Z (wO Z (wO Z (wP Z (wP Z (wP Z (Q4 (Q3 (Q2 [7,6] (S':=[_,_]) Z ?_)))))))))))))
 refine Qk ?_
 have hE:=(Zi hm).symm
 obtain ⟨hE0,hE1⟩:=Prod.mk.inj hE
 clear hE
 replace hE0:=hE0.symm
 subst hE0
 replace hE1:=hE1.symm
 subst hE1
 refine QH (Hr:=[]) [] Tryz.results46 (Qb Z) (Qb Z) ⟨Z,Z,Z⟩ (asK [] Z) Z Z (.inl Z)
theorem w_naive_Vars_s (N:Nat)(bC:OA)(bD:Nat)(l0:List Qg)(bE:OA)(bF:Nat)(l1:List Qj)(a2:Int)(aZ:OA)(b0:Nat)(l3:List Int)(aW:OA)(aX:Nat)(l4:List QP)(o2:List V)(o4:Bool)(hm:Q7a N l0 l1 a2 l3 l4=some (o2,o4)):Q1d Tryz.prog 18 [.agg #[.slice bC l0.length bD,.slice bE l1.length bF],.agg #[.int .i64 a2,.slice aZ l3.length b0],.slice aW l4.length aX] [.sli 2 Qh bC bD l0,.sli 5 Qi bE bF l1,.sli 1 Q2v aZ b0 l3,.sli 3 QW aW aX l4] [] (fun v Φr Hr=>∃ (o0:OA)(o1:Nat)(o3:Nat),v=.tuple #[.slice o0 o3 o1,.bool o4]∧Φr=[]∧Hr=[.own 57 3 R_V (.slice o0 o3 o1) o2]):=by
 unfold Q7a at hm
 refine QI Tryz.func18 Z Tryz.ntmps18 Z (S:=V3 ..) Z (fun C=>(Q5 (Q1 (wB Z (fun g3=>(wB Z (fun g4=>(wP Z (wP Z (Q4 (Q3 (Q2 [4,3,2] (S':=V3 ..) Z (Q5 (Q5 ?_))))))))))))))
 obtain ⟨cH,hm,hLj_1⟩:=Q7 hm
 unfold Q6H at hm
 refine QF (σ:=Bool) (fun aV=>cH=aV) (fun aV=>[(4,.pointer (some ⟨g4,0,none⟩)),(3,.pointer (some ⟨g3,0,none⟩)),(2,.slice aW l4.length aX),(38,.bool aV)]) (fun aV=>[.sli 1 Q2v aZ b0 l3,.sli 2 Qh bC bD l0,.sli 5 Qi bE bF l1,.sli 3 QW aW aX l4]) (fun aV=>[.blk g4 [.int .i64 a2,.slice aZ l3.length b0] 41,.blk g3 [.slice bC l0.length bD,.slice bE l1.length bF] 25]) ?_ ?_
 refine Q1 (QM 1 0 Z Z Z Zq Z Z Z (cs:=[_,_]) Z tS_25 tA_25 Z Z ?_)
 obtain ⟨dN,cI,hm⟩:=Q7 hm
 refine wC [] [0,1] Z fn_30 Z (w_check_Right_s N bC bD l0 bE bF l1 _ cI) (asK [0,1] Z) Z (H':=[_,_]) Z ?_
 rintro _ _ _ ⟨rfl,rfl,rfl⟩
 refine wP Z (wP Z ?_)
 refine Qr (d:=20) (S':=V6 ..) Z Z (fun bG=>?_) (fun bG=>?_)
 replace hm:=Qw hm bG
 refine wO Z (wO Z (wO Z (wO Z (wP Z (wP Z (wO Z (wO Z (wO Z (wP Z (wP Z (wO Z (wO Z (wO Z ?_)))))))))))))
 refine wO Z (wO Z (wO Z (wP Z (Q4 ?_))))
 have hE:=(Zi hm).symm
 refine Qd true hE [4,3,2,38] Z (asK [2,0,1,3] Z) Z
 replace hm:=Qv hm bG
 refine QM 1 0 Z Z Z Zq Z Z Z (cs:=[_,_]) Z tS_25 tA_25 Z Z (wP Z ?_)
 obtain ⟨dO,cJ,hm⟩:=Q7 hm
 refine wC [] [0,1] Z fn_31 Z (w_naive_right_s N bC bD l0 bE bF l1 aW aX l4 _ cJ) (asK [0,1,3] Z) Z (H':=[_,_]) Z ?_
 rintro _ _ _ ⟨rfl,rfl,rfl⟩
 refine wP Z (wP Z (wP Z ?_))
 refine Qr (d:=26) (S':=V12 ..) Z Z (fun bH=>?_) (fun bH=>?_)
 replace hm:=Qw hm bH
 refine wO Z (wO Z (wO Z (wP Z (wP Z (wO Z (wO Z (wO Z (wO Z (wO Z (wO Z (wP Z (Q4 ?_))))))))))))
 have hE:=(Zi hm).symm
 refine Qd true hE [4,3,2,38] Z (asK [2,0,1,3] Z) Z
 replace hm:=Qv hm bH
 refine wF Z Q9Q (wD 0 0 Z QZ Q15 Z (wP Z (wP Z (wP Z ?_))))
 refine Qr (d:=31) (S':=V17 ..) Z Z (fun bI=>?_) (fun bI=>?_)
 replace hm:=Qw hm bI
 refine wO Z (wO Z (wO Z (wO Z (wO Z (wO Z (wP Z (Q4 ?_)))))))
 have hE:=(Zi hm).symm
 refine Qd true hE [4,3,2,38] Z (asK [2,0,1,3] Z) Z
 replace hm:=Qv hm bI
 refine wF Z Q9Q (wD 0 0 Z QZ Q15 Z (wF Z Q4Z (wD 1 1 Z Q7u Q7t Z (wN Z Q6X (wP Z (wP Z (Q4 ?_)))))))
 have hE:=(Zi hm).symm
 refine Qd (decide (a2 ≥ ((l1.length:Nat):Int))) hE [4,3,2,38] Z (asK [2,0,1,3] Z) Z
 rintro aV hE
 try dsimp only
 have hm:=hLj_1
 try rw [hE] at hm
 refine Qm Z (fun bJ=>?_) (fun bJ=>?_)
 replace hm:=Qw hm bJ
 refine Q2 [] (S':=[]) Z (Q5 (Q1 (wP Z (wP Z (Q4 (Q3 (Qk (Q8 ?_))))))))
 have hE:=(Zi hm).symm
 obtain ⟨hE0,hE1⟩:=Prod.mk.inj hE
 clear hE
 replace hE0:=hE0.symm
 subst hE0
 replace hE1:=hE1.symm
 subst hE1
 refine Q2T 57 3 R_V ?_
 refine QH (Hr:=[_]) [0] Tryz.results18 (Qb Z) (Qb Z) ⟨none,0,0,Z,Z,Z⟩ (asK [] Z) Z Z (.inl Z)
 replace hm:=Qv hm bJ
 refine Q2 [4,3,2] (S':=V3 ..) Z (Qt (Q3 (Q5 (Q1 (wF Z Q4Z (wD 1 1 Z Q7u Q7t Z (wF Z Q9Q (wD 0 0 Z QZ Q15 Z ?_))))))))
 obtain ⟨cK,hm⟩:=Qz hm
 obtain ⟨aY,cL,hm⟩:=Q7 hm
 refine QT 2 a2.toNat Z Z Z Zq Z Z Z Z (Q1I cK) cL Q6X Q6Y (fun dP dQ dI d3=>(Q1h Q28 1 Z (fun b1 cM _=>?_)))
 subst cM
 refine Q1g 2 0 Z Z Z Zq Z Z Z (cs:=V5 ..) Z Q6Y tA_52 Z Z (Q13 Z Z Z Zq Z tZ_52 Z (fun g8=>(wS 0 0 Z Q6Y (all':=V5 ..) Z (H':=V3 ..) Z (Q4 (Q3 (Q2 [8,4,2] (S':=V3 ..) Z (Q5 (Q1 (wF Z tF_52_2 (wD 0 2 Z QZ Q15 Z ?_))))))))))
 obtain ⟨⟨bW,bX⟩,cN,hm⟩:=Q7 hm
 try dsimp only at hm
 refine wC [] [0,1,2] Z fn_43 Z (w_pattern_New_s N aY.vars _ _ cN) (asK [] Z) Z (H':=V3 ..) Z ?_
 rintro _ _ _ ⟨bY,bZ,c0,c1,c2,c3,rfl,rfl,rfl⟩
 refine Q13 Z Z Z Zq Z Q9d Z (fun g9=>(wS 0 0 Z Q5G (all':=[_,_]) Z (H':=V6 ..) Z (wP Z (Q4 (Q3 (Q2 [10,9,8,4,2] (S':=V5 ..) Z (Q5 ?_)))))))
 obtain ⟨bU,hm,hLj_2⟩:=QN hm
 refine QF (σ:=Nat×(List Bool)×(List V)×OA×Nat×Nat×OA×Nat×Nat) (fun (aR,aK,aL,aM,aN,aO,a6,a7,a8)=>bU=.inl (aR,aK,aL)) (fun (aR,aK,aL,aM,aN,aO,a6,a7,a8)=>[(10,.int .i64 ((aR:Nat):Int)),(9,.pointer (some ⟨g9,0,none⟩)),(4,.pointer (some ⟨g4,0,none⟩))]) (fun (aR,aK,aL,aM,aN,aO,a6,a7,a8)=>[.sli 1 Q2v aZ b0 l3]) (fun (aR,aK,aL,aM,aN,aO,a6,a7,a8)=>[.blk g9 [.slice aM aO aN,.slice a6 a8 a7] 100,.own 4 1 Q1R (.slice aM aO aN) aK,.own 57 3 R_V (.slice a6 a8 a7) aL,.blk g4 [.int .i64 a2,.slice aZ l3.length b0] 41]) ?_ ?_
 refine Q5 (Q1 (wF Z Q67 (wD 3 3 Z Q94 Q8X Z (wN Z Q86 (wP Z (Q4 (Q3 (Q2 [51,50,49,10,9,4,2] (S':=V7 ..) Z (Qx (wc_pick [0,1,2,4] Z (H':=V4 ..) Z (Q1o (σ:=Nat×Nat×Nat×(List Bool)×(List V)×OA×Nat×Nat×OA×Nat×Nat) (fun (b5,aJ,a9,a1,y,a3,a4,a5,z,a0,aA)=>Q19 (Q4s N aY l4 l3) b5 (aJ,a9,a1,y)=some bU) (fun (b5,aJ,a9,a1,y,a3,a4,a5,z,a0,aA)=>b5) (fun (b5,aJ,a9,a1,y,a3,a4,a5,z,a0,aA)=>[(51,.int .i64 ((aJ:Nat):Int)),(50,.int .i64 ((aY.conds.length:Nat):Int)),(49,.slice b1.1.1 aY.conds.length b1.1.2),(10,.int .i64 ((a9:Nat):Int)),(9,.pointer (some ⟨g9,0,none⟩)),(4,.pointer (some ⟨g4,0,none⟩)),(2,.slice aW l4.length aX)]) (fun (b5,aJ,a9,a1,y,a3,a4,a5,z,a0,aA)=>[.sli 10 Q11 b1.1.1 b1.1.2 aY.conds,.sli 1 Q2v aZ b0 l3,.sli 3 QW aW aX l4]) (fun (b5,aJ,a9,a1,y,a3,a4,a5,z,a0,aA)=>[.blk g9 [.slice a3 a5 a4,.slice z aA a0] 100,.own 4 1 Q1R (.slice a3 a5 a4) a1,.own 57 3 R_V (.slice z aA a0) y,.blk g4 [.int .i64 a2,.slice aZ l3.length b0] 41]) (N,0,0,bW,bX,bY,bZ,c0,c1,c2,c3) hm [51,50,49,10,9,4,2] Z (asK [0,4,7] Z) Z (fun s_ hm=>?_))))))))))))
 obtain ⟨b5,aJ,a9,a1,y,a3,a4,a5,z,a0,aA⟩:=s_
 try dsimp only at hm ⊢
 obtain ⟨dR,dS,cO,hq,hLu1⟩:=Q10 hm
 clear hm
 subst cO
 replace hm:=hq
 clear hq
 unfold Q4s at hm
 try dsimp only at hm
 refine Q5 (Q1 (wP Z (QD (d:=52) (v':=.bool (decide (aJ < aY.conds.length))) (S':=V7 ..) Z Z (Q2E (a:=aJ) (b:=aY.conds.length)) (Q4 (Q3 (Q5 ?_))))))
 refine Qm Z (fun bK=>?_) (fun bK=>?_)
 replace hm:=Qw hm bK
 refine Q2 [51,50,49,10,9,4,2] (S':=V7 ..) Z (Qt (Q3 (Q5 ?_)))
 obtain ⟨cP,hm,hLj_3⟩:=QN hm
 unfold Q7Y at hm
 refine QF (σ:=Nat×(List Bool)×(List V)×OA×Nat×Nat×OA×Nat×Nat) (fun (aT,aB,aC,aD,aE,aF,aG,aH,aI)=>cP=.inl (aT,aB,aC)) (fun (aT,aB,aC,aD,aE,aF,aG,aH,aI)=>[(51,.int .i64 ((aJ:Nat):Int)),(50,.int .i64 ((aY.conds.length:Nat):Int)),(49,.slice b1.1.1 aY.conds.length b1.1.2),(10,.int .i64 ((aT:Nat):Int)),(9,.pointer (some ⟨g9,0,none⟩)),(4,.pointer (some ⟨g4,0,none⟩)),(2,.slice aW l4.length aX)]) (fun (aT,aB,aC,aD,aE,aF,aG,aH,aI)=>[.sli 10 Q11 b1.1.1 b1.1.2 aY.conds,.sli 1 Q2v aZ b0 l3,.sli 3 QW aW aX l4]) (fun (aT,aB,aC,aD,aE,aF,aG,aH,aI)=>[.blk g9 [.slice aD aF aE,.slice aG aI aH] 100,.own 4 1 Q1R (.slice aD aF aE) aB,.own 57 3 R_V (.slice aG aI aH) aC,.blk g4 [.int .i64 a2,.slice aZ l3.length b0] 41]) ?_ ?_
 refine Qx (Q5 (Q1 ?_))
 obtain ⟨aQ,cQ,hm⟩:=Q7 hm
 refine QT 0 aJ Z Z Z Zq Z Z Z Z Z cQ Q86 Q6t (fun dT dU dJ d4=>(Q1h Q3v 1 Z (fun b2 cR _=>?_)))
 subst cR
 refine Q1g 2 0 Z Z Z Zq Z Z Z (cs:=V10 ..) Z Q6t tA_67 Z Z (Q13 Z Z Z Zq Z tZ_67 Z (fun dV=>(wS 0 0 Z Q6t (all':=V10 ..) Z (H':=V5 ..) Z (Q4 (Q3 (Q2 [12,51,50,49,10,9,4,2] (S':=V8 ..) Z (Q5 (Q1 (wF Z Q6o (wD 0 0 Z tS_53 tA_53 Z (Q4 (Q3 (Q2 [56,12,51,50,49,10,9,4,2] (S':=V9 ..) Z (Qx ?_))))))))))))))
 refine Q5 (Q1 (wP Z (wP Z (Q4 (Q3 (Q2 [88,56,12,51,50,49,10,9,4,2] (S':=V10 ..) Z ?_))))))
 refine Qm Z (fun bL=>?_) (fun bL=>?_)
 replace hm:=Qw hm bL
 refine Q2 [12,51,50,49,10,9,4,2] (S':=V8 ..) Z (Q5 (Q1 (wF Z Q93 (QM 0 3 Z Z Z Zq Z Z Z (cs:=V7 ..) Z Q52 Q6E Z Z (wF Z Q8z (wD 1 1 Z Q5i Q5f Z (Q3H 3 Z (fun aP _=>?_))))))))
 subst aP
 obtain ⟨⟨d5,c4,d6,bM⟩,cS,hm⟩:=Q7 hm
 try dsimp only at hm
 refine Qa7 [] [0,1,2,3,4] [3] Z Z Z Zq Z Z fn_44 Z (w_expr_Eval_s N aQ.test.kind aQ.test.value.k aQ.test.value.n aQ.test.value.s aQ.test.var aQ.test.op b2.2.1 b2.2.2 aQ.test.kids z a0 y _ _ _ _ cS) (fun F w hφ hh=>(Q1j (hφ _ (Q1W (k:=1) Z)) (Q1j (Q5R (hh _ (Q1W (k:=0) Z))) Q1n))) (fun _ _ _ hR=>by obtain ⟨rfl,rfl,rfl⟩:=hR;exact ⟨Z,(fun _ h=>Q8m h)⟩) Z Z (H':=V5 ..) Z ?_
 rintro _ _ _ ⟨rfl,rfl,rfl⟩
 refine wP Z (wP Z (wP Z (Q13 Z Z Z Zq Z Q1Q Z (fun dW=>(wS 0 0 Z QB (all':=V3 ..) Z (H':=V6 ..) Z (wP Z (Q4 (Q3 (Q2 [14,13,51,50,49,10,9,4,2] (S':=V9 ..) Z (Q5 ?_))))))))))
 obtain ⟨cT,hm,hLj_4⟩:=Q7 hm
 refine QF (σ:=Bool) (fun aS=>cT=aS) (fun aS=>[(51,.int .i64 ((aJ:Nat):Int)),(50,.int .i64 ((aY.conds.length:Nat):Int)),(49,.slice b1.1.1 aY.conds.length b1.1.2),(10,.int .i64 ((a9:Nat):Int)),(9,.pointer (some ⟨g9,0,none⟩)),(4,.pointer (some ⟨g4,0,none⟩)),(2,.slice aW l4.length aX),(109,.bool aS)]) (fun aS=>[.sli 10 Q11 b1.1.1 b1.1.2 aY.conds,.sli 1 Q2v aZ b0 l3,.sli 3 QW aW aX l4]) (fun aS=>[.blk g9 [.slice a3 a5 a4,.slice z y.length a0] 100,.own 4 1 Q1R (.slice a3 a5 a4) a1,.own 57 3 R_V (.slice z y.length a0) y,.blk g4 [.int .i64 a2,.slice aZ l3.length b0] 41]) ?_ ?_
 refine Q1 (wP Z (wP Z (QD (d:=99) (v':=.bool (bM !=0)) (S':=V10 ..) Z Z (natne (a:=bM) (b:=0)) (wP Z ?_))))
 refine Qr (d:=100) (S':=V11 ..) Z Z (fun b6=>?_) (fun b6=>?_)
 replace hm:=Qw hm b6
 refine wO Z (wO Z (wO Z (wP Z (wP Z (wO Z (wO Z (wO Z (wP Z (Q4 ?_)))))))))
 have hE:=(Zi hm).symm
 refine Qu [2,3,4,5] Z (H':=V4 ..) Z ?_
 refine Qd true hE [51,50,49,10,9,4,2,109] Z (asK [4,5,6] Z) Z
 replace hm:=Qv hm b6
 refine wF Z Q9T (wD 0 0 Z tS_55 tA_55 Z (wP Z (wP Z (wP Z ?_))))
 refine Qr (d:=105) (S':=V16 ..) Z Z (fun b7=>?_) (fun b7=>?_)
 replace hm:=Qw hm b7
 refine wO Z (wO Z (wO Z (wP Z (Q4 ?_))))
 have hE:=(Zi hm).symm
 refine Qu [2,3,4,5] Z (H':=V4 ..) Z ?_
 refine Qd true hE [51,50,49,10,9,4,2,109] Z (asK [4,5,6] Z) Z
 replace hm:=Qv hm b7
 refine wF Z Q1Z (wD 0 1 Z Q6p Q6n Z (wP Z (wP Z (Q4 ?_))))
 have hE:=(Zi hm).symm
 refine Qu [2,3,4,5] Z (H':=V4 ..) Z ?_
 refine Qd (c4==0) hE [51,50,49,10,9,4,2,109] Z (asK [4,5,6] Z) Z
 rintro aS hE
 try dsimp only
 have hm:=hLj_4
 try rw [hE] at hm
 refine Qm Z (fun b8=>?_) (fun b8=>?_)
 replace hm:=Qw hm b8
 refine Q2 [] (S':=[]) Z (Q5 (Q1 (wP Z (wP Z (Q4 (Q3 (Qk (Qa (Qa (Q8 (Q8 (Qa (Q8 ?_)))))))))))))
 have hE:=(Zi hm).symm
 replace hE:=Qn hLj_3 hE
 replace hE:=Qn hLu1 hE
 replace hE:=Qn hLj_2 hE
 obtain ⟨hE0,hE1⟩:=Prod.mk.inj hE
 clear hE
 replace hE0:=hE0.symm
 subst hE0
 replace hE1:=hE1.symm
 subst hE1
 refine Q2T 57 3 R_V ?_
 refine QH (Hr:=[_]) [0] Tryz.results18 (Qb Z) (Qb Z) ⟨none,0,0,Z,Z,Z⟩ (asK [] Z) Z Z (.inl Z)
 replace hm:=Qv hm b8
 refine Q2 [51,50,49,10,9,4,2] (S':=V7 ..) Z (Qt (Qf (Qf ?_)))
 have hE:=(Zi hm).symm
 refine Qd (a9,a1,y,a3,a4,a5,z,a0,y.length) hE [51,50,49,10,9,4,2] Z (asK [0,1,2] Z) Z
 replace hm:=Qv hm bL
 refine Q2 [56,12,51,50,49,10,9,4,2] (S':=V9 ..) Z (Q5 (Q1 (wP Z (wP Z (Q4 (Q3 (Q2 [110,12,51,50,49,10,9,4,2] (S':=V9 ..) Z ?_)))))))
 refine Qm Z (fun b9=>?_) (fun b9=>?_)
 replace hm:=Qw hm b9
 refine Q2 [12,51,50,49,10,9,4,2] (S':=V8 ..) Z (Q5 (Q1 (QM 0 0 Z Z Z Zq Z Z Z (cs:=V10 ..) Z Q6t tA_67 Z Z (QM 1 0 Z Z Z Zq Z Z Z (cs:=[_,_]) Z Q5G Q8w Z Z (wP Z (Q3H 2 Z (fun aU _=>?_)))))))
 subst aU
 refine Q3H 3 Z (fun aP _=>?_)
 subst aP
 obtain ⟨dK,c5,hm⟩:=Q7 hm
 refine Qa7 [] [0,1,2,3,4] [2,3] Z Z Z Zq Z Z fn_45 Z (w_pattern_Some_s N aQ.kind aQ.type b2.1.1 b2.1.2 aQ.args aQ.test.kind aQ.test.value.k aQ.test.value.n aQ.test.value.s aQ.test.var aQ.test.op b2.2.1 b2.2.2 aQ.test.kids a3 a4 a1 z a0 y aW aX l4 _ c5) (fun F w hφ hh=>(Q1j (hφ _ (Q1W (k:=0) Z)) (Q1j (hφ _ (Q1W (k:=1) Z)) (Q1j (Q5R (hh _ (Q1W (k:=0) Z))) (Q1j (Q5R (hh _ (Q1W (k:=1) Z))) (Q1j (hφ _ (Q1W (k:=6) Z)) Q1n)))))) (fun _ _ _ hR=>by obtain ⟨rfl,rfl,rfl⟩:=hR;exact ⟨Z,(fun _ h=>Q8m h)⟩) Z Z (H':=V5 ..) Z ?_
 rintro _ _ _ ⟨rfl,rfl,rfl⟩
 refine Q4 (Q3 (Q2 [115,51,50,49,10,9,4,2] (S':=V8 ..) Z ?_))
 refine Qm Z (fun bA=>?_) (fun bA=>?_)
 replace hm:=Qw hm bA
 refine Q2 [] (S':=[]) Z (Q5 (Q1 (wP Z (wP Z (Q4 (Q3 (Qk (Qa (Qa (Q8 (Q8 (Qa (Q8 ?_)))))))))))))
 have hE:=(Zi hm).symm
 replace hE:=Qn hLj_3 hE
 replace hE:=Qn hLu1 hE
 replace hE:=Qn hLj_2 hE
 obtain ⟨hE0,hE1⟩:=Prod.mk.inj hE
 clear hE
 replace hE0:=hE0.symm
 subst hE0
 replace hE1:=hE1.symm
 subst hE1
 refine Q2T 57 3 R_V ?_
 refine QH (Hr:=[_]) [0] Tryz.results18 (Qb Z) (Qb Z) ⟨none,0,0,Z,Z,Z⟩ (asK [] Z) Z Z (.inl Z)
 replace hm:=Qv hm bA
 refine Q2 [51,50,49,10,9,4,2] (S':=V7 ..) Z (Qt (Qf (Qf ?_)))
 have hE:=(Zi hm).symm
 refine Qu [1,2,3,4] Z (H':=V4 ..) Z ?_
 refine Qd (a9,a1,y,a3,a4,a1.length,z,a0,y.length) hE [51,50,49,10,9,4,2] Z (asK [4,5,6] Z) Z
 replace hm:=Qv hm b9
 refine Q2 [12,51,50,49,10,9,4,2] (S':=V8 ..) Z (Q5 (Q5 (Q1 (wP Z (wF Z Q9R (wD 4 1 Z tS_39 tA_39 Z (wN Z Q6i (wP Z (QD (d:=61) (v':=.bool (decide (l3.length≤a9))) (S':=V12 ..) Z Z (natge (a:=a9) (b:=l3.length)) (Q4 (Q3 (Q2 [61,12,51,50,49,10,9,4,2] (S':=V9 ..) Z ?_))))))))))))
 refine Qm Z (fun bN=>?_) (fun bN=>?_)
 replace hm:=Qw hm bN
 refine Q2 [] (S':=[]) Z (Q5 (Q1 (wP Z (wP Z (Q4 (Q3 (Qk (Q8 (Qa (Qa (Q8 (Q8 (Qa ?_)))))))))))))
 refine Q8 ?_
 have hE:=(Zi hm).symm
 replace hE:=Qn hLj_3 hE
 replace hE:=Qn hLu1 hE
 replace hE:=Qn hLj_2 hE
 obtain ⟨hE0,hE1⟩:=Prod.mk.inj hE
 clear hE
 replace hE0:=hE0.symm
 subst hE0
 replace hE1:=hE1.symm
 subst hE1
 refine Q2T 57 3 R_V ?_
 refine QH (Hr:=[_]) [0] Tryz.results18 (Qb Z) (Qb Z) ⟨none,0,0,Z,Z,Z⟩ (asK [] Z) Z Z (.inl Z)
 replace hm:=Qv hm bN
 refine Q2 [12,51,50,49,10,9,4,2] (S':=V8 ..) Z (Qt (Q3 (Q5 (Q1 (wP Z (wF Z Q9R (wD 4 1 Z tS_39 tA_39 Z (wP Z ?_))))))))
 obtain ⟨d7,cU,hm⟩:=Q7 hm
 refine QT 5 a9 Z Z Z Zq Z Z Z Z Z cU Q6i QZ (fun dX dY dL d8=>(Q1h Q8Q 1 Z (fun dZ cV _=>?_)))
 subst cV
 refine Q1g 0 0 Z Z Z Zq Z Z Z (cs:=[_]) Z QZ Q15 Z Z ?_
 obtain ⟨⟨c6,d9⟩,cW,hm⟩:=Q7 hm
 try dsimp only at hm
 refine wC [] [0,1,2,3,4] Z fn_46 Z (Q7q N aW aX l4 d7 _ _ cW) (asK [8] Z) Z (H':=V5 ..) Z ?_
 rintro _ _ _ ⟨rfl,rfl,rfl⟩
 refine wP Z (wP Z (wP Z (wP Z (wP Z (Q4 (Q3 (Q2 [16,15,12,51,50,49,10,9,4,2] (S':=V10 ..) Z (Q5 (Q5 (Q1 (wP Z (wP Z (Q4 ?_)))))))))))))
 refine Q3 (Q2 [73,15,12,51,50,49,10,9,4,2] (S':=V10 ..) Z ?_)
 refine Qm Z (fun bO=>?_) (fun bO=>?_)
 replace hm:=Qw hm bO
 refine Q2 [] (S':=[]) Z (Q5 (Q1 (wP Z (wP Z (Q4 (Q3 (Qk (Q8 (Qa (Qa (Q8 (Q8 (Qa ?_)))))))))))))
 refine Q8 ?_
 have hE:=(Zi hm).symm
 replace hE:=Qn hLj_3 hE
 replace hE:=Qn hLu1 hE
 replace hE:=Qn hLj_2 hE
 obtain ⟨hE0,hE1⟩:=Prod.mk.inj hE
 clear hE
 replace hE0:=hE0.symm
 subst hE0
 replace hE1:=hE1.symm
 subst hE1
 refine Q2T 57 3 R_V ?_
 refine QH (Hr:=[_]) [0] Tryz.results18 (Qb Z) (Qb Z) ⟨none,0,0,Z,Z,Z⟩ (asK [] Z) Z Z (.inl Z)
 replace hm:=Qv hm bO
 refine Q2 [15,12,51,50,49,10,9,4,2] (S':=V9 ..) Z (Qt (Q3 (Q5 (Q5 ?_))))
 obtain ⟨cX,hm⟩:=Qz hm
 obtain ⟨c7,cY,hm⟩:=Q7 hm
 obtain ⟨⟨c8,c9,dA⟩,cZ,hm⟩:=Q7 hm
 try dsimp only at hm
 refine QR [0,1,2,3,4,5,7,8,9] Z Z (fun hok=>(Ql hok 0 0 0 Z Z Z Zq Z Z Z Z (cs:=V10 ..) Z Q6t tA_67 Z Z (xP hok 1 Z (xP hok 2 Z (Q1B hok 3 8 c6.toNat Z Z Z Zq Z Z Z Z Z (Q1I cX) cY Q6s Q5Z (fun e0 e1 dM dB=>(Q1X Q2k 1 Z (fun d0 d1 _=>?_))))))))
 subst d1
 refine Q2J hok 4 1 0 Z Z Z Zq Z Z Z Z (cs:=V3 ..) Z Q5Z tA_71 Z Z (Ql hok 5 1 0 Z Z Z Zq Z Z Z Z (cs:=[_,_]) Z Q5G Q8w Z Z (xS hok 6 Z (Q3H 2 Z (fun aU _=>?_))))
 subst aU
 refine Q3H 3 Z (fun aP _=>?_)
 subst aP
 refine Qa7 [] [0,1,2,3,4] [2,3] Z Z Z Zq Z Z fn_49 Z (Q98 N aQ.kind aQ.type b2.1.1 b2.1.2 aQ.args aQ.test.kind aQ.test.value.k aQ.test.value.n aQ.test.value.s aQ.test.var aQ.test.op b2.2.1 b2.2.2 aQ.test.kids c7.id c7.ty d0.1 d0.2 c7.args a3 a4 a1 z a0 y _ _ _ cZ) (fun F w hφ hh=>(Q1j (hφ _ (Q1W (k:=5) Z)) (Q1j (hφ _ (Q1W (k:=6) Z)) (Q1j (hφ _ (Q1W (k:=0) Z)) (Q1j (Q5R (hh _ (Q1W (k:=0) Z))) (Q1j (Q5R (hh _ (Q1W (k:=1) Z))) Q1n)))))) (fun _ _ _ hR=>by obtain ⟨_,_,_,_,_,_,rfl,rfl,rfl⟩:=hR;exact ⟨Z,(free_cons (own_free mkRep_free) (free_cons (own_free mkRep_free) (fun _ h=>Q8m h)))⟩) Z Z (H':=V5 ..) Z ?_
 rintro _ _ _ ⟨cA,cB,cC,cD,cE,cF,rfl,rfl,rfl⟩
 refine Q4 (Q12 [0,1,2,3,4,5,6,7,8,9,10,11] [] Z Z (xP hok 7 Z (xP hok 8 Z (xP hok 9 Z (xS hok 10 Z (wS 3 0 Z Q5G (all':=[_,_]) Z (H':=V7 ..) Z (Q4 (Q12 [0,1,2,3,4,5,6,7,8,9,10,11] [] Z Z (xS hok 11 Z (wP Z (Q4 (Q12 [0,1,2,3,4,5,6,7,8,9,10,11] [] Z Z (QO hok Z ?_)))))))))))))
 refine Q3 (Q2 [16,51,50,49,10,9,4,2] (S':=V8 ..) Z (Q5 (Q1 (wP Z (wP Z (Q4 (Q3 (Q2 [85,51,50,49,10,9,4,2] (S':=V8 ..) Z ?_))))))))
 refine Qm Z (fun bP=>?_) (fun bP=>?_)
 replace hm:=Qw hm bP
 refine Q2 [] (S':=[]) Z (Q5 (Q1 (wP Z (wP Z (Q4 (Q3 (Qk (Q8 (Qa (Qa (Q8 (Q8 (Qa ?_)))))))))))))
 refine Q8 ?_
 have hE:=(Zi hm).symm
 replace hE:=Qn hLj_3 hE
 replace hE:=Qn hLu1 hE
 replace hE:=Qn hLj_2 hE
 obtain ⟨hE0,hE1⟩:=Prod.mk.inj hE
 clear hE
 replace hE0:=hE0.symm
 subst hE0
 replace hE1:=hE1.symm
 subst hE1
 refine Q2T 57 3 R_V ?_
 refine QH (Hr:=[_]) [0] Tryz.results18 (Qb Z) (Qb Z) ⟨none,0,0,Z,Z,Z⟩ (asK [] Z) Z Z (.inl Z)
 replace hm:=Qv hm bP
 refine Q2 [51,50,49,10,9,4,2] (S':=V7 ..) Z (Qt (Q3 (Q1 (wP Z (wP Z ?_)))))
 obtain ⟨d2,hm⟩:=Qz hm
 refine QD (d:=87) (v':=.int .i64 ((a9+1:Nat):Int)) (S':=V8 ..) Z Z (Q1f (a:=a9) (b:=1) d2) (QS (S':=V8 ..) Z Z Z Z Z (Q4 (Qf (Qf ?_))))
 have hE:=(Zi hm).symm
 refine Qu [3,0,1,6] Z (H':=V4 ..) Z ?_
 refine Qd (a9+1,c8,c9,cA,cB,cC,cD,cE,cF) hE [51,50,49,10,9,4,2] Z (asK [9,10,11] Z) Z
 rintro ⟨aT,aB,aC,aD,aE,aF,aG,aH,aI⟩ hE
 try dsimp only
 have hm:=QA hLj_3 hE
 try dsimp only at hm
 refine Q1 (wP Z ?_)
 obtain ⟨cG,hm⟩:=Qz hm
 refine QD (d:=116) (v':=.int .i64 ((aJ+1:Nat):Int)) (S':=V7 ..) Z Z (Q1f (a:=aJ) (b:=1) cG) (QS (S':=V7 ..) Z Z Z Z Z (Q4 ?_))
 have hE:=(Zi hm).symm
 replace hE:=QA hLu1 hE
 refine QY (_,aJ+1,aT,aB,aC,aD,aE,aF,aG,aH,aI) (Nat.lt_succ_self _) hE [51,50,49,10,9,4,2] Z (asK [0,1,2] Z) Z
 replace hm:=Qv hm bK
 refine Q2 [10,9,4] (S':=V3 ..) Z (Q1k (Qo (Qo (QG ?_))))
 have hE:=(Zi hm).symm
 replace hE:=Qn hLu1 hE
 refine Qd (a9,a1,y,a3,a4,a5,z,a0,aA) hE [10,9,4] Z (asK [1] Z) Z
 rintro ⟨aR,aK,aL,aM,aN,aO,a6,a7,a8⟩ hE
 try dsimp only
 have hm:=QA hLj_2 hE
 try dsimp only at hm
 refine Q5 (Q5 (Q1 (wP Z (wF Z Q9R (wD 3 1 Z tS_39 tA_39 Z (wN Z Q6i (wP Z (QD (d:=121) (v':=.bool (decide (aR < l3.length))) (S':=V7 ..) Z Z (Q2E (a:=aR) (b:=l3.length)) (Q4 (Q3 (Q2 [121,9] (S':=[_,_]) Z ?_)))))))))))
 refine Qm Z (fun bB=>?_) (fun bB=>?_)
 replace hm:=Qw hm bB
 refine Q2 [] (S':=[]) Z (Q5 (Q1 (wP Z (wP Z (Q4 (Q3 (Qk (Q8 ?_))))))))
 have hE:=(Zi hm).symm
 obtain ⟨hE0,hE1⟩:=Prod.mk.inj hE
 clear hE
 replace hE0:=hE0.symm
 subst hE0
 replace hE1:=hE1.symm
 subst hE1
 refine Q2T 57 3 R_V ?_
 refine QH (Hr:=[_]) [0] Tryz.results18 (Qb Z) (Qb Z) ⟨none,0,0,Z,Z,Z⟩ (asK [] Z) Z Z (.inl Z)
 replace hm:=Qv hm bB
 refine Q2 [9] (S':=[_]) Z (Qt (Q3 (Q5 (Q1 (wF Z Q8z (wD 0 1 Z Q5i Q5f Z (wP Z (wP Z (Q4 (Q3 (Q2 [7,6] (S':=[_,_]) Z (Qk ?_))))))))))))
 have hE:=(Zi hm).symm
 obtain ⟨hE0,hE1⟩:=Prod.mk.inj hE
 clear hE
 replace hE0:=hE0.symm
 subst hE0
 replace hE1:=hE1.symm
 subst hE1
 refine QH (Hr:=[_]) [2] Tryz.results18 (Qb Z) (Qb Z) ⟨a6,a7,a8,Z,Z,Z⟩ (asK [] Z) Z Z (.inl Z)
theorem Qa3 (N:Nat)(a2:OA)(a3:Nat)(l0:List Int)(a4:OA)(a5:Nat)(l1:List Int)(o0:Bool)(hm:Q4d N l0 l1=some o0):Q1d Tryz.prog 51 [.slice a2 l0.length a3,.slice a4 l1.length a5] [.sli 1 Q2v a2 a3 l0,.sli 1 Q2v a4 a5 l1] [] (fun v Φr Hr=>v=.bool o0∧Φr=[]∧Hr=[]):=by
 unfold Q4d at hm
 refine QI Tryz.func51 Z Tryz.ntmps51 Z (S:=[_,_]) Z (fun C=>(Q5 (Q1 (wP Z (Q4 (Q3 (Q2 [0,1] (S':=[_,_]) Z (Q5 (Q5 (Q1 (wP Z (wN Z Q6i (wP Z (wN Z Q6i ?_))))))))))))))
 refine wP Z (QD (d:=10) (v':=.bool (l0.length !=l1.length)) (S':=V6 ..) Z Z (natne (a:=l0.length) (b:=l1.length)) (Q4 (Q3 (Q2 [10,0,1] (S':=V3 ..) Z ?_))))
 refine Qm Z (fun y=>?_) (fun y=>?_)
 replace hm:=Qw hm y
 refine Q2 [] (S':=[]) Z (Q5 (Q1 (wP Z (Q4 (Q3 (Qk (Q8 ?_)))))))
 have hE:=(Zi hm).symm
 replace hE:=hE.symm
 subst hE
 refine Qq (Hr:=[]) [] Tryz.results51 (Qb Z) ⟨Z,Z,Z⟩ (asK [] Z) Z Z (.inl Z)
 replace hm:=Qv hm y
 refine Q2 [0,1] (S':=[_,_]) Z (Qt (Q3 (Q5 ?_)))
 obtain ⟨a7,hm,hLj_1⟩:=QN hm
 refine QF (σ:=Unit) (fun _=>a7=.inl ()) (fun _=>[]) (fun _=>[]) (fun _=>[]) ?_ ?_
 refine Q5 (Q1 (wP Z (Q4 (Q3 (Qx (Q1o (σ:=Nat×Nat) (fun (s,h)=>Q19 (Q3p N l0 l1) s h=some a7) (fun (s,h)=>s) (fun (s,h)=>[(5,.int .i64 ((h:Nat):Int)),(0,.slice a2 l0.length a3),(1,.slice a4 l1.length a5)]) (fun (s,h)=>[.sli 1 Q2v a2 a3 l0,.sli 1 Q2v a4 a5 l1]) (fun (s,h)=>[]) (N,0) hm [5,0,1] Z (asK [0,1] Z) Z (fun s_ hm=>?_)))))))
 obtain ⟨s,h⟩:=s_
 try dsimp only at hm ⊢
 obtain ⟨aJ,aK,a8,hq,hLu1⟩:=Q10 hm
 clear hm
 subst a8
 replace hm:=hq
 clear hq
 unfold Q3p at hm
 try dsimp only at hm
 refine Q5 (Q5 (Q1 (wP Z (wP Z (wN Z Q6i (wP Z (QD (d:=14) (v':=.bool (decide (h < l0.length))) (S':=V6 ..) Z Z (Q2E (a:=h) (b:=l0.length)) (Q4 (Q3 (Q2 [14,5,0,1] (S':=V4 ..) Z ?_))))))))))
 refine Qm Z (fun z=>?_) (fun z=>?_)
 replace hm:=Qw hm z
 refine Q2 [5,0,1] (S':=V3 ..) Z (Qt (Q3 (Q5 (Qx (Q5 ?_)))))
 obtain ⟨aL,a9,hm⟩:=Q7 hm
 obtain ⟨aM,aA,hm⟩:=Q7 hm
 refine QR [0,1,2,3,4,5,6,7,8] Z Z (fun hok=>(xP hok 0 Z (xP hok 1 Z (Q1B hok 2 0 h Z Z Z Zq Z Z Z Z Z Z a9 Q6i QZ (fun aN aO aH aE=>(Q1X Q8Q 1 Z (fun aP aB _=>?_)))))))
 subst aB
 refine Q2J hok 3 0 0 Z Z Z Zq Z Z Z Z (cs:=[_]) Z QZ Q15 Z Z (xP hok 4 Z (xP hok 5 Z (Q1B hok 6 3 h Z Z Z Zq Z Z Z Z Z Z aA Q6i QZ (fun aQ aR aI aF=>(Q1X Q8Q 1 Z (fun aS aC _=>?_))))))
 subst aC
 refine Q2J hok 7 0 0 Z Z Z Zq Z Z Z Z (cs:=[_]) Z QZ Q15 Z Z (xP hok 8 Z (QO hok Z (Q3 (Q2 [25,5,0,1] (S':=V4 ..) Z ?_))))
 refine Qm Z (fun a0=>?_) (fun a0=>?_)
 replace hm:=Qw hm a0
 refine Q2 [] (S':=[]) Z (Q5 (Q1 (wP Z (Q4 (Q3 (Qk (Qa (Q8 (Q8 (Qa (Q8 ?_)))))))))))
 have hE:=(Zi hm).symm
 replace hE:=Qn hLu1 hE
 replace hE:=Qn hLj_1 hE
 replace hE:=hE.symm
 subst hE
 refine Qq (Hr:=[]) [] Tryz.results51 (Qb Z) ⟨Z,Z,Z⟩ (asK [] Z) Z Z (.inl Z)
 replace hm:=Qv hm a0
 refine Q2 [5,0,1] (S':=V3 ..) Z (Qt (Qf (Q3 (Q1 (wP Z (wP Z ?_))))))
 obtain ⟨aD,hm⟩:=Qz hm
 refine QD (d:=16) (v':=.int .i64 ((h+1:Nat):Int)) (S':=V4 ..) Z Z (Q1f (a:=h) (b:=1) aD) (QS (S':=V4 ..) Z Z Z Z Z (Q4 ?_))
 have hE:=(Zi hm).symm
 replace hE:=QA hLu1 hE
 refine QY (_,h+1) (Nat.lt_succ_self _) hE [5,0,1] Z (asK [4,5] Z) Z
 replace hm:=Qv hm z
 refine Q2 [] (S':=[]) Z (Q1k (Qo (Qo (QG ?_))))
 have hE:=(Zi hm).symm
 replace hE:=Qn hLu1 hE
 refine Qd () hE [] Z (asK [] Z) Z
 rintro _ hE
 try dsimp only
 have hm:=QA hLj_1 hE
 try dsimp only at hm
 refine Q5 (Q1 (wP Z (Q4 (Q3 (Qk ?_)))))
 have hE:=(Zi hm).symm
 replace hE:=hE.symm
 subst hE
 refine Qq (Hr:=[]) [] Tryz.results51 (Qb Z) ⟨Z,Z,Z⟩ (asK [] Z) Z Z (.inl Z)
theorem Qa1 (N:Nat)(aR:OA)(aS:Nat)(l0:List Qg)(aT:OA)(aU:Nat)(l1:List Qj)(a2:Int)(aN:OA)(aO:Nat)(l3:List Int)(aV:OA)(aW:Nat)(l4:List QP)(o2:List V)(o3:Bool)(hm:Q4b N l0 l1 a2 l3 l4=some (o2,o3)):Q1d Tryz.prog 19 [.agg #[.slice aR l0.length aS,.slice aT l1.length aU],.agg #[.int .i64 a2,.slice aN l3.length aO],.slice aV l4.length aW] [.sli 2 Qh aR aS l0,.sli 5 Qi aT aU l1,.sli 1 Q2v aN aO l3,.sli 3 QW aV aW l4] [] (fun v Φr Hr=>∃ (o0:OA)(o1:Nat),v=.tuple #[.slice o0 o2.length o1,.bool o3]∧Φr=[.sli 3 R_V o0 o1 o2]∧Hr=[]):=by
 unfold Q4b at hm
 refine QI Tryz.func19 Z Tryz.ntmps19 Z (S:=V3 ..) Z (fun C=>(Q5 (Q1 (wB Z (fun g3=>(wB Z (fun g4=>(wP Z (wP Z (Q4 (Q3 (Q2 [4,3,2] (S':=V3 ..) Z (Q5 (Q5 ?_))))))))))))))
 obtain ⟨bS,hm,hLj_1⟩:=Q7 hm
 unfold Q4m at hm
 refine QF (σ:=Bool) (fun aP=>bS=aP) (fun aP=>[(4,.pointer (some ⟨g4,0,none⟩)),(3,.pointer (some ⟨g3,0,none⟩)),(2,.slice aV l4.length aW),(35,.bool aP)]) (fun aP=>[.sli 1 Q2v aN aO l3,.sli 2 Qh aR aS l0,.sli 5 Qi aT aU l1,.sli 3 QW aV aW l4]) (fun aP=>[.blk g4 [.int .i64 a2,.slice aN l3.length aO] 41,.blk g3 [.slice aR l0.length aS,.slice aT l1.length aU] 25]) ?_ ?_
 refine Q1 (QM 1 0 Z Z Z Zq Z Z Z (cs:=[_,_]) Z tS_25 tA_25 Z Z ?_)
 obtain ⟨d6,bT,hm⟩:=Q7 hm
 refine wC [] [0,1] Z fn_34 Z (Q71 N aR aS l0 aT aU l1 _ bT) (asK [0,1] Z) Z (H':=[_,_]) Z ?_
 rintro _ _ _ ⟨rfl,rfl,rfl⟩
 refine wP Z (wP Z ?_)
 refine Qr (d:=17) (S':=V6 ..) Z Z (fun bC=>?_) (fun bC=>?_)
 replace hm:=Qw hm bC
 refine wO Z (wO Z (wO Z (wO Z (wP Z (wP Z (wO Z (wO Z (wO Z (wP Z (wP Z (wO Z (wO Z (wO Z ?_)))))))))))))
 refine wO Z (wO Z (wO Z (wP Z (Q4 ?_))))
 have hE:=(Zi hm).symm
 refine Qd true hE [4,3,2,35] Z (asK [2,0,1,3] Z) Z
 replace hm:=Qv hm bC
 refine QM 1 0 Z Z Z Zq Z Z Z (cs:=[_,_]) Z tS_25 tA_25 Z Z (wP Z ?_)
 obtain ⟨d7,bU,hm⟩:=Q7 hm
 refine wC [] [0,1] Z fn_35 Z (Q73 N aR aS l0 aT aU l1 aV aW l4 _ bU) (asK [0,1,3] Z) Z (H':=[_,_]) Z ?_
 rintro _ _ _ ⟨rfl,rfl,rfl⟩
 refine wP Z (wP Z (wP Z ?_))
 refine Qr (d:=23) (S':=V12 ..) Z Z (fun bD=>?_) (fun bD=>?_)
 replace hm:=Qw hm bD
 refine wO Z (wO Z (wO Z (wP Z (wP Z (wO Z (wO Z (wO Z (wO Z (wO Z (wO Z (wP Z (Q4 ?_))))))))))))
 have hE:=(Zi hm).symm
 refine Qd true hE [4,3,2,35] Z (asK [2,0,1,3] Z) Z
 replace hm:=Qv hm bD
 refine wF Z Q9Q (wD 0 0 Z QZ Q15 Z (wP Z (wP Z (wP Z ?_))))
 refine Qr (d:=28) (S':=V17 ..) Z Z (fun bE=>?_) (fun bE=>?_)
 replace hm:=Qw hm bE
 refine wO Z (wO Z (wO Z (wO Z (wO Z (wO Z (wP Z (Q4 ?_)))))))
 have hE:=(Zi hm).symm
 refine Qd true hE [4,3,2,35] Z (asK [2,0,1,3] Z) Z
 replace hm:=Qv hm bE
 refine wF Z Q9Q (wD 0 0 Z QZ Q15 Z (wF Z Q4Z (wD 1 1 Z Q7u Q7t Z (wN Z Q6X (wP Z (wP Z (Q4 ?_)))))))
 have hE:=(Zi hm).symm
 refine Qd (decide (a2 ≥ ((l1.length:Nat):Int))) hE [4,3,2,35] Z (asK [2,0,1,3] Z) Z
 rintro aP hE
 try dsimp only
 have hm:=hLj_1
 try rw [hE] at hm
 refine Qm Z (fun bF=>?_) (fun bF=>?_)
 replace hm:=Qw hm bF
 refine Q2 [] (S':=[]) Z (Q5 (Q1 (wP Z (wP Z (Q4 (Q3 (Qk (Q8 ?_))))))))
 have hE:=(Zi hm).symm
 obtain ⟨hE0,hE1⟩:=Prod.mk.inj hE
 clear hE
 replace hE0:=hE0.symm
 subst hE0
 replace hE1:=hE1.symm
 subst hE1
 refine Q7J (.sli 3 R_V none 0 ([] : List V)) (fun _ _ _=>Q7O) ?_
 refine QH (Hr:=[]) [] Tryz.results19 (Qb Z) (Qb Z) ⟨none,0,Z,Z,Z⟩ (asK [0] Z) Z Z (.inl Z)
 replace hm:=Qv hm bF
 refine Q2 [4,3,2] (S':=V3 ..) Z (Qt (Q3 (Q5 (Q1 (Q1F Z Z Z Zq Z tZ_93 tP_93 Z (out:=[_,_]) Z (Q13 Z Z Z Zq Z tZ_93 Z (fun g8=>(wS 0 0 Z Q96 (all':=[_,_]) Z (H':=V3 ..) Z (Q4 (Q3 (Q2 [8,4,3,2] (S':=V4 ..) Z (Q5 ?_))))))))))))
 obtain ⟨bM,hm,hLj_2⟩:=QN hm
 refine QF (σ:=(List Int)×(List V)×OA×Nat×OA×Nat) (fun (a5,a8,a9,aA,aB,aC)=>bM=.inl (a5,a8)) (fun (a5,a8,a9,aA,aB,aC)=>[(8,.pointer (some ⟨g8,0,none⟩)),(4,.pointer (some ⟨g4,0,none⟩))]) (fun (a5,a8,a9,aA,aB,aC)=>[.sli 1 Q2v a9 aA a5,.sli 3 R_V aB aC a8,.sli 1 Q2v aN aO l3]) (fun (a5,a8,a9,aA,aB,aC)=>[.blk g8 [.slice a9 a5.length aA,.slice aB a8.length aC] 93,.blk g4 [.int .i64 a2,.slice aN l3.length aO] 41]) ?_ ?_
 refine Q5 (Q1 (wP Z (Q4 (Q3 (Qx (wc_fact (.sli 1 Q2v none 0 ([] : List Int)) (fun _ _ _=>Q7O) (wc_fact (.sli 3 R_V none 0 ([] : List V)) (fun _ _ _=>Q7O) (Q1o (σ:=Nat×Nat×(List Int)×(List V)×OA×Nat×OA×Nat) (fun (b2,aM,h,y,z,a0,a1,a3)=>Q19 (Q25 N a2 l1 l4 l3) b2 (aM,h,y)=some bM) (fun (b2,aM,h,y,z,a0,a1,a3)=>b2) (fun (b2,aM,h,y,z,a0,a1,a3)=>[(9,.int .i64 ((aM:Nat):Int)),(8,.pointer (some ⟨g8,0,none⟩)),(4,.pointer (some ⟨g4,0,none⟩)),(3,.pointer (some ⟨g3,0,none⟩)),(2,.slice aV l4.length aW)]) (fun (b2,aM,h,y,z,a0,a1,a3)=>[.sli 1 Q2v z a0 h,.sli 3 R_V a1 a3 y,.sli 1 Q2v aN aO l3,.sli 2 Qh aR aS l0,.sli 5 Qi aT aU l1,.sli 3 QW aV aW l4]) (fun (b2,aM,h,y,z,a0,a1,a3)=>[.blk g8 [.slice z h.length a0,.slice a1 y.length a3] 93,.blk g4 [.int .i64 a2,.slice aN l3.length aO] 41,.blk g3 [.slice aR l0.length aS,.slice aT l1.length aU] 25]) (N,0,[],[],none,0,none,0) hm [9,8,4,3,2] Z (asK [1,0,2,3,4,5] Z) Z (fun s_ hm=>?_)))))))))
 obtain ⟨b2,aM,h,y,z,a0,a1,a3⟩:=s_
 try dsimp only at hm ⊢
 obtain ⟨d8,d9,bV,hq,hLu1⟩:=Q10 hm
 clear hm
 subst bV
 replace hm:=hq
 clear hq
 unfold Q25 at hm
 try dsimp only at hm
 refine Q5 (Q5 (Q1 (wP Z (wF Z Q4Z (wD 2 1 Z Q7u Q7t Z (wF Z Q9Q (wD 1 0 Z QZ Q15 Z ?_)))))))
 obtain ⟨bW,hm⟩:=Qz hm
 obtain ⟨bX,bY,hm⟩:=Q7 hm
 refine QT 4 a2.toNat Z Z Z Zq Z Z Z Z (Q1I bW) bY Q6X Q6Y (fun dA dB cX cL=>(Q1h Q28 1 Z (fun dC bZ _=>?_)))
 subst bZ
 refine wF Z Q67 (Q1g 2 3 Z Z Z Zq Z Z Z (cs:=[_]) Z Q94 Q8X Z Z (wN Z Q86 (wP Z (QD (d:=46) (v':=.bool (decide (aM < bX.conds.length))) (S':=V14 ..) Z Z (Q2E (a:=aM) (b:=bX.conds.length)) (Q4 (Q3 (Q2 [46,9,8,4,3,2] (S':=V6 ..) Z ?_)))))))
 refine Qm Z (fun bG=>?_) (fun bG=>?_)
 replace hm:=Qw hm bG
 refine Q2 [9,8,4,3,2] (S':=V5 ..) Z (Qt (Q3 (Q5 (Qx (Q5 (Q1 (wF Z Q4Z (wD 2 1 Z Q7u Q7t Z (wF Z Q9Q (wD 1 0 Z QZ Q15 Z ?_))))))))))
 obtain ⟨c0,hm⟩:=Qz hm
 obtain ⟨dD,c1,hm⟩:=Q7 hm
 refine QT 8 a2.toNat Z Z Z Zq Z Z Z Z (Q1I c0) c1 Q6X Q6Y (fun dE dF cY cM=>(Q1h Q28 1 Z (fun dG c2 _=>?_)))
 subst c2
 refine wF Z Q67 (Q1g 2 3 Z Z Z Zq Z Z Z (cs:=[_]) Z Q94 Q8X Z Z (wP Z ?_))
 obtain ⟨a4,c3,hm⟩:=Q7 hm
 refine QT 0 aM Z Z Z Zq Z Z Z Z Z c3 Q86 Q6t (fun dH dI cZ cN=>(Q1h Q3v 1 Z (fun a7 c4 _=>?_)))
 subst c4
 refine Q1g 2 0 Z Z Z Zq Z Z Z (cs:=V10 ..) Z Q6t tA_67 Z Z (Q13 Z Z Z Zq Z tZ_67 Z (fun b1=>(wS 0 0 Z Q6t (all':=V10 ..) Z (H':=V4 ..) Z (Q4 (Q3 (Q2 [10,9,8,4,3,2] (S':=V6 ..) Z (Q5 (Q1 (wP Z (wP Z (Q4 (Q3 (Q2 [11,10,9,8,4,3,2] (S':=V7 ..) Z (Q5 ?_))))))))))))))
 obtain ⟨bN,hm,hLj_3⟩:=Q7 hm
 refine QF (σ:=(List QP)×OA×Nat) (fun (aG,aI,aJ)=>bN=aG) (fun (aG,aI,aJ)=>[(11,.slice aI aG.length aJ),(10,.pointer (some ⟨b1,0,none⟩)),(9,.int .i64 ((aM:Nat):Int)),(8,.pointer (some ⟨g8,0,none⟩)),(4,.pointer (some ⟨g4,0,none⟩)),(3,.pointer (some ⟨g3,0,none⟩)),(2,.slice aV l4.length aW)]) (fun (aG,aI,aJ)=>[.sli 3 QW aI aJ aG,.sli 5 Q2w a7.1.1 a7.1.2 a4.args,.sli 7 Qs a7.2.1 a7.2.2 a4.test.kids,.sli 1 Q2v z a0 h,.sli 3 R_V a1 a3 y,.sli 1 Q2v aN aO l3,.sli 2 Qh aR aS l0,.sli 5 Qi aT aU l1,.sli 3 QW aV aW l4]) (fun (aG,aI,aJ)=>[.blk b1 [.int .u8 (a4.kind),.int .i64 (a4.type),.slice a7.1.1 a4.args.length a7.1.2,.int .u8 (a4.test.kind),.int .u8 (a4.test.value.k),.int .i64 (a4.test.value.n),.string a4.test.value.s,.int .i64 (a4.test.var),.int .u8 (a4.test.op),.slice a7.2.1 a4.test.kids.length a7.2.2] 67,.blk g8 [.slice z h.length a0,.slice a1 y.length a3] 93,.blk g4 [.int .i64 a2,.slice aN l3.length aO] 41,.blk g3 [.slice aR l0.length aS,.slice aT l1.length aU] 25]) ?_ ?_
 refine Q5 (Q1 (wF Z Q6o (wD 0 0 Z tS_53 tA_53 Z (wP Z (Q4 (Q3 (Q2 [62,11,10,9,8,4,3,2] (S':=V8 ..) Z ?_)))))))
 refine Qm Z (fun bH=>?_) (fun bH=>?_)
 replace hm:=Qw hm bH
 refine Q2 [10,9,8,4,3,2] (S':=V6 ..) Z (Q5 (Q1 (wP Z (Q4 (Q3 (Q5 (Q1 (wP Z (Q4 (Q3 (Qx (wc_fact (.sli 3 QW none 0 ([] : List QP)) (fun _ _ _=>Q7O) (Q1o (σ:=Nat×Nat×(List QP)×OA×Nat) (fun (b3,aF,a6,aD,aE)=>Q19 (Q26 N l4 h l3) b3 (aF,a6)=some bN) (fun (b3,aF,a6,aD,aE)=>b3) (fun (b3,aF,a6,aD,aE)=>[(12,.int .i64 ((aF:Nat):Int)),(11,.slice aD a6.length aE),(10,.pointer (some ⟨b1,0,none⟩)),(9,.int .i64 ((aM:Nat):Int)),(8,.pointer (some ⟨g8,0,none⟩)),(4,.pointer (some ⟨g4,0,none⟩)),(3,.pointer (some ⟨g3,0,none⟩)),(2,.slice aV l4.length aW)]) (fun (b3,aF,a6,aD,aE)=>[.sli 3 QW aD aE a6,.sli 5 Q2w a7.1.1 a7.1.2 a4.args,.sli 7 Qs a7.2.1 a7.2.2 a4.test.kids,.sli 1 Q2v z a0 h,.sli 3 R_V a1 a3 y,.sli 1 Q2v aN aO l3,.sli 2 Qh aR aS l0,.sli 5 Qi aT aU l1,.sli 3 QW aV aW l4]) (fun (b3,aF,a6,aD,aE)=>[.blk b1 [.int .u8 (a4.kind),.int .i64 (a4.type),.slice a7.1.1 a4.args.length a7.1.2,.int .u8 (a4.test.kind),.int .u8 (a4.test.value.k),.int .i64 (a4.test.value.n),.string a4.test.value.s,.int .i64 (a4.test.var),.int .u8 (a4.test.op),.slice a7.2.1 a4.test.kids.length a7.2.2] 67,.blk g8 [.slice z h.length a0,.slice a1 y.length a3] 93,.blk g4 [.int .i64 a2,.slice aN l3.length aO] 41,.blk g3 [.slice aR l0.length aS,.slice aT l1.length aU] 25]) (N,0,[],none,0) hm [12,11,10,9,8,4,3,2] Z (asK [0,1,2,13,14,15,16,17,18] Z) Z (fun s_ hm=>?_))))))))))))))
 obtain ⟨b3,aF,a6,aD,aE⟩:=s_
 try dsimp only at hm ⊢
 obtain ⟨dJ,dK,c5,hq,hLu2⟩:=Q10 hm
 clear hm
 subst c5
 replace hm:=hq
 clear hq
 unfold Q26 at hm
 try dsimp only at hm
 refine Q5 (Q5 ?_)
 obtain ⟨c6,hm,hLj_4⟩:=Q7 hm
 refine QF (σ:=Bool) (fun aQ=>c6=aQ) (fun aQ=>[(12,.int .i64 ((aF:Nat):Int)),(11,.slice aD a6.length aE),(10,.pointer (some ⟨b1,0,none⟩)),(9,.int .i64 ((aM:Nat):Int)),(8,.pointer (some ⟨g8,0,none⟩)),(4,.pointer (some ⟨g4,0,none⟩)),(3,.pointer (some ⟨g3,0,none⟩)),(2,.slice aV l4.length aW),(75,.bool aQ)]) (fun aQ=>[.sli 3 QW aD aE a6,.sli 5 Q2w a7.1.1 a7.1.2 a4.args,.sli 7 Qs a7.2.1 a7.2.2 a4.test.kids,.sli 1 Q2v z a0 h,.sli 3 R_V a1 a3 y,.sli 1 Q2v aN aO l3,.sli 2 Qh aR aS l0,.sli 5 Qi aT aU l1,.sli 3 QW aV aW l4]) (fun aQ=>[.blk b1 [.int .u8 (a4.kind),.int .i64 (a4.type),.slice a7.1.1 a4.args.length a7.1.2,.int .u8 (a4.test.kind),.int .u8 (a4.test.value.k),.int .i64 (a4.test.value.n),.string a4.test.value.s,.int .i64 (a4.test.var),.int .u8 (a4.test.op),.slice a7.2.1 a4.test.kids.length a7.2.2] 67,.blk g8 [.slice z h.length a0,.slice a1 y.length a3] 93,.blk g4 [.int .i64 a2,.slice aN l3.length aO] 41,.blk g3 [.slice aR l0.length aS,.slice aT l1.length aU] 25]) ?_ ?_
 refine Q1 (wP Z (wP Z (wN Z Q6s (wP Z (QD (d:=66) (v':=.bool (decide (aF < l4.length))) (S':=V11 ..) Z Z (Q2E (a:=aF) (b:=l4.length)) (wP Z ?_))))))
 refine Qr (d:=67) (S':=V12 ..) Z Z (fun bI=>?_) (fun bI=>?_)
 replace hm:=Qw hm bI
 refine wF Z tF_93_0 (wD 1 0 Z tS_39 tA_39 Z (wN Z Q6i (wF Z Q9R (wD 2 1 Z tS_39 tA_39 Z (wN Z Q6i (wP Z (QD (d:=74) (v':=.bool (decide (h.length < l3.length))) (S':=V19 ..) Z Z (Q2E (a:=h.length) (b:=l3.length)) (wP Z (Q4 ?_)))))))))
 have hE:=(Zi hm).symm
 refine Qd (decide (h.length < l3.length)) hE [12,11,10,9,8,4,3,2,75] Z (asK [0,1,2,3,4,5,6,7,8] Z) Z
 replace hm:=Qv hm bI
 refine wO Z (wO Z (wO Z (wO Z (wO Z (wO Z (wO Z (wP Z (Q4 ?_))))))))
 have hE:=(Zi hm).symm
 refine Qd false hE [12,11,10,9,8,4,3,2,75] Z (asK [0,1,2,3,4,5,6,7,8] Z) Z
 rintro aQ hE
 try dsimp only
 have hm:=hLj_4
 try rw [hE] at hm
 refine Qm Z (fun bJ=>?_) (fun bJ=>?_)
 replace hm:=Qw hm bJ
 refine Q2 [12,11,10,9,8,4,3,2] (S':=V8 ..) Z (Qt (Q3 (Q5 ?_)))
 obtain ⟨c7,hm,hLj_5⟩:=Q7 hm
 refine QF (σ:=(List QP)×OA×Nat) (fun (aH,aK,aL)=>c7=aH) (fun (aH,aK,aL)=>[(12,.int .i64 ((aF:Nat):Int)),(11,.slice aK aH.length aL),(10,.pointer (some ⟨b1,0,none⟩)),(9,.int .i64 ((aM:Nat):Int)),(8,.pointer (some ⟨g8,0,none⟩)),(4,.pointer (some ⟨g4,0,none⟩)),(3,.pointer (some ⟨g3,0,none⟩)),(2,.slice aV l4.length aW)]) (fun (aH,aK,aL)=>[.sli 3 QW aK aL aH,.sli 5 Q2w a7.1.1 a7.1.2 a4.args,.sli 7 Qs a7.2.1 a7.2.2 a4.test.kids,.sli 1 Q2v z a0 h,.sli 3 R_V a1 a3 y,.sli 1 Q2v aN aO l3,.sli 2 Qh aR aS l0,.sli 5 Qi aT aU l1,.sli 3 QW aV aW l4]) (fun (aH,aK,aL)=>[.blk b1 [.int .u8 (a4.kind),.int .i64 (a4.type),.slice a7.1.1 a4.args.length a7.1.2,.int .u8 (a4.test.kind),.int .u8 (a4.test.value.k),.int .i64 (a4.test.value.n),.string a4.test.value.s,.int .i64 (a4.test.var),.int .u8 (a4.test.op),.slice a7.2.1 a4.test.kids.length a7.2.2] 67,.blk g8 [.slice z h.length a0,.slice a1 y.length a3] 93,.blk g4 [.int .i64 a2,.slice aN l3.length aO] 41,.blk g3 [.slice aR l0.length aS,.slice aT l1.length aU] 25]) ?_ ?_
 refine Qx (Q5 ?_)
 obtain ⟨dL,c8,hm⟩:=Q7 hm
 obtain ⟨dM,c9,hm⟩:=Q7 hm
 refine QR [0,1,2,3,4,5,6,7,8,9,10,11,12] Z Z (fun hok=>(xP hok 0 Z (xP hok 1 Z (Q1B hok 2 8 aF Z Z Z Zq Z Z Z Z Z Z c8 Q6s Q5Z (fun dN dO d0 cO=>(Q1X Q2k 1 Z (fun dP cA _=>?_)))))))
 subst cA
 refine Q9 hok 3 Z Z Z Zq Z Z Z Q3g (Q2J hok 4 1 0 Z Z Z Zq Z Z Z Z (cs:=[_]) Z QZ Q15 Z Z (Q9 hok 5 Z Z Z Zq Z Z Z Q9R (Ql hok 6 2 1 Z Z Z Zq Z Z Z Z (cs:=[_]) Z tS_39 tA_39 Z Z (Q9 hok 7 Z Z Z Zq Z Z Z tF_93_0 (Ql hok 8 1 0 Z Z Z Zq Z Z Z Z (cs:=[_]) Z tS_39 tA_39 Z Z (Q7p hok 9 Z Z Z Zq Z Z Z Q6i (Q1B hok 10 8 h.length Z Z Z Zq Z Z Z Z Z Z c9 Q6i QZ (fun dQ dR d1 cP=>(Q1X Q8Q 1 Z (fun dS cB _=>?_))))))))))
 subst cB
 refine Q2J hok 11 0 0 Z Z Z Zq Z Z Z Z (cs:=[_]) Z QZ Q15 Z Z (xP hok 12 Z (QO hok Z (Q3 (Q2 [90,12,11,10,9,8,4,3,2] (S':=V9 ..) Z ?_))))
 refine Qm Z (fun bK=>?_) (fun bK=>?_)
 replace hm:=Qw hm bK
 refine Q2 [12,10,9,8,4,3,2] (S':=V7 ..) Z (Q1 (wP Z (wP Z ?_)))
 obtain ⟨b9,cC,hm⟩:=Q7 hm
 refine QT 13 aF Z Z Z Zq Z Z Z Z Z cC Q6s Q5Z (fun dT dU d2 cQ=>(Q1h Q2k 1 Z (fun bL cD _=>?_)))
 subst cD
 refine Q1g 1 0 Z Z Z Zq Z Z Z (cs:=V3 ..) Z Q5Z tA_71 Z Z (Q1y Z Z Z Zq Z Q6s Q5Z tZ_71 Z (zs:=[.int .i64 0,.int .i64 0,V1]) (by kernel_rfl) Z (out:=V3 ..) Z (fun cE=>(wP Z (Q4 (Qf (we_row (sz:=3) (m:=1) QW [b9] 0 Z (fun F w hφ=>⟨[.int .i64 (b9.id),.int .i64 (b9.ty),.slice bL.1 b9.args.length bL.2],[],Z,Z,⟨(bL.1,bL.2),Z,(Q1j (hφ _ (Q1W (k:=0) Z)) Q1n)⟩,Z⟩) Z (by decide) (H':=V5 ..) Z (Q9z 0 Z (H':=V4 ..) Z (Q7J (.sli 3 QW (some ⟨cE,0,none⟩) 1 [b9]) (fun F w hφ=>Q5R (hφ _ (Q1W (k:=0) Z))) ?_))))))))
 have hE:=(Zi hm).symm
 refine Qd ([b9],some ⟨cE,0,none⟩,1) hE [12,11,10,9,8,4,3,2] Z (asK [0,11,12,13,14,15,16,17,18] Z) Z
 replace hm:=Qv hm bK
 refine Q2 [12,11,10,9,8,4,3,2] (S':=V8 ..) Z (Qt (Qf ?_))
 have hE:=(Zi hm).symm
 refine Qd (a6,aD,aE) hE [12,11,10,9,8,4,3,2] Z (asK [5,6,7,8,9,10,11,12,13] Z) Z
 rintro ⟨aH,aK,aL⟩ hE
 try dsimp only
 have hm:=hLj_5
 try rw [hE] at hm
 refine Q1 (wP Z (wP Z ?_))
 obtain ⟨cF,hm⟩:=Qz hm
 refine QD (d:=77) (v':=.int .i64 ((aF+1:Nat):Int)) (S':=V9 ..) Z Z (Q1f (a:=aF) (b:=1) cF) (QS (S':=V9 ..) Z Z Z Z Z (Q4 ?_))
 have hE:=(Zi hm).symm
 replace hE:=QA hLu2 hE
 refine QY (_,aF+1,aH,aK,aL) (Nat.lt_succ_self _) hE [12,11,10,9,8,4,3,2] Z (asK [0,1,2,3,4,5,6,7,8] Z) Z
 replace hm:=Qv hm bJ
 refine Q2 [11,10,9,8,4,3,2] (S':=V7 ..) Z (Q1k (Qo (Qo (QG ?_))))
 have hE:=(Zi hm).symm
 replace hE:=Qn hLu2 hE
 refine Qd (a6,aD,aE) hE [11,10,9,8,4,3,2] Z (asK [0,1,2,3,4,5,6,7,8] Z) Z
 replace hm:=Qv hm bH
 refine Q2 [11,10,9,8,4,3,2] (S':=V7 ..) Z (Qt ?_)
 have hE:=(Zi hm).symm
 refine Qd (l4,aV,aW) hE [11,10,9,8,4,3,2] Z (asK [17,0,1,12,13,14,15,16,17] Z) Z
 rintro ⟨aG,aI,aJ⟩ hE
 try dsimp only
 have hm:=hLj_3
 try rw [hE] at hm
 refine Q5 (Q1 (QM 0 0 Z Z Z Zq Z Z Z (cs:=V10 ..) Z Q6t tA_67 Z Z (QM 1 0 Z Z Z Zq Z Z Z (cs:=[_,_]) Z Q96 tA_93 Z Z (wP Z ?_))))
 obtain ⟨cG,cH,hm⟩:=Q7 hm
 refine wC [] [0,1,2,3] Z fn_50 Z (Q7V N a4.kind a4.type a7.1.1 a7.1.2 a4.args a4.test.kind a4.test.value.k a4.test.value.n a4.test.value.s a4.test.var a4.test.op a7.2.1 a7.2.2 a4.test.kids z a0 h a1 a3 y aI aJ aG _ cH) (asK [1,2,3,4,0] Z) Z (H':=V4 ..) Z ?_
 rintro _ _ _ ⟨cR,cS,rfl,rfl,rfl⟩
 refine wP Z (Q4 (Q3 (Q2 [13,9,8,4,3,2] (S':=V6 ..) Z (Q5 (Q5 (Q1 (wP Z (wN Z Q8Z (wP Z (QD (d:=102) (v':=.bool (cG.length !=1)) (S':=V8 ..) Z Z (natne (a:=cG.length) (b:=1)) (Q4 (Q3 (Q2 [102,13,9,8,4,3,2] (S':=V7 ..) Z ?_)))))))))))))
 refine Qm Z (fun b4=>?_) (fun b4=>?_)
 replace hm:=Qw hm b4
 refine Q2 [] (S':=[]) Z (Q5 (Q1 (wP Z (wP Z (Q4 (Q3 (Qk (Q8 (Qa (Q8 (Q8 (Qa (Q8 ?_)))))))))))))
 have hE:=(Zi hm).symm
 replace hE:=Qn hLu1 hE
 replace hE:=Qn hLj_2 hE
 obtain ⟨hE0,hE1⟩:=Prod.mk.inj hE
 clear hE
 replace hE0:=hE0.symm
 subst hE0
 replace hE1:=hE1.symm
 subst hE1
 refine Q7J (.sli 3 R_V none 0 ([] : List V)) (fun _ _ _=>Q7O) ?_
 refine QH (Hr:=[]) [] Tryz.results19 (Qb Z) (Qb Z) ⟨none,0,Z,Z,Z⟩ (asK [0] Z) Z Z (.inl Z)
 replace hm:=Qv hm b4
 refine Q2 [13,9,8,4,3,2] (S':=V6 ..) Z (Qt (Q3 (Q1 (wP Z ?_))))
 obtain ⟨bO,bP,hm⟩:=Q7 hm
 refine QT 0 0 Z Z Z Zq Z Z Z Z Z bP Q8Z Q96 (fun d3 d4 cT cJ=>(Q1h Q4M 1 Z (fun b7 bQ _=>?_)))
 subst bQ
 refine Q1g 2 0 Z Z Z Zq Z Z Z (cs:=[_,_]) Z Q96 tA_93 Z Z (wS 1 0 Z Q96 (all':=[_,_]) Z (H':=V4 ..) Z (Q4 (Qf (Q3 (Q2 [9,8,4,3,2] (S':=V5 ..) Z (Q1 (wP Z (wP Z ?_))))))))
 obtain ⟨cI,hm⟩:=Qz hm
 refine QD (d:=48) (v':=.int .i64 ((aM+1:Nat):Int)) (S':=V6 ..) Z Z (Q1f (a:=aM) (b:=1) cI) (QS (S':=V6 ..) Z Z Z Z Z (Q4 ?_))
 have hE:=(Zi hm).symm
 replace hE:=QA hLu1 hE
 refine Qu [1,2,3] Z (H':=V3 ..) Z ?_
 refine QY (_,aM+1,bO.ids,bO.vars,b7.1.1,b7.1.2,b7.2.1,b7.2.2) (Nat.lt_succ_self _) hE [9,8,4,3,2] Z (asK [0,1,10,11,12,13] Z) Z
 replace hm:=Qv hm bG
 refine Q2 [8,4] (S':=[_,_]) Z (Q1k (Qo (Qo (QG ?_))))
 have hE:=(Zi hm).symm
 replace hE:=Qn hLu1 hE
 refine Qu [0,1] Z (H':=[_,_]) Z ?_
 refine Qd (h,y,z,a0,a1,a3) hE [8,4] Z (asK [4,5,6] Z) Z
 rintro ⟨a5,a8,a9,aA,aB,aC⟩ hE
 try dsimp only
 have hm:=QA hLj_2 hE
 try dsimp only at hm
 refine Q5 (Q5 (Q1 (wF Z tF_93_0 (wD 0 0 Z tS_39 tA_39 Z (wF Z Q9R (wD 1 1 Z tS_39 tA_39 Z ?_))))))
 obtain ⟨d5,bR,hm⟩:=Q7 hm
 refine wC [] [0,1] Z fn_51 Z (Qa3 N a9 aA a5 aN aO l3 _ bR) (asK [0,2] Z) Z (H':=[_,_]) Z ?_
 rintro _ _ _ ⟨rfl,rfl,rfl⟩
 refine wP Z (Q4 (Q3 (Q2 [111,8] (S':=[_,_]) Z ?_)))
 refine Qm Z (fun b5=>?_) (fun b5=>?_)
 replace hm:=Qw hm b5
 refine Q2 [] (S':=[]) Z (Q5 (Q1 (wP Z (wP Z (Q4 (Q3 (Qk (Q8 ?_))))))))
 have hE:=(Zi hm).symm
 obtain ⟨hE0,hE1⟩:=Prod.mk.inj hE
 clear hE
 replace hE0:=hE0.symm
 subst hE0
 replace hE1:=hE1.symm
 subst hE1
 refine Q7J (.sli 3 R_V none 0 ([] : List V)) (fun _ _ _=>Q7O) ?_
 refine QH (Hr:=[]) [] Tryz.results19 (Qb Z) (Qb Z) ⟨none,0,Z,Z,Z⟩ (asK [0] Z) Z Z (.inl Z)
 replace hm:=Qv hm b5
 refine Q2 [8] (S':=[_]) Z (Qt (Q3 (Q5 (Q1 (wF Z tF_93_1 (wD 0 1 Z Q5i Q5f Z (wP Z (wP Z (Q4 (Q3 (Q2 [7,6] (S':=[_,_]) Z (Qk ?_))))))))))))
 have hE:=(Zi hm).symm
 obtain ⟨hE0,hE1⟩:=Prod.mk.inj hE
 clear hE
 replace hE0:=hE0.symm
 subst hE0
 replace hE1:=hE1.symm
 subst hE1
 refine QH (Hr:=[]) [] Tryz.results19 (Qb Z) (Qb Z) ⟨aB,aC,Z,Z,Z⟩ (asK [1] Z) Z Z (.inl Z)
theorem Q8C (N:Nat)(a2:OA)(a3:Nat)(l0:List V)(a4:OA)(a5:Nat)(l1:List V)(o0:Bool)(hm:Q39 N l0 l1=some o0):Q1d Tryz.prog 20 [.slice a2 l0.length a3,.slice a4 l1.length a5] [.sli 3 R_V a2 a3 l0,.sli 3 R_V a4 a5 l1] [] (fun v Φr Hr=>v=.bool o0∧Φr=[]∧Hr=[]):=by
 unfold Q39 at hm
 refine QI Tryz.func20 Z Tryz.ntmps20 Z (S:=[_,_]) Z (fun C=>(Q5 (Q1 (wP Z (Q4 (Q3 (Q2 [0,1] (S':=[_,_]) Z (Q5 (Q5 (Q1 (wP Z (wN Z Q29 (wP Z (wN Z Q29 ?_))))))))))))))
 refine wP Z (QD (d:=10) (v':=.bool (l0.length !=l1.length)) (S':=V6 ..) Z Z (natne (a:=l0.length) (b:=l1.length)) (Q4 (Q3 (Q2 [10,0,1] (S':=V3 ..) Z ?_))))
 refine Qm Z (fun y=>?_) (fun y=>?_)
 replace hm:=Qw hm y
 refine Q2 [] (S':=[]) Z (Q5 (Q1 (wP Z (Q4 (Q3 (Qk (Q8 ?_)))))))
 have hE:=(Zi hm).symm
 replace hE:=hE.symm
 subst hE
 refine Qq (Hr:=[]) [] Tryz.results20 (Qb Z) ⟨Z,Z,Z⟩ (asK [] Z) Z Z (.inl Z)
 replace hm:=Qv hm y
 refine Q2 [0,1] (S':=[_,_]) Z (Qt (Q3 (Q5 ?_)))
 obtain ⟨a7,hm,hLj_1⟩:=QN hm
 refine QF (σ:=Unit) (fun _=>a7=.inl ()) (fun _=>[]) (fun _=>[]) (fun _=>[]) ?_ ?_
 refine Q5 (Q1 (wP Z (Q4 (Q3 (Qx (Q1o (σ:=Nat×Nat) (fun (s,h)=>Q19 (Q2B N l0 l1) s h=some a7) (fun (s,h)=>s) (fun (s,h)=>[(5,.int .i64 ((h:Nat):Int)),(0,.slice a2 l0.length a3),(1,.slice a4 l1.length a5)]) (fun (s,h)=>[.sli 3 R_V a2 a3 l0,.sli 3 R_V a4 a5 l1]) (fun (s,h)=>[]) (N,0) hm [5,0,1] Z (asK [0,1] Z) Z (fun s_ hm=>?_)))))))
 obtain ⟨s,h⟩:=s_
 try dsimp only at hm ⊢
 obtain ⟨aL,aM,a8,hq,hLu1⟩:=Q10 hm
 clear hm
 subst a8
 replace hm:=hq
 clear hq
 unfold Q2B at hm
 try dsimp only at hm
 refine Q5 (Q5 (Q1 (wP Z (wP Z (wN Z Q29 (wP Z (QD (d:=14) (v':=.bool (decide (h < l0.length))) (S':=V6 ..) Z Z (Q2E (a:=h) (b:=l0.length)) (Q4 (Q3 (Q2 [14,5,0,1] (S':=V4 ..) Z ?_))))))))))
 refine Qm Z (fun z=>?_) (fun z=>?_)
 replace hm:=Qw hm z
 refine Q2 [5,0,1] (S':=V3 ..) Z (Qt (Q3 (Q5 (Qx (Q5 ?_)))))
 obtain ⟨aE,a9,hm⟩:=Q7 hm
 obtain ⟨aF,aA,hm⟩:=Q7 hm
 refine QR [0,1,2,3,4,5,6,7,8] Z Z (fun hok=>(xP hok 0 Z (xP hok 1 Z (Q1B hok 2 0 h Z Z Z Zq Z Z Z Z Z Z a9 Q29 QB (fun aN aO aJ aG=>(Q1X Q2l 1 Z (fun aP aB _=>?_)))))))
 subst aB
 refine Q2J hok 3 0 0 Z Z Z Zq Z Z Z Z (cs:=V3 ..) Z QB Q1b Z Z (xP hok 4 Z (xP hok 5 Z (Q1B hok 6 3 h Z Z Z Zq Z Z Z Z Z Z aA Q29 QB (fun aQ aR aK aH=>(Q1X Q2l 1 Z (fun aS aC _=>?_))))))
 subst aC
 refine Q2J hok 7 0 0 Z Z Z Zq Z Z Z Z (cs:=V3 ..) Z QB Q1b Z Z (wx_bin hok 8 Z Z Z Zq Z Z Z Z (neqV _ _ aE aF) (QO hok Z (Q3 (Q2 [25,5,0,1] (S':=V4 ..) Z ?_))))
 refine Qm Z (fun a0=>?_) (fun a0=>?_)
 replace hm:=Qw hm a0
 refine Q2 [] (S':=[]) Z (Q5 (Q1 (wP Z (Q4 (Q3 (Qk (Qa (Q8 (Q8 (Qa (Q8 ?_)))))))))))
 have hE:=(Zi hm).symm
 replace hE:=Qn hLu1 hE
 replace hE:=Qn hLj_1 hE
 replace hE:=hE.symm
 subst hE
 refine Qq (Hr:=[]) [] Tryz.results20 (Qb Z) ⟨Z,Z,Z⟩ (asK [] Z) Z Z (.inl Z)
 replace hm:=Qv hm a0
 refine Q2 [5,0,1] (S':=V3 ..) Z (Qt (Qf (Q3 (Q1 (wP Z (wP Z ?_))))))
 obtain ⟨aD,hm⟩:=Qz hm
 refine QD (d:=16) (v':=.int .i64 ((h+1:Nat):Int)) (S':=V4 ..) Z Z (Q1f (a:=h) (b:=1) aD) (QS (S':=V4 ..) Z Z Z Z Z (Q4 ?_))
 have hE:=(Zi hm).symm
 replace hE:=QA hLu1 hE
 refine QY (_,h+1) (Nat.lt_succ_self _) hE [5,0,1] Z (asK [4,5] Z) Z
 replace hm:=Qv hm z
 refine Q2 [] (S':=[]) Z (Q1k (Qo (Qo (QG ?_))))
 have hE:=(Zi hm).symm
 replace hE:=Qn hLu1 hE
 refine Qd () hE [] Z (asK [] Z) Z
 rintro _ hE
 try dsimp only
 have hm:=QA hLj_1 hE
 try dsimp only at hm
 refine Q5 (Q1 (wP Z (Q4 (Q3 (Qk ?_)))))
 have hE:=(Zi hm).symm
 replace hE:=hE.symm
 subst hE
 refine Qq (Hr:=[]) [] Tryz.results20 (Qb Z) ⟨Z,Z,Z⟩ (asK [] Z) Z Z (.inl Z)
theorem Q8e (N:Nat)(a6:OA)(a7:Nat)(l0:List Qg)(a8:OA)(a9:Nat)(l1:List Qj)(a2:Int)(aC:OA)(aD:Nat)(l3:List Int)(a4:Int)(aA:OA)(aB:Nat)(l5:List QP)(o0:Bool)(hm:Q2V N l0 l1 a2 l3 a4 l5=some o0):Q1d Tryz.prog 4 [.agg #[.slice a6 l0.length a7,.slice a8 l1.length a9],.agg #[.int .i64 a2,.slice aC l3.length aD],.int .i64 a4,.slice aA l5.length aB] [.sli 2 Qh a6 a7 l0,.sli 5 Qi a8 a9 l1,.sli 1 Q2v aC aD l3,.sli 3 QW aA aB l5] [] (fun v Φr Hr=>v=.bool o0∧Φr=[]∧Hr=[]):=by
 unfold Q2V at hm
 refine QI Tryz.func4 Z Tryz.ntmps4 Z (S:=V4 ..) Z (fun C=>(Q5 (Q1 (wB Z (fun g4=>(wB Z (fun g5=>(wP Z (Q4 (Q3 (Q2 [5,4,2,3] (S':=V4 ..) Z (Q5 (Q5 (Q1 (wC [] [0,1] Z fn_8 Z aw_8 (asK [] Z) Z (H':=[_,_]) Z ?_)))))))))))))))
 rintro _ _ _ ⟨rfl,rfl,rfl⟩
 refine wP Z (Q4 (Q3 (Q2 [17,5,4,2,3] (S':=V5 ..) Z (QaB Z (Q2 [5,4,2,3] (S':=V4 ..) Z (Qt (Q3 (Q5 (Q5 ?_)))))))))
 obtain ⟨b6,hm,hLj_1⟩:=Q7 hm
 refine QF (σ:=Bool) (fun a1=>b6=a1) (fun a1=>[(5,.pointer (some ⟨g5,0,none⟩)),(4,.pointer (some ⟨g4,0,none⟩)),(2,.int .i64 a4),(3,.slice aA l5.length aB),(27,.bool a1)]) (fun a1=>[.sli 1 Q2v aC aD l3,.sli 2 Qh a6 a7 l0,.sli 5 Qi a8 a9 l1,.sli 3 QW aA aB l5]) (fun a1=>[.blk g5 [.int .i64 a2,.slice aC l3.length aD] 41,.blk g4 [.slice a6 l0.length a7,.slice a8 l1.length a9] 25]) ?_ ?_
 refine Q1 (QM 1 0 Z Z Z Zq Z Z Z (cs:=[_,_]) Z tS_25 tA_25 Z Z (wP Z ?_))
 obtain ⟨bO,b7,hm⟩:=Q7 hm
 refine wC [] [0,1] Z fn_9 Z (Q9x N a6 a7 l0 a8 a9 l1 aA aB l5 _ b7) (asK [0,1,3] Z) Z (H':=[_,_]) Z ?_
 rintro _ _ _ ⟨rfl,rfl,rfl⟩
 refine wP Z (wP Z ?_)
 refine Qr (d:=22) (S':=V8 ..) Z Z (fun aI=>?_) (fun aI=>?_)
 replace hm:=Qw hm aI
 refine wO Z (wO Z (wO Z (wO Z (wP Z (Q4 ?_)))))
 have hE:=(Zi hm).symm
 refine Qd true hE [5,4,2,3,27] Z (asK [2,0,1,3] Z) Z
 replace hm:=Qv hm aI
 refine wF Z Q9R (wD 0 1 Z tS_39 tA_39 Z (wN Z Q6i (wP Z (QD (d:=26) (v':=.bool (decide (50 < l3.length))) (S':=V12 ..) Z Z (Q8r (a:=l3.length) (b:=50)) (wP Z (Q4 ?_))))))
 have hE:=(Zi hm).symm
 refine Qd (decide (50 < l3.length)) hE [5,4,2,3,27] Z (asK [2,0,1,3] Z) Z
 rintro a1 hE
 try dsimp only
 have hm:=hLj_1
 try rw [hE] at hm
 refine Qm Z (fun aJ=>?_) (fun aJ=>?_)
 replace hm:=Qw hm aJ
 refine Q2 [] (S':=[]) Z (Q5 (Q1 (wP Z (Q4 (Q3 (Qk (Q8 ?_)))))))
 have hE:=(Zi hm).symm
 replace hE:=hE.symm
 subst hE
 refine Qq (Hr:=[]) [] Tryz.results4 (Qb Z) ⟨Z,Z,Z⟩ (asK [] Z) Z Z (.inl Z)
 replace hm:=Qv hm aJ
 refine Q2 [5,4,2,3] (S':=V4 ..) Z (Qt (Q3 (Q5 (Q1 (QM 1 0 Z Z Z Zq Z Z Z (cs:=[_,_]) Z tS_25 tA_25 Z Z (wP Z ?_))))))
 obtain ⟨⟨a5,bK⟩,b8,hm⟩:=Q7 hm
 try dsimp only at hm
 refine wC [] [0,1] Z fn_13 Z (Q9h N a6 a7 l0 a8 a9 l1 aA aB l5 _ _ b8) (asK [1,2,3] Z) Z (H':=[_,_]) Z ?_
 rintro _ _ _ ⟨aK,aL,aM,rfl,rfl,rfl⟩
 refine wP Z (wP Z (wP Z (wP Z (wP Z (Q4 (Q3 (Q2 [9,5,4,2,3] (S':=V5 ..) Z (Q5 (Q1 (QM 1 0 Z Z Z Zq Z Z Z (cs:=[_,_]) Z tS_41 tA_41 Z Z (Q13 Z Z Z Zq Z tZ_41 Z (fun aS=>(wS 0 0 Z tS_41 (all':=[_,_]) Z (H':=V4 ..) Z (Q4 ?_))))))))))))))
 refine Q3 (Q2 [11,9,4,2,3] (S':=V5 ..) Z (Q5 ?_))
 obtain ⟨b9,hm,hLj_2⟩:=Q7 hm
 unfold Q3e at hm
 refine QF (σ:=Int×(List Int)×OA×Nat) (fun (a0,s,y,z)=>b9=(a0,s)) (fun (a0,s,y,z)=>[(11,.pointer (some ⟨aS,0,none⟩)),(4,.pointer (some ⟨g4,0,none⟩)),(3,.slice aA l5.length aB)]) (fun (a0,s,y,z)=>[.sli 1 Q2v y z s,.sli 2 Qh a6 a7 l0,.sli 5 Qi a8 a9 l1,.sli 3 QW aA aB l5]) (fun (a0,s,y,z)=>[.blk aS [.int .i64 a0,.slice y s.length z] 41,.blk g4 [.slice a6 l0.length a7,.slice a8 l1.length a9] 25]) ?_ ?_
 refine Q5 ?_
 obtain ⟨bA,hm,hLj_3⟩:=Q7 hm
 refine QF (σ:=Bool) (fun a3=>bA=a3) (fun a3=>[(11,.pointer (some ⟨aS,0,none⟩)),(9,.slice aK aM aL),(4,.pointer (some ⟨g4,0,none⟩)),(2,.int .i64 a4),(3,.slice aA l5.length aB),(41,.bool a3)]) (fun a3=>[.sli 1 Q2v aC aD l3,.sli 2 Qh a6 a7 l0,.sli 5 Qi a8 a9 l1,.sli 3 QW aA aB l5]) (fun a3=>[.blk aS [.int .i64 a2,.slice aC l3.length aD] 41,.own 41 2 Q3d (.slice aK aM aL) a5,.blk g4 [.slice a6 l0.length a7,.slice a8 l1.length a9] 25]) ?_ ?_
 refine Q1 (wP Z (Q3H 1 Z (fun bB _=>(wN Z tE_31 (QD (d:=36) (v':=.int .i64 ((a5.length:Nat):Int)) (S':=V6 ..) Z Z (len_is bB) (wP Z (QD (d:=37) (v':=.bool (decide (0 < a5.length))) (S':=V7 ..) Z Z (Q8r (a:=a5.length) (b:=0)) (wP Z ?_))))))))
 refine Qr (d:=38) (S':=V8 ..) Z Z (fun aN=>?_) (fun aN=>?_)
 replace hm:=Qw hm aN
 refine wP Z (wP Z (wP Z (Q4 ?_)))
 have hE:=(Zi hm).symm
 refine Qu [0,1,3] Z (H':=V3 ..) Z ?_
 refine Qd (decide (a4 > 0)) hE [11,9,4,2,3,41] Z (asK [0,1,2,3] Z) Z
 replace hm:=Qv hm aN
 refine wO Z (wO Z (wP Z (Q4 ?_)))
 have hE:=(Zi hm).symm
 refine Qu [0,1,3] Z (H':=V3 ..) Z ?_
 refine Qd false hE [11,9,4,2,3,41] Z (asK [0,1,2,3] Z) Z
 rintro a3 hE
 try dsimp only
 have hm:=hLj_3
 try rw [hE] at hm
 refine Qm Z (fun aO=>?_) (fun aO=>?_)
 replace hm:=Qw hm aO
 refine Q2 [11,9,4,2,3] (S':=V5 ..) Z (Q1 (wP Z (wP Z (wP Z (Q3H 1 Z (fun bC _=>(wN Z tE_31 (QD (d:=45) (v':=.int .i64 ((a5.length:Nat):Int)) (S':=V8 ..) Z Z (len_is bC) ?_))))))))
 obtain ⟨bD,bE,hm⟩:=Q7 hm
 refine wC [] [0,1,2] Z fn_17 Z (Qaz N a4 ((a5.length:Nat):Int) _ bE) (asK [] Z) Z (H':=V3 ..) Z ?_
 rintro _ _ _ ⟨rfl,rfl,rfl⟩
 obtain ⟨bF,hm⟩:=Qz hm
 obtain ⟨aT,aU,hm⟩:=Q7 hm
 refine wl_indexH 1 bD.toNat Z Z Z Zq Z Z Z Z (Q1I bF) (Q77 aU) tE_31 tS_41 (fun bP bG=>?_)
 subst bG
 refine wl_loadRow QaS 1 bD.toNat 0 Z Z Z Zq Z Z Z aU tS_41 tA_41 (v:=fun aP=>.agg #[.int .i64 (aT.rule),.slice aP.1 aT.ids.length aP.2]) (fun _=>Z) (fun _=>Z) (fun aP _=>(wS 0 0 Z tS_41 (all':=[_,_]) Z (H':=V3 ..) Z (Q4 ?_)))
 have hE:=(Zi hm).symm
 refine Qu [0,2] Z (H':=[_,_]) Z ?_
 refine Qd (aT.rule,aT.ids,aP.1,aP.2) hE [11,4,3] Z (asK [0,2,3,4] Z) Z
 replace hm:=Qv hm aO
 refine Q2 [11,4,3] (S':=V3 ..) Z (Qt ?_)
 have hE:=(Zi hm).symm
 refine Qu [0,2] Z (H':=[_,_]) Z ?_
 refine Qd (a2,l3,aC,aD) hE [11,4,3] Z (asK [0,1,2,3] Z) Z
 rintro ⟨a0,s,y,z⟩ hE
 try dsimp only
 have hm:=hLj_2
 try rw [hE] at hm
 try dsimp only at hm
 refine Q5 (Q1 (QM 1 0 Z Z Z Zq Z Z Z (cs:=[_,_]) Z tS_25 tA_25 Z Z (QM 0 0 Z Z Z Zq Z Z Z (cs:=[_,_]) Z tS_41 tA_41 Z Z (wP Z ?_))))
 obtain ⟨⟨aV,aW⟩,bH,hm⟩:=Q7 hm
 try dsimp only at hm
 refine wC [] [0,1] Z fn_18 Z (w_naive_Vars_s N a6 a7 l0 a8 a9 l1 a0 y z s aA aB l5 _ _ bH) (asK [1,2,0,3] Z) Z (H':=[_,_]) Z ?_
 rintro _ _ _ ⟨aX,aY,bL,rfl,rfl,rfl⟩
 refine wP Z (wP Z (wP Z (wP Z (wP Z (Q4 (Q3 (Q2 [13,12,11,4,3] (S':=V5 ..) Z (Q5 (Q1 (QM 2 0 Z Z Z Zq Z Z Z (cs:=[_,_]) Z tS_25 tA_25 Z Z (QM 1 0 Z Z Z Zq Z Z Z (cs:=[_,_]) Z tS_41 tA_41 Z Z (wP Z ?_))))))))))))
 obtain ⟨⟨aZ,b0⟩,bI,hm⟩:=Q7 hm
 try dsimp only at hm
 refine wC [] [0,1,2] Z fn_19 Z (Qa1 N a6 a7 l0 a8 a9 l1 a0 y z s aA aB l5 _ _ bI) (asK [1,2,0,3] Z) Z (H':=V3 ..) Z ?_
 rintro _ _ _ ⟨b1,b2,rfl,rfl,rfl⟩
 refine wP Z (wP Z (wP Z (wP Z (wP Z (Q4 (Q3 (Q2 [15,14,13,12] (S':=V4 ..) Z (Q5 (Q1 (wP Z (wP Z (Q65 Z Z Z Zq Z Z Z (eqlB _ _ aW b0) (wP Z ?_)))))))))))))
 refine Qr (d:=66) (S':=V7 ..) Z Z (fun aQ=>?_) (fun aQ=>?_)
 replace hm:=Qw hm aQ
 refine wP Z (wP Z (Q3H 0 Z (fun aR _=>?_)))
 subst aR
 obtain ⟨bQ,bJ,hm⟩:=Q7 hm
 refine Qa7 [] [0,1,2] [0] Z Z Z Zq Z Z fn_20 Z (Q8C N aX aY aV b1 b2 aZ _ bJ) (fun F w hφ hh=>(Q1j (Q5R (hh _ (Q1W (k:=0) Z))) (Q1j (hφ _ (Q1W (k:=0) Z)) Q1n))) (fun _ _ _ hR=>by obtain ⟨rfl,rfl,rfl⟩:=hR;exact ⟨Z,(fun _ h=>Q8m h)⟩) Z Z (H':=V3 ..) Z ?_
 rintro _ _ _ ⟨rfl,rfl,rfl⟩
 refine wP Z (wP Z (Q4 (Q3 (Q2 [8] (S':=[_]) Z (Qk ?_)))))
 have hE:=(Zi hm).symm
 replace hE:=hE.symm
 subst hE
 refine Qq (Hr:=[]) [] Tryz.results4 (Qb Z) ⟨Z,Z,Z⟩ (asK [] Z) Z Z (.inl Z)
 replace hm:=Qv hm aQ
 refine wO Z (wO Z (wO Z (wP Z (wP Z (Q4 (Q3 (Q2 [8] (S':=[_]) Z (Qk ?_))))))))
 have hE:=(Zi hm).symm
 replace hE:=hE.symm
 subst hE
 refine Qq (Hr:=[]) [] Tryz.results4 (Qb Z) ⟨Z,Z,Z⟩ (asK [] Z) Z Z (.inl Z)
end Go.Proofs.YtbgodclhmgmcgaaGreatDoor
