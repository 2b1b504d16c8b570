import Derived.Test.YtbgodclhmgmcgaaGreatDoorXW1
namespace Go.Proofs.YtbgodclhmgmcgaaGreatDoor
open Go.RowKit
set_option maxRecDepth 100000
set_option maxHeartbeats 4000000
theorem Q71 (N:Nat)(y:OA)(z:Nat)(l0:List Qg)(a0:OA)(a1:Nat)(l1:List Qj)(o0:Bool)(hm:Q34 N l0 l1=some o0):Q1d Tryz.prog 34 [.agg #[.slice y l0.length z,.slice a0 l1.length a1]] [.sli 2 Qh y z l0,.sli 5 Qi a0 a1 l1] [] (fun v Φr Hr=>v=.bool o0∧Φr=[]∧Hr=[]):=by
 unfold Q34 at hm
 refine QI Tryz.func34 Z Tryz.ntmps34 Z (S:=[_]) Z (fun C=>(Q5 (Q1 (wB Z (fun g1=>(wP Z (Q4 (Q3 (Q2 [1] (S':=[_]) Z (Q5 (Q5 ?_)))))))))))
 obtain ⟨aW,hm,hLj_1⟩:=Q7 hm
 refine QF (σ:=Bool) (fun a4=>aW=a4) (fun a4=>[(1,.pointer (some ⟨g1,0,none⟩)),(17,.bool a4)]) (fun a4=>[.sli 2 Qh y z l0,.sli 5 Qi a0 a1 l1]) (fun a4=>[.blk g1 [.slice y l0.length z,.slice a0 l1.length a1] 25]) ?_ ?_
 refine Q1 (wF Z Q4D (wD 0 0 Z Q7l Q7i Z (wN Z Q6r (wP Z (QD (d:=11) (v':=.bool (decide (32 < l0.length))) (S':=V4 ..) Z Z (Q8r (a:=l0.length) (b:=32)) (wP Z ?_))))))
 refine Qr (d:=12) (S':=V5 ..) Z Z (fun aE=>?_) (fun aE=>?_)
 replace hm:=Qw hm aE
 refine wO Z (wO Z (wO Z (wO Z (wP Z (Q4 ?_)))))
 have hE:=(Zi hm).symm
 refine Qd true hE [1,17] Z (asK [0,1] Z) Z
 replace hm:=Qv hm aE
 refine wF Z Q4Z (wD 0 1 Z Q7u Q7t Z (wN Z Q6X (wP Z (QD (d:=16) (v':=.bool (decide (64 < l1.length))) (S':=V9 ..) Z Z (Q8r (a:=l1.length) (b:=64)) (wP Z (Q4 ?_))))))
 have hE:=(Zi hm).symm
 refine Qd (decide (64 < l1.length)) hE [1,17] Z (asK [0,1] Z) Z
 rintro a4 hE
 try dsimp only
 have hm:=hLj_1
 try rw [hE] at hm
 refine Qm Z (fun aF=>?_) (fun aF=>?_)
 replace hm:=Qw hm aF
 refine Q2 [] (S':=[]) Z (Q5 (Q1 (wP Z (Q4 (Q3 (Qk (Q8 ?_)))))))
 have hE:=(Zi hm).symm
 replace hE:=hE.symm
 subst hE
 refine Qq (Hr:=[]) [] Tryz.results34 (Qb Z) ⟨Z,Z,Z⟩ (asK [] Z) Z Z (.inl Z)
 replace hm:=Qv hm aF
 refine Q2 [1] (S':=[_]) Z (Qt (Q3 (Q5 ?_)))
 obtain ⟨aS,hm,hLj_2⟩:=QN hm
 refine QF (σ:=Unit) (fun _=>aS=.inl ()) (fun _=>[(1,.pointer (some ⟨g1,0,none⟩))]) (fun _=>[.sli 2 Qh y z l0,.sli 5 Qi a0 a1 l1]) (fun _=>[.blk g1 [.slice y l0.length z,.slice a0 l1.length a1] 25]) ?_ ?_
 refine Q5 (Q1 (wP Z (Q4 (Q3 (Qx (Q1o (σ:=Nat×Nat) (fun (a9,h)=>Q19 (Q1S N l0) a9 h=some aS) (fun (a9,h)=>a9) (fun (a9,h)=>[(3,.int .i64 ((h:Nat):Int)),(1,.pointer (some ⟨g1,0,none⟩))]) (fun (a9,h)=>[.sli 2 Qh y z l0,.sli 5 Qi a0 a1 l1]) (fun (a9,h)=>[.blk g1 [.slice y l0.length z,.slice a0 l1.length a1] 25]) (N,0) hm [3,1] Z (asK [0,1] Z) Z (fun s_ hm=>?_)))))))
 obtain ⟨a9,h⟩:=s_
 try dsimp only at hm ⊢
 obtain ⟨bU,bV,aX,hq,hLu1⟩:=Q10 hm
 clear hm
 subst aX
 replace hm:=hq
 clear hq
 unfold Q1S at hm
 try dsimp only at hm
 refine Q5 (Q5 (Q1 (wP Z (wF Z Q4D (wD 0 0 Z Q7l Q7i Z (wN Z Q6r (wP Z (QD (d:=22) (v':=.bool (decide (h < l0.length))) (S':=V6 ..) Z Z (Q2E (a:=h) (b:=l0.length)) (Q4 (Q3 (Q2 [22,3,1] (S':=V3 ..) Z ?_)))))))))))
 refine Qm Z (fun aG=>?_) (fun aG=>?_)
 replace hm:=Qw hm aG
 refine Q2 [3,1] (S':=[_,_]) Z (Qt (Q3 (Q5 ?_)))
 obtain ⟨aT,hm,hLj_3⟩:=QN hm
 unfold Q5m at hm
 refine QF (σ:=Unit) (fun _=>aT=.inl ()) (fun _=>[(3,.int .i64 ((h:Nat):Int)),(1,.pointer (some ⟨g1,0,none⟩))]) (fun _=>[.sli 2 Qh y z l0,.sli 5 Qi a0 a1 l1]) (fun _=>[.blk g1 [.slice y l0.length z,.slice a0 l1.length a1] 25]) ?_ ?_
 refine Qx (Q5 (Q1 (wF Z Q4D (wD 0 0 Z Q7l Q7i Z (wP Z ?_)))))
 obtain ⟨aA,aY,hm⟩:=Q7 hm
 refine QT 0 h Z Z Z Zq Z Z Z Z Z aY Q6r Q95 (fun bW bX bP bJ=>(Q1h Q2A 1 Z (fun bY aZ _=>?_)))
 subst aZ
 refine Q1g 0 0 Z Z Z Zq Z Z Z (cs:=[_,_]) Z Q95 tA_69 Z Z (Q13 Z Z Z Zq Z tZ_69 Z (fun g4=>(wS 0 0 Z Q95 (all':=[_,_]) Z (H':=[_,_]) Z (Q4 (Q3 (Q2 [4,3,1] (S':=V3 ..) Z (Q5 (Q5 ?_))))))))
 obtain ⟨b0,hm,hLj_4⟩:=Q7 hm
 unfold Q44 at hm
 refine QF (σ:=Bool) (fun a5=>b0=a5) (fun a5=>[(4,.pointer (some ⟨g4,0,none⟩)),(3,.int .i64 ((h:Nat):Int)),(1,.pointer (some ⟨g1,0,none⟩)),(43,.bool a5)]) (fun a5=>[.sli 2 Qh y z l0,.sli 5 Qi a0 a1 l1]) (fun a5=>[.blk g4 [.string aA.name,.int .i64 (aA.fields)] 69,.blk g1 [.slice y l0.length z,.slice a0 l1.length a1] 25]) ?_ ?_
 refine Q1 (wF Z Q8d (wD 0 0 Z tS_9 tA_9 Z ?_))
 obtain ⟨bZ,b1,hm⟩:=Q7 hm
 refine wC [] [0,1] Z fn_70 Z (Q5H N aA.name _ b1) (asK [] Z) Z (H':=[_,_]) Z ?_
 rintro _ _ _ ⟨rfl,rfl,rfl⟩
 refine wP Z (wP Z ?_)
 refine Qr (d:=34) (S':=V7 ..) Z Z (fun aH=>?_) (fun aH=>?_)
 replace hm:=Qw hm aH
 refine wO Z (wO Z (wO Z (wP Z (wP Z (wO Z (wO Z (wO Z (wP Z (Q4 ?_)))))))))
 have hE:=(Zi hm).symm
 refine Qd true hE [4,3,1,43] Z (asK [2,3] Z) Z
 replace hm:=Qv hm aH
 refine wF Z Q6K (wD 0 1 Z QZ Q15 Z (wP Z (wP Z (wP Z ?_))))
 refine Qr (d:=39) (S':=V12 ..) Z Z (fun aI=>?_) (fun aI=>?_)
 replace hm:=Qw hm aI
 refine wO Z (wO Z (wO Z (wP Z (Q4 ?_))))
 have hE:=(Zi hm).symm
 refine Qd true hE [4,3,1,43] Z (asK [2,3] Z) Z
 replace hm:=Qv hm aI
 refine wF Z Q6K (wD 0 1 Z QZ Q15 Z (wP Z (wP Z (Q4 ?_))))
 have hE:=(Zi hm).symm
 refine Qd (decide (aA.fields > 6)) hE [4,3,1,43] Z (asK [2,3] Z) Z
 rintro a5 hE
 try dsimp only
 have hm:=hLj_4
 try rw [hE] at hm
 refine Qm Z (fun aJ=>?_) (fun aJ=>?_)
 replace hm:=Qw hm aJ
 refine Q2 [] (S':=[]) Z (Q5 (Q1 (wP Z (Q4 (Q3 (Qk (Q8 (Qa (Q8 (Q8 (Qa (Q8 ?_))))))))))))
 have hE:=(Zi hm).symm
 replace hE:=Qn hLj_3 hE
 replace hE:=Qn hLu1 hE
 replace hE:=Qn hLj_2 hE
 replace hE:=hE.symm
 subst hE
 refine Qq (Hr:=[]) [] Tryz.results34 (Qb Z) ⟨Z,Z,Z⟩ (asK [] Z) Z Z (.inl Z)
 replace hm:=Qv hm aJ
 refine Q2 [4,3,1] (S':=V3 ..) Z (Qt (Q3 (Q5 (Q1 (wP Z (Q4 (Q3 (Qx (Q1o (σ:=Nat×Nat) (fun (aB,a2)=>Q19 (Q2s N h l0 aA) aB a2=some aT) (fun (aB,a2)=>aB) (fun (aB,a2)=>[(5,.int .i64 ((a2:Nat):Int)),(4,.pointer (some ⟨g4,0,none⟩)),(3,.int .i64 ((h:Nat):Int)),(1,.pointer (some ⟨g1,0,none⟩))]) (fun (aB,a2)=>[.sli 2 Qh y z l0,.sli 5 Qi a0 a1 l1]) (fun (aB,a2)=>[.blk g4 [.string aA.name,.int .i64 (aA.fields)] 69,.blk g1 [.slice y l0.length z,.slice a0 l1.length a1] 25]) (N,0) hm [5,4,3,1] Z (asK [0,1] Z) Z (fun s_ hm=>?_))))))))))
 obtain ⟨aB,a2⟩:=s_
 try dsimp only at hm ⊢
 obtain ⟨c0,c1,b2,hq,hLu2⟩:=Q10 hm
 clear hm
 subst b2
 replace hm:=hq
 clear hq
 unfold Q2s at hm
 try dsimp only at hm
 refine Q5 (Q5 (Q1 (wP Z (wP Z (wP Z (QD (d:=46) (v':=.bool (decide (a2 < h))) (S':=V6 ..) Z Z (Q2E (a:=a2) (b:=h)) (Q4 (Q3 (Q2 [46,5,4,3,1] (S':=V5 ..) Z ?_)))))))))
 refine Qm Z (fun aK=>?_) (fun aK=>?_)
 replace hm:=Qw hm aK
 refine Q2 [5,4,3,1] (S':=V4 ..) Z (Qt (Q3 (Q5 (Qx (Q5 ?_)))))
 obtain ⟨c2,b3,hm⟩:=Q7 hm
 refine QR [0,1,2,3,4,5,6,7,8] Z Z (fun hok=>(Q9 hok 0 Z Z Z Zq Z Z Z Q4D (Ql hok 1 1 0 Z Z Z Zq Z Z Z Z (cs:=[_]) Z Q7l Q7i Z Z (xP hok 2 Z (Q1B hok 3 0 a2 Z Z Z Zq Z Z Z Z Z Z b3 Q6r Q95 (fun c3 c4 bQ bK=>(Q1X Q2A 1 Z (fun c5 b4 _=>?_))))))))
 subst b4
 refine Q9 hok 4 Z Z Z Zq Z Z Z Q8d (Q2J hok 5 0 0 Z Z Z Zq Z Z Z Z (cs:=[_]) Z tS_9 tA_9 Z Z (Q9 hok 6 Z Z Z Zq Z Z Z Q8d (Ql hok 7 0 0 Z Z Z Zq Z Z Z Z (cs:=[_]) Z tS_9 tA_9 Z Z (xP hok 8 Z (QO hok Z (Q3 (Q2 [57,5,4,3,1] (S':=V5 ..) Z ?_)))))))
 refine Qm Z (fun aL=>?_) (fun aL=>?_)
 replace hm:=Qw hm aL
 refine Q2 [] (S':=[]) Z (Q5 (Q1 (wP Z (Q4 (Q3 (Qk (Qa (Q8 (Q8 (Qa (Qa (Q8 (Q8 ?_)))))))))))))
 refine Qa (Q8 ?_)
 have hE:=(Zi hm).symm
 replace hE:=Qn hLu2 hE
 replace hE:=Qn hLj_3 hE
 replace hE:=Qn hLu1 hE
 replace hE:=Qn hLj_2 hE
 replace hE:=hE.symm
 subst hE
 refine Qq (Hr:=[]) [] Tryz.results34 (Qb Z) ⟨Z,Z,Z⟩ (asK [] Z) Z Z (.inl Z)
 replace hm:=Qv hm aL
 refine Q2 [5,4,3,1] (S':=V4 ..) Z (Qt (Qf (Q3 (Q1 (wP Z (wP Z ?_))))))
 obtain ⟨b5,hm⟩:=Qz hm
 refine QD (d:=48) (v':=.int .i64 ((a2+1:Nat):Int)) (S':=V5 ..) Z Z (Q1f (a:=a2) (b:=1) b5) (QS (S':=V5 ..) Z Z Z Z Z (Q4 ?_))
 have hE:=(Zi hm).symm
 replace hE:=QA hLu2 hE
 refine QY (_,a2+1) (Nat.lt_succ_self _) hE [5,4,3,1] Z (asK [2,3] Z) Z
 replace hm:=Qv hm aK
 refine Q2 [3,1] (S':=[_,_]) Z (Q1k (Qo (Qo (QG (Qf ?_)))))
 have hE:=(Zi hm).symm
 replace hE:=Qn hLu2 hE
 refine Qu [1] Z (H':=[_]) Z ?_
 refine Qd () hE [3,1] Z (asK [0,1] Z) Z
 rintro _ hE
 try dsimp only
 have hm:=QA hLj_3 hE
 try dsimp only at hm
 refine Q1 (wP Z (wP Z ?_))
 obtain ⟨b6,hm⟩:=Qz hm
 refine QD (d:=24) (v':=.int .i64 ((h+1:Nat):Int)) (S':=V3 ..) Z Z (Q1f (a:=h) (b:=1) b6) (QS (S':=V3 ..) Z Z Z Z Z (Q4 ?_))
 have hE:=(Zi hm).symm
 replace hE:=QA hLu1 hE
 refine QY (_,h+1) (Nat.lt_succ_self _) hE [3,1] Z (asK [0,1] Z) Z
 replace hm:=Qv hm aG
 refine Q2 [1] (S':=[_]) Z (Q1k (Qo (Qo (QG ?_))))
 have hE:=(Zi hm).symm
 replace hE:=Qn hLu1 hE
 refine Qd () hE [1] Z (asK [0,1] Z) Z
 rintro _ hE
 try dsimp only
 have hm:=QA hLj_2 hE
 try dsimp only at hm
 refine Q5 ?_
 obtain ⟨aU,hm,hLj_5⟩:=QN hm
 refine QF (σ:=Unit) (fun _=>aU=.inl ()) (fun _=>[]) (fun _=>[]) (fun _=>[]) ?_ ?_
 refine Q5 (Q1 (wP Z (Q4 (Q3 (Qx (Q1o (σ:=Nat×Nat) (fun (aC,s)=>Q19 (Q1T N l1 l0) aC s=some aU) (fun (aC,s)=>aC) (fun (aC,s)=>[(6,.int .i64 ((s:Nat):Int)),(1,.pointer (some ⟨g1,0,none⟩))]) (fun (aC,s)=>[.sli 2 Qh y z l0,.sli 5 Qi a0 a1 l1]) (fun (aC,s)=>[.blk g1 [.slice y l0.length z,.slice a0 l1.length a1] 25]) (N,0) hm [6,1] Z (asK [0,1] Z) Z (fun s_ hm=>?_)))))))
 obtain ⟨aC,s⟩:=s_
 try dsimp only at hm ⊢
 obtain ⟨c6,c7,b7,hq,hLu3⟩:=Q10 hm
 clear hm
 subst b7
 replace hm:=hq
 clear hq
 unfold Q1T at hm
 try dsimp only at hm
 refine Q5 (Q5 (Q1 (wP Z (wF Z Q4Z (wD 0 1 Z Q7u Q7t Z (wN Z Q6X (wP Z (QD (d:=62) (v':=.bool (decide (s < l1.length))) (S':=V6 ..) Z Z (Q2E (a:=s) (b:=l1.length)) (Q4 (Q3 (Q2 [62,6,1] (S':=V3 ..) Z ?_)))))))))))
 refine Qm Z (fun aM=>?_) (fun aM=>?_)
 replace hm:=Qw hm aM
 refine Q2 [6,1] (S':=[_,_]) Z (Qt (Q3 (Q5 (Qx (Q5 ?_)))))
 obtain ⟨aV,hm,hLj_6⟩:=QN hm
 refine QF (σ:=Unit) (fun _=>aV=.inl ()) (fun _=>[(6,.int .i64 ((s:Nat):Int)),(1,.pointer (some ⟨g1,0,none⟩))]) (fun _=>[.sli 2 Qh y z l0,.sli 5 Qi a0 a1 l1]) (fun _=>[.blk g1 [.slice y l0.length z,.slice a0 l1.length a1] 25]) ?_ ?_
 refine Q5 (Q1 (wP Z (Q4 (Q3 (Qx (Q1o (σ:=Nat×Nat) (fun (aD,a3)=>Q19 (Q2t N s l1) aD a3=some aV) (fun (aD,a3)=>aD) (fun (aD,a3)=>[(7,.int .i64 ((a3:Nat):Int)),(6,.int .i64 ((s:Nat):Int)),(1,.pointer (some ⟨g1,0,none⟩))]) (fun (aD,a3)=>[.sli 2 Qh y z l0,.sli 5 Qi a0 a1 l1]) (fun (aD,a3)=>[.blk g1 [.slice y l0.length z,.slice a0 l1.length a1] 25]) (N,0) hm [7,6,1] Z (asK [0,1] Z) Z (fun s_ hm=>?_)))))))
 obtain ⟨aD,a3⟩:=s_
 try dsimp only at hm ⊢
 obtain ⟨c8,c9,b8,hq,hLu4⟩:=Q10 hm
 clear hm
 subst b8
 replace hm:=hq
 clear hq
 unfold Q2t at hm
 try dsimp only at hm
 refine Q5 (Q5 (Q1 (wP Z (wP Z (wP Z (QD (d:=67) (v':=.bool (decide (a3 < s))) (S':=V5 ..) Z Z (Q2E (a:=a3) (b:=s)) (Q4 (Q3 (Q2 [67,7,6,1] (S':=V4 ..) Z ?_)))))))))
 refine Qm Z (fun aN=>?_) (fun aN=>?_)
 replace hm:=Qw hm aN
 refine Q2 [7,6,1] (S':=V3 ..) Z (Qt (Q3 (Q5 (Qx (Q5 ?_)))))
 obtain ⟨cA,b9,hm⟩:=Q7 hm
 obtain ⟨cB,bA,hm⟩:=Q7 hm
 refine QR [0,1,2,3,4,5,6,7,8,9,10,11,12] Z Z (fun hok=>(Q9 hok 0 Z Z Z Zq Z Z Z Q4Z (Ql hok 1 0 1 Z Z Z Zq Z Z Z Z (cs:=[_]) Z Q7u Q7t Z Z (xP hok 2 Z (Q1B hok 3 1 a3 Z Z Z Zq Z Z Z Z Z Z b9 Q6X Q6Y (fun cC cD bR bL=>(Q1X Q28 1 Z (fun cE bB _=>?_))))))))
 subst bB
 refine Q9 hok 4 Z Z Z Zq Z Z Z Q9S (Q2J hok 5 2 0 Z Z Z Zq Z Z Z Z (cs:=[_]) Z tS_9 tA_9 Z Z (Q9 hok 6 Z Z Z Zq Z Z Z Q4Z (Ql hok 7 0 1 Z Z Z Zq Z Z Z Z (cs:=[_]) Z Q7u Q7t Z Z (xP hok 8 Z (Q1B hok 9 5 s Z Z Z Zq Z Z Z Z Z Z bA Q6X Q6Y (fun cF cG bS bM=>(Q1X Q28 1 Z (fun cH bC _=>?_))))))))
 subst bC
 refine Q9 hok 10 Z Z Z Zq Z Z Z Q9S (Q2J hok 11 2 0 Z Z Z Zq Z Z Z Z (cs:=[_]) Z tS_9 tA_9 Z Z (xP hok 12 Z (QO hok Z (Q3 (Q2 [82,7,6,1] (S':=V4 ..) Z ?_)))))
 refine Qm Z (fun aO=>?_) (fun aO=>?_)
 replace hm:=Qw hm aO
 refine Q2 [] (S':=[]) Z (Q5 (Q1 (wP Z (Q4 (Q3 (Qk (Qa (Q8 (Q8 (Qa (Q8 (Qa (Q8 ?_)))))))))))))
 refine Q8 (Qa (Q8 ?_))
 have hE:=(Zi hm).symm
 replace hE:=Qn hLu4 hE
 replace hE:=Qn hLj_6 hE
 replace hE:=Qn hLu3 hE
 replace hE:=Qn hLj_5 hE
 replace hE:=hE.symm
 subst hE
 refine Qq (Hr:=[]) [] Tryz.results34 (Qb Z) ⟨Z,Z,Z⟩ (asK [] Z) Z Z (.inl Z)
 replace hm:=Qv hm aO
 refine Q2 [7,6,1] (S':=V3 ..) Z (Qt (Qf (Q3 (Q1 (wP Z (wP Z ?_))))))
 obtain ⟨bD,hm⟩:=Qz hm
 refine QD (d:=69) (v':=.int .i64 ((a3+1:Nat):Int)) (S':=V4 ..) Z Z (Q1f (a:=a3) (b:=1) bD) (QS (S':=V4 ..) Z Z Z Z Z (Q4 ?_))
 have hE:=(Zi hm).symm
 replace hE:=QA hLu4 hE
 refine QY (_,a3+1) (Nat.lt_succ_self _) hE [7,6,1] Z (asK [8,9] Z) Z
 replace hm:=Qv hm aN
 refine Q2 [6,1] (S':=[_,_]) Z (Q1k (Qo (Qo (QG ?_))))
 have hE:=(Zi hm).symm
 replace hE:=Qn hLu4 hE
 refine Qd () hE [6,1] Z (asK [0,1] Z) Z
 rintro _ hE
 try dsimp only
 have hm:=QA hLj_6 hE
 try dsimp only at hm
 refine Q5 ?_
 obtain ⟨aP,bE,hm⟩:=Q7 hm
 obtain ⟨cI,bF,hm⟩:=Q7 hm
 refine QR [0,1,2,3,4,5,6,8] Z Z (fun hok=>(Q9 hok 0 Z Z Z Zq Z Z Z Q4D (Ql hok 1 0 0 Z Z Z Zq Z Z Z Z (cs:=[_]) Z Q7l Q7i Z Z (Q9 hok 2 Z Z Z Zq Z Z Z Q4Z (Ql hok 3 0 1 Z Z Z Zq Z Z Z Z (cs:=[_]) Z Q7u Q7t Z Z (xP hok 4 Z (Q1B hok 5 1 s Z Z Z Zq Z Z Z Z Z Z bE Q6X Q6Y (fun cJ cK bT bN=>(Q1X Q28 1 Z (fun aR bG _=>?_))))))))))
 subst bG
 refine Q2J hok 6 2 0 Z Z Z Zq Z Z Z Z (cs:=V5 ..) Z Q6Y tA_52 Z Z (xS hok 7 Z (wC [] [0] Z fn_71 Z (Q9Y N y z l0 aP.name aP.salience aP.vars aR.1.1 aR.1.2 aP.conds aR.2.1 aR.2.2 aP.acts _ bF) (asK [4,0,1] Z) Z (H':=[_]) Z ?_))
 rintro _ _ _ ⟨rfl,rfl,rfl⟩
 refine Q4 (Q12 [0,1,2,3,4,5] [0] Z Z (xP hok 8 Z (QO hok Z (Q3 (Q2 [91,6,1] (S':=V3 ..) Z ?_)))))
 refine Qm Z (fun aQ=>?_) (fun aQ=>?_)
 replace hm:=Qw hm aQ
 refine Q2 [] (S':=[]) Z (Q5 (Q1 (wP Z (Q4 (Q3 (Qk (Qa (Q8 (Q8 (Qa (Q8 ?_)))))))))))
 have hE:=(Zi hm).symm
 replace hE:=Qn hLu3 hE
 replace hE:=Qn hLj_5 hE
 replace hE:=hE.symm
 subst hE
 refine Qq (Hr:=[]) [] Tryz.results34 (Qb Z) ⟨Z,Z,Z⟩ (asK [] Z) Z Z (.inl Z)
 replace hm:=Qv hm aQ
 refine Q2 [6,1] (S':=[_,_]) Z (Qt (Qf (Q3 (Q1 (wP Z (wP Z ?_))))))
 obtain ⟨bH,hm⟩:=Qz hm
 refine QD (d:=64) (v':=.int .i64 ((s+1:Nat):Int)) (S':=V3 ..) Z Z (Q1f (a:=s) (b:=1) bH) (QS (S':=V3 ..) Z Z Z Z Z (Q4 ?_))
 have hE:=(Zi hm).symm
 replace hE:=QA hLu3 hE
 refine QY (_,s+1) (Nat.lt_succ_self _) hE [6,1] Z (asK [4,5] Z) Z
 replace hm:=Qv hm aM
 refine Q2 [] (S':=[]) Z (Q1k (Qo (Qo (QG ?_))))
 have hE:=(Zi hm).symm
 replace hE:=Qn hLu3 hE
 refine Qu [] Z (H':=[]) Z ?_
 refine Qd () hE [] Z (asK [] Z) Z
 rintro _ hE
 try dsimp only
 have hm:=QA hLj_5 hE
 try dsimp only at hm
 refine Q5 (Q1 (wP Z (Q4 (Q3 (Qk ?_)))))
 have hE:=(Zi hm).symm
 replace hE:=hE.symm
 subst hE
 refine Qq (Hr:=[]) [] Tryz.results34 (Qb Z) ⟨Z,Z,Z⟩ (asK [] Z) Z Z (.inl Z)
theorem Q73 (N:Nat)(a3:OA)(a4:Nat)(l0:List Qg)(a5:OA)(a6:Nat)(l1:List Qj)(a7:OA)(a8:Nat)(l2:List QP)(o0:Bool)(hm:Q36 N l0 l1 l2=some o0):Q1d Tryz.prog 35 [.agg #[.slice a3 l0.length a4,.slice a5 l1.length a6],.slice a7 l2.length a8] [.sli 2 Qh a3 a4 l0,.sli 5 Qi a5 a6 l1,.sli 3 QW a7 a8 l2] [] (fun v Φr Hr=>v=.bool o0∧Φr=[]∧Hr=[]):=by
 unfold Q36 at hm
 refine QI Tryz.func35 Z Tryz.ntmps35 Z (S:=[_,_]) Z (fun C=>(Q5 (Q1 (wB Z (fun g2=>(wP Z (Q4 (Q3 (Q2 [2,1] (S':=[_,_]) Z (Q5 (Q1 (wP Z (Q4 (Q3 (Q5 ?_)))))))))))))))
 obtain ⟨aO,hm,hLj_1⟩:=QN hm
 refine QF (σ:=Unit) (fun _=>aO=.inl ()) (fun _=>[]) (fun _=>[]) (fun _=>[]) ?_ ?_
 refine Q5 (Q1 (wP Z (Q4 (Q3 (Qx (Q1o (σ:=Nat×Nat×Int) (fun (aC,h,a2)=>Q19 (Q1U N l2 l0) aC (h,a2)=some aO) (fun (aC,h,a2)=>aC) (fun (aC,h,a2)=>[(6,.int .i64 ((h:Nat):Int)),(5,.int .i64 a2),(2,.pointer (some ⟨g2,0,none⟩)),(1,.slice a7 l2.length a8)]) (fun (aC,h,a2)=>[.sli 2 Qh a3 a4 l0,.sli 5 Qi a5 a6 l1,.sli 3 QW a7 a8 l2]) (fun (aC,h,a2)=>[.blk g2 [.slice a3 l0.length a4,.slice a5 l1.length a6] 25]) (N,0,0) hm [6,5,2,1] Z (asK [0,1,2] Z) Z (fun s_ hm=>?_)))))))
 obtain ⟨aC,h,a2⟩:=s_
 try dsimp only at hm ⊢
 obtain ⟨bD,bE,aR,hq,hLu1⟩:=Q10 hm
 clear hm
 subst aR
 replace hm:=hq
 clear hq
 unfold Q1U at hm
 try dsimp only at hm
 refine Q5 (Q5 (Q1 (wP Z (wP Z (wN Z Q6s (wP Z (QD (d:=12) (v':=.bool (decide (h < l2.length))) (S':=V7 ..) Z Z (Q2E (a:=h) (b:=l2.length)) (Q4 (Q3 (Q2 [12,6,5,2,1] (S':=V5 ..) Z ?_))))))))))
 refine Qm Z (fun aI=>?_) (fun aI=>?_)
 replace hm:=Qw hm aI
 refine Q2 [6,5,2,1] (S':=V4 ..) Z (Qt (Q3 (Q5 ?_)))
 obtain ⟨aP,hm,hLj_2⟩:=QN hm
 unfold Q5n at hm
 refine QF (σ:=Int) (fun a0=>aP=.inl a0) (fun a0=>[(6,.int .i64 ((h:Nat):Int)),(5,.int .i64 a0),(2,.pointer (some ⟨g2,0,none⟩)),(1,.slice a7 l2.length a8)]) (fun a0=>[.sli 2 Qh a3 a4 l0,.sli 5 Qi a5 a6 l1,.sli 3 QW a7 a8 l2]) (fun a0=>[.blk g2 [.slice a3 l0.length a4,.slice a5 l1.length a6] 25]) ?_ ?_
 refine Qx (Q5 (Q1 (wP Z (wP Z ?_))))
 obtain ⟨a1,aS,hm⟩:=Q7 hm
 refine QT 2 h Z Z Z Zq Z Z Z Z Z aS Q6s Q5Z (fun bF bG bA b5=>(Q1h Q2k 1 Z (fun aA aT _=>?_)))
 subst aT
 refine Q1g 1 0 Z Z Z Zq Z Z Z (cs:=V3 ..) Z Q5Z tA_71 Z Z (Q13 Z Z Z Zq Z tZ_71 Z (fun g7=>(wS 0 0 Z Q5Z (all':=V3 ..) Z (H':=[_,_]) Z (Q4 (Q3 (Q2 [7,6,5,2,1] (S':=V5 ..) Z (Q5 (Q5 ?_))))))))
 obtain ⟨aU,hm,hLj_3⟩:=Q7 hm
 unfold Q45 at hm
 refine QF (σ:=Bool) (fun z=>aU=z) (fun z=>[(7,.pointer (some ⟨g7,0,none⟩)),(6,.int .i64 ((h:Nat):Int)),(2,.pointer (some ⟨g2,0,none⟩)),(1,.slice a7 l2.length a8),(53,.bool z)]) (fun z=>[.sli 3 R_V aA.1 aA.2 a1.args,.sli 2 Qh a3 a4 l0,.sli 5 Qi a5 a6 l1,.sli 3 QW a7 a8 l2]) (fun z=>[.blk g7 [.int .i64 (a1.id),.int .i64 (a1.ty),.slice aA.1 a1.args.length aA.2] 71,.blk g2 [.slice a3 l0.length a4,.slice a5 l1.length a6] 25]) ?_ ?_
 rcases Q14 hm with ⟨a9,hm⟩ | ⟨a9,hm⟩
 refine QR [0,1,2,3,4,5,6,7,8,9,10,11,12,13,14,15,16,17,18,19,20,21,22,23,24,25,26,27,28,29,30,31,32,33,34] Z Z (fun hok=>(Q9 hok 0 Z Z Z Zq Z Z Z Q3g (Ql hok 1 0 0 Z Z Z Zq Z Z Z Z (cs:=[_]) Z QZ Q15 Z Z (xP hok 2 Z (xP hok 3 Z (xP hok 4 Z (Q17 (d:=23) (v':=.bool true) (S':=V9 ..) Z Z (QJ a9) (xO hok 5 Z (xO hok 6 Z (xO hok 7 Z (xP hok 8 Z (xP hok 9 Z (xO hok 10 Z (xO hok 11 Z ?_))))))))))))))
 refine xO hok 12 Z (xP hok 13 Z (xP hok 14 Z (xO hok 15 Z (xO hok 16 Z (xO hok 17 Z (xO hok 18 Z (xO hok 19 Z (xO hok 20 Z (xP hok 21 Z (xP hok 22 Z (xO hok 23 Z (xO hok 24 Z (xO hok 25 Z ?_)))))))))))))
 refine xO hok 26 Z (xO hok 27 Z (xO hok 28 Z (xO hok 29 Z (xO hok 30 Z (xO hok 31 Z (xO hok 32 Z (xO hok 33 Z (xP hok 34 Z (QO hok Z ?_)))))))))
 have hE:=(Zi hm).symm
 refine Qd true hE [7,6,2,1,53] Z (asK [0,3,4,5] Z) Z
 rcases Q14 hm with ⟨aB,hm⟩ | ⟨aB,hm⟩
 refine QR [0,1,2,3,4,5,6,7,8,9,10,11,12,13,14,15,16,17,18,19,20,21,22,23,24,25,26,27,28,29,30,31,32,33,34] Z Z (fun hok=>(Q9 hok 0 Z Z Z Zq Z Z Z Q3g (Ql hok 1 0 0 Z Z Z Zq Z Z Z Z (cs:=[_]) Z QZ Q15 Z Z (xP hok 2 Z (xP hok 3 Z (xP hok 4 Z (Q17 (d:=23) (v':=.bool false) (S':=V9 ..) Z Z (QJ a9) (Q9 hok 5 Z Z Z Zq Z Z Z Q3g (Ql hok 6 0 0 Z Z Z Zq Z Z Z Z (cs:=[_]) Z QZ Q15 Z Z (xP hok 7 Z (xP hok 8 Z (xP hok 9 Z (Q17 (d:=28) (v':=.bool true) (S':=V14 ..) Z Z (QJ aB) (xO hok 10 Z ?_))))))))))))))
 refine xO hok 11 Z (xO hok 12 Z (xP hok 13 Z (xP hok 14 Z (xO hok 15 Z (xO hok 16 Z (xO hok 17 Z (xO hok 18 Z (xO hok 19 Z (xO hok 20 Z (xP hok 21 Z (xP hok 22 Z (xO hok 23 Z (xO hok 24 Z ?_)))))))))))))
 refine xO hok 25 Z (xO hok 26 Z (xO hok 27 Z (xO hok 28 Z (xO hok 29 Z (xO hok 30 Z (xO hok 31 Z (xO hok 32 Z (xO hok 33 Z (xP hok 34 Z (QO hok Z ?_))))))))))
 have hE:=(Zi hm).symm
 refine Qd true hE [7,6,2,1,53] Z (asK [0,3,4,5] Z) Z
 rcases Q14 hm with ⟨aF,hm⟩ | ⟨aF,hm⟩
 refine QR [0,1,2,3,4,5,6,7,8,9,10,11,12,13,14,15,16,17,18,19,20,21,22,23,24,25,26,27,28,29,30,31,32,33,34] Z Z (fun hok=>(Q9 hok 0 Z Z Z Zq Z Z Z Q3g (Ql hok 1 0 0 Z Z Z Zq Z Z Z Z (cs:=[_]) Z QZ Q15 Z Z (xP hok 2 Z (xP hok 3 Z (xP hok 4 Z (Q17 (d:=23) (v':=.bool false) (S':=V9 ..) Z Z (QJ a9) (Q9 hok 5 Z Z Z Zq Z Z Z Q3g (Ql hok 6 0 0 Z Z Z Zq Z Z Z Z (cs:=[_]) Z QZ Q15 Z Z (xP hok 7 Z (xP hok 8 Z (xP hok 9 Z (Q17 (d:=28) (v':=.bool false) (S':=V14 ..) Z Z (QJ aB) (Q9 hok 10 Z Z Z Zq Z Z Z Q5h ?_))))))))))))))
 refine Ql hok 11 0 1 Z Z Z Zq Z Z Z Z (cs:=[_]) Z QZ Q15 Z Z (xP hok 12 Z (xP hok 13 Z (xP hok 14 Z (Q17 (d:=33) (v':=.bool true) (S':=V19 ..) Z Z (QJ aF) (xO hok 15 Z (xO hok 16 Z (xO hok 17 Z (xO hok 18 Z (xO hok 19 Z (xO hok 20 Z (xP hok 21 Z (xP hok 22 Z (xO hok 23 Z ?_)))))))))))))
 refine xO hok 24 Z (xO hok 25 Z (xO hok 26 Z (xO hok 27 Z (xO hok 28 Z (xO hok 29 Z (xO hok 30 Z (xO hok 31 Z (xO hok 32 Z (xO hok 33 Z (xP hok 34 Z (QO hok Z ?_)))))))))))
 have hE:=(Zi hm).symm
 refine Qd true hE [7,6,2,1,53] Z (asK [0,3,4,5] Z) Z
 rcases Q14 hm with ⟨aJ,hm⟩ | ⟨aJ,hm⟩
 refine QR [0,1,2,3,4,5,6,7,8,9,10,11,12,13,14,15,16,17,18,19,20,21,22,23,24,25,26,27,28,29,30,31,32,33,34] Z Z (fun hok=>(Q9 hok 0 Z Z Z Zq Z Z Z Q3g (Ql hok 1 0 0 Z Z Z Zq Z Z Z Z (cs:=[_]) Z QZ Q15 Z Z (xP hok 2 Z (xP hok 3 Z (xP hok 4 Z (Q17 (d:=23) (v':=.bool false) (S':=V9 ..) Z Z (QJ a9) (Q9 hok 5 Z Z Z Zq Z Z Z Q3g (Ql hok 6 0 0 Z Z Z Zq Z Z Z Z (cs:=[_]) Z QZ Q15 Z Z (xP hok 7 Z (xP hok 8 Z (xP hok 9 Z (Q17 (d:=28) (v':=.bool false) (S':=V14 ..) Z Z (QJ aB) (Q9 hok 10 Z Z Z Zq Z Z Z Q5h ?_))))))))))))))
 refine Ql hok 11 0 1 Z Z Z Zq Z Z Z Z (cs:=[_]) Z QZ Q15 Z Z (xP hok 12 Z (xP hok 13 Z (xP hok 14 Z (Q17 (d:=33) (v':=.bool false) (S':=V19 ..) Z Z (QJ aF) (Q9 hok 15 Z Z Z Zq Z Z Z Q5h (Ql hok 16 0 1 Z Z Z Zq Z Z Z Z (cs:=[_]) Z QZ Q15 Z Z (Q9 hok 17 Z Z Z Zq Z Z Z Q4D (Ql hok 18 1 0 Z Z Z Zq Z Z Z Z (cs:=[_]) Z Q7l Q7i Z Z (Q7p hok 19 Z Z Z Zq Z Z Z Q6r (xP hok 20 Z (xP hok 21 Z (xP hok 22 Z (Q17 (d:=41) (v':=.bool true) (S':=V27 ..) Z Z (QJ aJ) ?_)))))))))))))
 refine xO hok 23 Z (xO hok 24 Z (xO hok 25 Z (xO hok 26 Z (xO hok 27 Z (xO hok 28 Z (xO hok 29 Z (xO hok 30 Z (xO hok 31 Z (xO hok 32 Z (xO hok 33 Z (xP hok 34 Z (QO hok Z ?_))))))))))))
 have hE:=(Zi hm).symm
 refine Qd true hE [7,6,2,1,53] Z (asK [0,3,4,5] Z) Z
 obtain ⟨aV,hm⟩:=Qz hm
 obtain ⟨b6,aW,hm⟩:=Q7 hm
 refine QR [0,1,2,3,4,5,6,7,8,9,10,11,12,13,14,15,16,17,18,19,20,21,22,23,24,25,26,27,28,29,30,31,32,33,34] Z Z (fun hok=>(Q9 hok 0 Z Z Z Zq Z Z Z Q3g (Ql hok 1 0 0 Z Z Z Zq Z Z Z Z (cs:=[_]) Z QZ Q15 Z Z (xP hok 2 Z (xP hok 3 Z (xP hok 4 Z (Q17 (d:=23) (v':=.bool false) (S':=V9 ..) Z Z (QJ a9) (Q9 hok 5 Z Z Z Zq Z Z Z Q3g (Ql hok 6 0 0 Z Z Z Zq Z Z Z Z (cs:=[_]) Z QZ Q15 Z Z (xP hok 7 Z (xP hok 8 Z (xP hok 9 Z (Q17 (d:=28) (v':=.bool false) (S':=V14 ..) Z Z (QJ aB) (Q9 hok 10 Z Z Z Zq Z Z Z Q5h ?_))))))))))))))
 refine Ql hok 11 0 1 Z Z Z Zq Z Z Z Z (cs:=[_]) Z QZ Q15 Z Z (xP hok 12 Z (xP hok 13 Z (xP hok 14 Z (Q17 (d:=33) (v':=.bool false) (S':=V19 ..) Z Z (QJ aF) (Q9 hok 15 Z Z Z Zq Z Z Z Q5h (Ql hok 16 0 1 Z Z Z Zq Z Z Z Z (cs:=[_]) Z QZ Q15 Z Z (Q9 hok 17 Z Z Z Zq Z Z Z Q4D (Ql hok 18 1 0 Z Z Z Zq Z Z Z Z (cs:=[_]) Z Q7l Q7i Z Z (Q7p hok 19 Z Z Z Zq Z Z Z Q6r (xP hok 20 Z (xP hok 21 Z (xP hok 22 Z (Q17 (d:=41) (v':=.bool false) (S':=V27 ..) Z Z (QJ aJ) ?_)))))))))))))
 refine Q9 hok 23 Z Z Z Zq Z Z Z Q68 (Ql hok 24 0 2 Z Z Z Zq Z Z Z Z (cs:=[_]) Z Q5i Q5f Z Z (Q7p hok 25 Z Z Z Zq Z Z Z Q29 (Q9 hok 26 Z Z Z Zq Z Z Z Q4D (Ql hok 27 1 0 Z Z Z Zq Z Z Z Z (cs:=[_]) Z Q7l Q7i Z Z (Q9 hok 28 Z Z Z Zq Z Z Z Q5h (Ql hok 29 0 1 Z Z Z Zq Z Z Z Z (cs:=[_]) Z QZ Q15 Z Z (Q1B hok 30 3 a1.ty.toNat Z Z Z Zq Z Z Z Z Z (Q1I aV) aW Q6r Q95 (fun bH bI bB b7=>(Q1X Q2A 1 Z (fun bJ aX _=>?_))))))))))
 subst aX
 refine Q9 hok 31 Z Z Z Zq Z Z Z Q6K (Q2J hok 32 0 1 Z Z Z Zq Z Z Z Z (cs:=[_]) Z QZ Q15 Z Z (xP hok 33 Z (xP hok 34 Z (QO hok Z ?_))))
 have hE:=(Zi hm).symm
 refine Qd (((a1.args.length:Nat):Int) !=b6.fields) hE [7,6,2,1,53] Z (asK [2,5,6,7] Z) Z
 rintro z hE
 try dsimp only
 have hm:=hLj_3
 try rw [hE] at hm
 refine Qm Z (fun aK=>?_) (fun aK=>?_)
 replace hm:=Qw hm aK
 refine Q2 [] (S':=[]) Z (Q5 (Q1 (wP Z (Q4 (Q3 (Qk (Q8 (Qa (Q8 (Q8 (Qa (Q8 ?_))))))))))))
 have hE:=(Zi hm).symm
 replace hE:=Qn hLj_2 hE
 replace hE:=Qn hLu1 hE
 replace hE:=Qn hLj_1 hE
 replace hE:=hE.symm
 subst hE
 refine Qq (Hr:=[]) [] Tryz.results35 (Qb Z) ⟨Z,Z,Z⟩ (asK [] Z) Z Z (.inl Z)
 replace hm:=Qv hm aK
 refine Q2 [7,6,2,1] (S':=V4 ..) Z (Qt (Q3 (Q5 (Q1 (wF Z Q3g (wD 0 0 Z QZ Q15 Z (wP Z (Q4 (Q3 (Q2 [5,7,6,2,1] (S':=V5 ..) Z (Q5 (Q1 (wP Z ?_)))))))))))))
 refine Q4 (Q3 (Qx (Q1o (σ:=Nat×Nat) (fun (aD,y)=>Q19 (Q2u N a1) aD y=some aP) (fun (aD,y)=>aD) (fun (aD,y)=>[(8,.int .i64 ((y:Nat):Int)),(5,.int .i64 (a1.id)),(7,.pointer (some ⟨g7,0,none⟩)),(6,.int .i64 ((h:Nat):Int)),(2,.pointer (some ⟨g2,0,none⟩)),(1,.slice a7 l2.length a8)]) (fun (aD,y)=>[.sli 3 R_V aA.1 aA.2 a1.args,.sli 2 Qh a3 a4 l0,.sli 5 Qi a5 a6 l1,.sli 3 QW a7 a8 l2]) (fun (aD,y)=>[.blk g7 [.int .i64 (a1.id),.int .i64 (a1.ty),.slice aA.1 a1.args.length aA.2] 71,.blk g2 [.slice a3 l0.length a4,.slice a5 l1.length a6] 25]) (N,0) hm [8,5,7,6,2,1] Z (asK [0,1,2,3] Z) Z (fun s_ hm=>?_))))
 obtain ⟨aD,y⟩:=s_
 try dsimp only at hm ⊢
 obtain ⟨bK,bL,aY,hq,hLu2⟩:=Q10 hm
 clear hm
 subst aY
 replace hm:=hq
 clear hq
 unfold Q2u at hm
 try dsimp only at hm
 refine Q5 (Q5 (Q1 (wP Z (wF Z Q68 (wD 0 2 Z Q5i Q5f Z (wN Z Q29 (wP Z (QD (d:=60) (v':=.bool (decide (y < a1.args.length))) (S':=V10 ..) Z Z (Q2E (a:=y) (b:=a1.args.length)) (Q4 (Q3 (Q2 [60,8,5,7,6,2,1] (S':=V7 ..) Z ?_)))))))))))
 refine Qm Z (fun aL=>?_) (fun aL=>?_)
 replace hm:=Qw hm aL
 refine Q2 [8,5,7,6,2,1] (S':=V6 ..) Z (Qt (Q3 (Q5 (Qx (Q5 (Q1 (wF Z Q68 (wD 0 2 Z Q5i Q5f Z (wP Z ?_)))))))))
 obtain ⟨aQ,aZ,hm⟩:=Q7 hm
 refine QT 0 y Z Z Z Zq Z Z Z Z Z aZ Q29 QB (fun bM bN bC b8=>(Q1h Q2l 1 Z (fun bO b0 _=>?_)))
 subst b0
 refine Q1g 0 0 Z Z Z Zq Z Z Z (cs:=V3 ..) Z QB Q1b Z Z ?_
 obtain ⟨bP,b1,hm⟩:=Q7 hm
 refine wC [] [0,1] Z fn_72 Z (Q3s N aQ.k aQ.n aQ.s _ b1) (asK [] Z) Z (H':=[_,_]) Z ?_
 rintro _ _ _ ⟨rfl,rfl,rfl⟩
 refine wP Z (Q4 (Q3 (Q2 [69,8,5,7,6,2,1] (S':=V7 ..) Z ?_)))
 refine Qm Z (fun aM=>?_) (fun aM=>?_)
 replace hm:=Qw hm aM
 refine Q2 [] (S':=[]) Z (Q5 (Q1 (wP Z (Q4 (Q3 (Qk (Qa (Q8 (Q8 (Qa (Qa (Q8 (Q8 ?_)))))))))))))
 refine Qa (Q8 ?_)
 have hE:=(Zi hm).symm
 replace hE:=Qn hLu2 hE
 replace hE:=Qn hLj_2 hE
 replace hE:=Qn hLu1 hE
 replace hE:=Qn hLj_1 hE
 replace hE:=hE.symm
 subst hE
 refine Qq (Hr:=[]) [] Tryz.results35 (Qb Z) ⟨Z,Z,Z⟩ (asK [] Z) Z Z (.inl Z)
 replace hm:=Qv hm aM
 refine Q2 [8,5,7,6,2,1] (S':=V6 ..) Z (Qt (Qf (Q3 (Q1 (wP Z (wP Z ?_))))))
 obtain ⟨b2,hm⟩:=Qz hm
 refine QD (d:=62) (v':=.int .i64 ((y+1:Nat):Int)) (S':=V7 ..) Z Z (Q1f (a:=y) (b:=1) b2) (QS (S':=V7 ..) Z Z Z Z Z (Q4 ?_))
 have hE:=(Zi hm).symm
 replace hE:=QA hLu2 hE
 refine QY (_,y+1) (Nat.lt_succ_self _) hE [8,5,7,6,2,1] Z (asK [2,3,4,5] Z) Z
 replace hm:=Qv hm aL
 refine Q2 [5,6,2,1] (S':=V4 ..) Z (Q1k (Qo (Qo (QG (Qf ?_)))))
 have hE:=(Zi hm).symm
 replace hE:=Qn hLu2 hE
 refine Qu [1] Z (H':=[_]) Z ?_
 refine Qd a1.id hE [6,5,2,1] Z (asK [1,2,3] Z) Z
 rintro a0 hE
 try dsimp only
 have hm:=QA hLj_2 hE
 refine Q1 (wP Z (wP Z ?_))
 obtain ⟨b3,hm⟩:=Qz hm
 refine QD (d:=14) (v':=.int .i64 ((h+1:Nat):Int)) (S':=V5 ..) Z Z (Q1f (a:=h) (b:=1) b3) (QS (S':=V5 ..) Z Z Z Z Z (Q4 ?_))
 have hE:=(Zi hm).symm
 replace hE:=QA hLu1 hE
 refine QY (_,h+1,a0) (Nat.lt_succ_self _) hE [6,5,2,1] Z (asK [0,1,2] Z) Z
 replace hm:=Qv hm aI
 refine Q2 [] (S':=[]) Z (Q1k (Qo (Qo (QG ?_))))
 have hE:=(Zi hm).symm
 replace hE:=Qn hLu1 hE
 refine Qu [] Z (H':=[]) Z ?_
 refine Qd () hE [] Z (asK [] Z) Z
 rintro _ hE
 try dsimp only
 have hm:=QA hLj_1 hE
 try dsimp only at hm
 refine Q5 (Q1 (wP Z (Q4 (Q3 (Qk ?_)))))
 have hE:=(Zi hm).symm
 replace hE:=hE.symm
 subst hE
 refine Qq (Hr:=[]) [] Tryz.results35 (Qb Z) ⟨Z,Z,Z⟩ (asK [] Z) Z Z (.inl Z)
theorem Q5q (N:Nat)(a0:Int)  (hm:Q2R N a0=some ()):Q1d Tryz.prog 159 [.int .i64 a0] [] [] (fun v Φr Hr=>v=.agg #[.int .u8 1,.int .i64 a0,.string ((⟨#[]⟩ : ByteArray))]∧Φr=[]∧Hr=[]):=by
 unfold Q2R at hm
 refine QI Tryz.func159 Z Tryz.ntmps159 Z (S:=[_]) Z (fun C=>(Q5 (Q1 (Q13 Z Z Z Zq Z Q1Q Z (fun g2=>(Q4 (Q3 (Q5 (Q1 (wP Z (Q1F Z Z Z Zq Z Q1Q Q69 Z (out:=V3 ..) Z (wS 0 0 Z QB (all':=V3 ..) Z (H':=[_]) Z (Q4 (Q3 (Q2 [2] (S':=[_]) Z ?_)))))))))))))))
 refine Qk ?_
 have hE:=(Zi hm).symm
 refine Qq (Hr:=[]) [] Tryz.results159 (Q1e 0 Z Z QB Q1b Z Z) ⟨Z,Z,Z⟩ (asK [] Z) Z Z (.inl Z)
theorem Q1K (N:Nat)(a0:Bool)(o0:Int)(hm:Q1s N a0=some o0):Q1d Tryz.prog 157 [.bool a0] [] [] (fun v Φr Hr=>v=.agg #[.int .u8 1,.int .i64 o0,.string ((⟨#[]⟩ : ByteArray))]∧Φr=[]∧Hr=[]):=by
 unfold Q1s at hm
 refine QI Tryz.func157 Z Tryz.ntmps157 Z (S:=[_]) Z (fun C=>(Q5 (Q1 (Q13 Z Z Z Zq Z Q1Q Z (fun g2=>(Q4 (Q3 (Q5 (Q5 (Q1 (wP Z (Q4 (Q3 (Q2 [3,2] (S':=[_,_]) Z ?_))))))))))))))
 refine Qm Z (fun hb3=>?_) (fun hb3=>?_)
 replace hm:=Qw hm hb3
 refine Q2 [2] (S':=[_]) Z (Q5 (Q1 ?_))
 obtain ⟨_,hc4,hm⟩:=Q7 hm
 try dsimp only at hm
 refine wC [] [0] Z fn_159 Z (Q5q N 1 hc4) (asK [] Z) Z (H':=[_]) Z ?_
 rintro _ _ _ ⟨rfl,rfl,rfl⟩
 refine wS 0 0 Z QB (all':=V3 ..) Z (H':=[_]) Z (Q4 (Q3 (Q2 [2] (S':=[_]) Z (Qk (Q8 ?_)))))
 have hE:=(Zi hm).symm
 replace hE:=hE.symm
 subst hE
 refine Qq (Hr:=[]) [] Tryz.results157 (Q1e 0 Z Z QB Q1b Z Z) ⟨Z,Z,Z⟩ (asK [] Z) Z Z (.inl Z)
 replace hm:=Qv hm hb3
 refine Q2 [2] (S':=[_]) Z (Qt (Q3 (Q5 (Q1 ?_))))
 obtain ⟨_,hc5,hm⟩:=Q7 hm
 try dsimp only at hm
 refine wC [] [0] Z fn_159 Z (Q5q N 0 hc5) (asK [] Z) Z (H':=[_]) Z ?_
 rintro _ _ _ ⟨rfl,rfl,rfl⟩
 refine wS 0 0 Z QB (all':=V3 ..) Z (H':=[_]) Z (Q4 (Q3 (Q2 [2] (S':=[_]) Z (Qk ?_))))
 have hE:=(Zi hm).symm
 replace hE:=hE.symm
 subst hE
 refine Qq (Hr:=[]) [] Tryz.results157 (Q1e 0 Z Z QB Q1b Z Z) ⟨Z,Z,Z⟩ (asK [] Z) Z Z (.inl Z)
theorem Q7v (N:Nat)(a0:Int)(a1:Int)(o0:Int)(o1:Bool)(hm:Q3F N a0 a1=some (o0,o1)):Q1d Tryz.prog 196 [.int .i64 a0,.int .i64 a1] [] [] (fun v Φr Hr=>v=.tuple #[.int .i64 o0,.bool o1]∧Φr=[]∧Hr=[]):=by
 unfold Q3F at hm
 refine QI Tryz.func196 Z Tryz.ntmps196 Z (S:=[_,_]) Z (fun C=>(Q5 (Q1 (wP Z (wP Z (Q4 (Q3 (Q2 [0,1] (S':=[_,_]) Z (Q5 (Q5 ?_))))))))))
 obtain ⟨a6,hm,hLj_1⟩:=Q7 hm
 unfold Q4B at hm
 refine QF (σ:=Bool) (fun h=>a6=h) (fun h=>[(0,.int .i64 a0),(1,.int .i64 a1),(23,.bool h)]) (fun h=>[]) (fun h=>[]) ?_ ?_
 refine Q1 (wP Z (wP Z (wP Z ?_)))
 refine Qr (d:=8) (S':=V4 ..) Z Z (fun a4=>?_) (fun a4=>?_)
 replace hm:=Qw hm a4
 refine wP Z (wP Z (wP Z ?_))
 obtain ⟨a7,hm⟩:=Qz hm
 refine QD (d:=11) (v':=.int .i64 (9223372036854775807 - a1)) (S':=V7 ..) Z Z (i64_in a7) (wP Z (wP Z (wP Z ?_)))
 refine Qr (d:=14) (S':=V10 ..) Z Z (fun y=>?_) (fun y=>?_)
 replace hm:=Qw hm y
 refine wO Z (wO Z (wO Z (wO Z (wO Z (wO Z (wO Z (wO Z (wP Z (Q4 ?_)))))))))
 have hE:=(Zi hm).symm
 refine Qd true hE [0,1,23] Z (asK [] Z) Z
 replace hm:=Qv hm y
 refine wP Z (wP Z (wP Z ?_))
 refine Qr (d:=17) (S':=V13 ..) Z Z (fun s=>?_) (fun s=>?_)
 replace hm:=Qw hm s
 refine wP Z (wP Z (wP Z ?_))
 obtain ⟨z,hm⟩:=Qz hm
 refine QD (d:=20) (v':=.int .i64 (-9223372036854775808 - a1)) (S':=V16 ..) Z Z (i64_in z) (wP Z (wP Z (wP Z (Q4 ?_))))
 have hE:=(Zi hm).symm
 refine Qd (decide (a0 < (-9223372036854775808 - a1))) hE [0,1,23] Z (asK [] Z) Z
 replace hm:=Qv hm s
 refine wO Z (wO Z (wO Z (wO Z (wP Z (wP Z (Q4 ?_))))))
 have hE:=(Zi hm).symm
 refine Qd false hE [0,1,23] Z (asK [] Z) Z
 replace hm:=Qv hm a4
 refine wO Z (wO Z (wO Z (wO Z (wP Z (wP Z (wP Z (wP Z (wP Z ?_))))))))
 refine Qr (d:=17) (S':=V13 ..) Z Z (fun s=>?_) (fun s=>?_)
 replace hm:=Qw hm s
 refine wP Z (wP Z (wP Z ?_))
 obtain ⟨z,hm⟩:=Qz hm
 refine QD (d:=20) (v':=.int .i64 (-9223372036854775808 - a1)) (S':=V16 ..) Z Z (i64_in z) (wP Z (wP Z (wP Z (Q4 ?_))))
 have hE:=(Zi hm).symm
 refine Qd (decide (a0 < (-9223372036854775808 - a1))) hE [0,1,23] Z (asK [] Z) Z
 replace hm:=Qv hm s
 refine wO Z (wO Z (wO Z (wO Z (wP Z (wP Z (Q4 ?_))))))
 have hE:=(Zi hm).symm
 refine Qd false hE [0,1,23] Z (asK [] Z) Z
 rintro h hE
 try dsimp only
 have hm:=hLj_1
 try rw [hE] at hm
 refine Qm Z (fun a2=>?_) (fun a2=>?_)
 replace hm:=Qw hm a2
 refine Q2 [] (S':=[]) Z (Q5 (Q1 (wP Z (wP Z (Q4 (Q3 (Qk (Q8 ?_))))))))
 have hE:=(Zi hm).symm
 obtain ⟨hE0,hE1⟩:=Prod.mk.inj hE
 clear hE
 replace hE0:=hE0.symm
 subst hE0
 replace hE1:=hE1.symm
 subst hE1
 refine QH (Hr:=[]) [] Tryz.results196 (Qb Z) (Qb Z) ⟨Z,Z,Z⟩ (asK [] Z) Z Z (.inl Z)
 replace hm:=Qv hm a2
 refine Q2 [0,1] (S':=[_,_]) Z (Qt (Q3 (Q5 (Q1 (wP Z (wP Z (wP Z ?_)))))))
 obtain ⟨a8,hm⟩:=Qz hm
 refine QD (d:=26) (v':=.int .i64 (a0+a1)) (S':=V4 ..) Z Z (i64_in a8) (wP Z (wP Z (Q4 (Q3 (Q2 [5,4] (S':=[_,_]) Z (Qk ?_))))))
 have hE:=(Zi hm).symm
 obtain ⟨hE0,hE1⟩:=Prod.mk.inj hE
 clear hE
 replace hE0:=hE0.symm
 subst hE0
 replace hE1:=hE1.symm
 subst hE1
 refine QH (Hr:=[]) [] Tryz.results196 (Qb Z) (Qb Z) ⟨Z,Z,Z⟩ (asK [] Z) Z Z (.inl Z)
theorem Q8K (N:Nat)(a0:Int)(a1:Int)(o0:Int)(o1:Bool)(hm:Q3m N a0 a1=some (o0,o1)):Q1d Tryz.prog 197 [.int .i64 a0,.int .i64 a1] [] [] (fun v Φr Hr=>v=.tuple #[.int .i64 o0,.bool o1]∧Φr=[]∧Hr=[]):=by
 unfold Q3m at hm
 refine QI Tryz.func197 Z Tryz.ntmps197 Z (S:=[_,_]) Z (fun C=>(Q5 (Q1 (wP Z (wP Z (Q4 (Q3 (Q2 [0,1] (S':=[_,_]) Z (Q5 (Q5 ?_))))))))))
 obtain ⟨a3,hm,hLj_1⟩:=Q7 hm
 refine QF (σ:=Bool) (fun h=>a3=h) (fun h=>[(0,.int .i64 a0),(1,.int .i64 a1),(12,.bool h)]) (fun h=>[]) (fun h=>[]) ?_ ?_
 refine Q1 (wP Z (wP Z (wP Z ?_)))
 refine Qr (d:=9) (S':=V4 ..) Z Z (fun a2=>?_) (fun a2=>?_)
 replace hm:=Qw hm a2
 refine wO Z (wO Z (wP Z (Q4 ?_)))
 have hE:=(Zi hm).symm
 refine Qd true hE [0,1,12] Z (asK [] Z) Z
 replace hm:=Qv hm a2
 refine wP Z (wP Z (wP Z (Q4 ?_)))
 have hE:=(Zi hm).symm
 refine Qd (a1==0) hE [0,1,12] Z (asK [] Z) Z
 rintro h hE
 try dsimp only
 have hm:=hLj_1
 try rw [hE] at hm
 refine Qm Z (fun s=>?_) (fun s=>?_)
 replace hm:=Qw hm s
 refine Q2 [] (S':=[]) Z (Q5 (Q1 (wP Z (wP Z (Q4 (Q3 (Qk (Q8 ?_))))))))
 have hE:=(Zi hm).symm
 obtain ⟨hE0,hE1⟩:=Prod.mk.inj hE
 clear hE
 replace hE0:=hE0.symm
 subst hE0
 replace hE1:=hE1.symm
 subst hE1
 refine QH (Hr:=[]) [] Tryz.results197 (Qb Z) (Qb Z) ⟨Z,Z,Z⟩ (asK [] Z) Z Z (.inl Z)
 replace hm:=Qv hm s
 refine Q2 [0,1] (S':=[_,_]) Z (Qt (Q3 (Q5 (Q5 (Q1 (wP Z (wP Z (Q4 (Q3 (Q2 [14,0,1] (S':=V3 ..) Z ?_))))))))))
 refine Qm Z (fun y=>?_) (fun y=>?_)
 replace hm:=Qw hm y
 refine Q2 [1] (S':=[_]) Z (Q5 (Q1 (wP Z (Q3E Z Z Z Zq (rk_neg Z Z) (wP Z (wP Z (wP Z (wP Z (Q4 (Q3 (Q2 [5,4] (S':=[_,_]) Z (Qk (Q8 ?_)))))))))))))
 have hE:=(Zi hm).symm
 obtain ⟨hE0,hE1⟩:=Prod.mk.inj hE
 clear hE
 replace hE0:=hE0.symm
 subst hE0
 replace hE1:=hE1.symm
 subst hE1
 refine QH (Hr:=[]) [] Tryz.results197 (Qb Z) (Qb Z) ⟨Z,Z,Z⟩ (asK [] Z) Z Z (.inl Z)
 replace hm:=Qv hm y
 refine Q2 [0,1] (S':=[_,_]) Z (Qt (Q3 (Q5 (Q5 (Q1 (wP Z (wP Z (Q4 (Q3 (Q2 [20,0,1] (S':=V3 ..) Z ?_))))))))))
 refine Qm Z (fun z=>?_) (fun z=>?_)
 replace hm:=Qw hm z
 refine Q2 [0] (S':=[_]) Z (Q5 (Q1 (wP Z (Q3E Z Z Z Zq (rk_neg Z Z) (wP Z (wP Z (wP Z (wP Z (Q4 (Q3 (Q2 [5,4] (S':=[_,_]) Z (Qk (Q8 ?_)))))))))))))
 have hE:=(Zi hm).symm
 obtain ⟨hE0,hE1⟩:=Prod.mk.inj hE
 clear hE
 replace hE0:=hE0.symm
 subst hE0
 replace hE1:=hE1.symm
 subst hE1
 refine QH (Hr:=[]) [] Tryz.results197 (Qb Z) (Qb Z) ⟨Z,Z,Z⟩ (asK [] Z) Z Z (.inl Z)
 replace hm:=Qv hm z
 refine Q2 [0,1] (S':=[_,_]) Z (Qt (Q3 (Q5 (Q1 (wP Z (wP Z (wP Z (wP Z (Q4 (Q3 (Q2 [6,0,1] (S':=V3 ..) Z (Q5 ?_))))))))))))
 obtain ⟨a4,hm⟩:=Qz hm
 refine QR [0,1,2,3,4,5] Z Z (fun hok=>(xP hok 0 Z (xP hok 1 Z (xP hok 2 Z (wx_bin hok 3 Z Z Z Zq Z Z Z Z (run_quo a4) (xP hok 4 Z (xP hok 5 Z (xS hok 6 Z (wP Z (Q4 (Q12 [] [] Z Z (xS hok 7 Z (wP Z (Q4 ?_))))))))))))))
 refine Q12 [] [] Z Z (QO hok Z (Q3 (Q2 [5,4] (S':=[_,_]) Z (Qk ?_))))
 have hE:=(Zi hm).symm
 obtain ⟨hE0,hE1⟩:=Prod.mk.inj hE
 clear hE
 replace hE0:=hE0.symm
 subst hE0
 replace hE1:=hE1.symm
 subst hE1
 refine QH (Hr:=[]) [] Tryz.results197 (Qb Z) (Qb Z) ⟨Z,Z,Z⟩ (asK [] Z) Z Z (.inl Z)
theorem Q8D (N:Nat)(a0:Int)(a1:Int)(a2:Int)(o0:Int)(o1:Bool)(hm:Q1i N a0 a1 a2=some (o0,o1)):Q1d Tryz.prog 158 [.int .u8 a0,.int .i64 a1,.int .i64 a2] [] [] (fun v Φr Hr=>v=.tuple #[.int .i64 o0,.bool o1]∧Φr=[]∧Hr=[]):=by
 unfold Q1i at hm
 refine QI Tryz.func158 Z Tryz.ntmps158 Z (S:=V3 ..) Z (fun C=>(Q5 (Q1 (wP Z (wP Z (Q4 (Q3 (Q2 [0,1,2] (S':=V3 ..) Z (Q5 (Q5 (Q1 (wP Z (Q4 (Q3 ?_))))))))))))))
 refine Q2 [8,1,2] (S':=V3 ..) Z (Qx (Q5 (Q1 (wP Z (wP Z (Q4 (Q3 (Q2 [9,8,1,2] (S':=V4 ..) Z ?_))))))))
 refine Qm Z (fun z=>?_) (fun z=>?_)
 replace hm:=Qw hm z
 refine Q2 [1,2] (S':=[_,_]) Z (Q5 (Q1 (wP Z (wP Z ?_))))
 obtain ⟨⟨a8,a9⟩,a5,hm⟩:=Q7 hm
 try dsimp only at hm
 refine wC [] [] Z fn_196 Z (Q7v N a1 a2 _ _ a5) (asK [] Z) Z (H':=[]) Z ?_
 rintro _ _ _ ⟨rfl,rfl,rfl⟩
 refine wP Z (wP Z (wP Z (wP Z (Q4 (Q3 (Q2 [7,6] (S':=[_,_]) Z (Qk (Qa (Q8 ?_)))))))))
 have hE:=(Zi hm).symm
 obtain ⟨hE0,hE1⟩:=Prod.mk.inj hE
 clear hE
 replace hE0:=hE0.symm
 subst hE0
 replace hE1:=hE1.symm
 subst hE1
 refine QH (Hr:=[]) [] Tryz.results158 (Qb Z) (Qb Z) ⟨Z,Z,Z⟩ (asK [] Z) Z Z (.inl Z)
 replace hm:=Qv hm z
 refine Q2 [8,1,2] (S':=V3 ..) Z (Q5 (Q1 (wP Z (wP Z (Q4 (Q3 (Q2 [16,8,1,2] (S':=V4 ..) Z ?_)))))))
 refine Qm Z (fun h=>?_) (fun h=>?_)
 replace hm:=Qw hm h
 refine Q2 [1,2] (S':=[_,_]) Z (Q5 (Q5 (Q1 (wP Z (wP Z (Q4 (Q3 (Q2 [19,1,2] (S':=V3 ..) Z ?_))))))))
 refine Qm Z (fun s=>?_) (fun s=>?_)
 replace hm:=Qw hm s
 refine Q2 [1,2] (S':=[_,_]) Z (Q5 (Q1 (wP Z (wP Z (wP Z (wP Z (wP Z (wP Z (wP Z (Q4 (Q3 (Q2 [7,6] (S':=[_,_]) Z (Qk ?_)))))))))))))
 refine Q8 (Qa (Q8 ?_))
 have hE:=(Zi hm).symm
 obtain ⟨hE0,hE1⟩:=Prod.mk.inj hE
 clear hE
 replace hE0:=hE0.symm
 subst hE0
 replace hE1:=hE1.symm
 subst hE1
 refine QH (Hr:=[]) [] Tryz.results158 (Qb Z) (Qb Z) ⟨Z,Z,Z⟩ (asK [] Z) Z Z (.inl Z)
 replace hm:=Qv hm s
 refine Q2 [1,2] (S':=[_,_]) Z (Qt (Q3 (Q5 (Q1 (wP Z (wP Z (Q3E Z Z Z Zq (rk_neg Z Z) ?_)))))))
 obtain ⟨⟨aA,aB⟩,a6,hm⟩:=Q7 hm
 try dsimp only at hm
 refine wC [] [] Z fn_196 Z (Q7v N a1 (IntKind.wrap .i64 (0 - a2)) _ _ a6) (asK [] Z) Z (H':=[]) Z ?_
 rintro _ _ _ ⟨rfl,rfl,rfl⟩
 refine wP Z (wP Z (wP Z (wP Z (Q4 (Q3 (Q2 [7,6] (S':=[_,_]) Z (Qk (Qa (Q8 ?_)))))))))
 have hE:=(Zi hm).symm
 obtain ⟨hE0,hE1⟩:=Prod.mk.inj hE
 clear hE
 replace hE0:=hE0.symm
 subst hE0
 replace hE1:=hE1.symm
 subst hE1
 refine QH (Hr:=[]) [] Tryz.results158 (Qb Z) (Qb Z) ⟨Z,Z,Z⟩ (asK [] Z) Z Z (.inl Z)
 replace hm:=Qv hm h
 refine Q2 [8,1,2] (S':=V3 ..) Z (Q5 (Q1 (wP Z (wP Z (Q4 (Q3 (Q2 [31,1,2] (S':=V3 ..) Z ?_)))))))
 refine Qm Z (fun y=>?_) (fun y=>?_)
 replace hm:=Qw hm y
 refine Q2 [1,2] (S':=[_,_]) Z (Q5 (Q1 (wP Z (wP Z ?_))))
 obtain ⟨⟨aC,aD⟩,a7,hm⟩:=Q7 hm
 try dsimp only at hm
 refine wC [] [] Z fn_197 Z (Q8K N a1 a2 _ _ a7) (asK [] Z) Z (H':=[]) Z ?_
 rintro _ _ _ ⟨rfl,rfl,rfl⟩
 refine wP Z (wP Z (wP Z (wP Z (Q4 (Q3 (Q2 [7,6] (S':=[_,_]) Z (Qk (Qa (Q8 ?_)))))))))
 have hE:=(Zi hm).symm
 obtain ⟨hE0,hE1⟩:=Prod.mk.inj hE
 clear hE
 replace hE0:=hE0.symm
 subst hE0
 replace hE1:=hE1.symm
 subst hE1
 refine QH (Hr:=[]) [] Tryz.results158 (Qb Z) (Qb Z) ⟨Z,Z,Z⟩ (asK [] Z) Z Z (.inl Z)
 replace hm:=Qv hm y
 refine Q2 [1] (S':=[_]) Z (Qt (Qf (Q3 (Q5 (Q1 (wP Z (Q3E Z Z Z Zq (rk_neg Z Z) (wP Z (wP Z (wP Z (wP Z (Q4 (Q3 ?_)))))))))))))
 refine Q2 [7,6] (S':=[_,_]) Z (Qk ?_)
 have hE:=(Zi hm).symm
 obtain ⟨hE0,hE1⟩:=Prod.mk.inj hE
 clear hE
 replace hE0:=hE0.symm
 subst hE0
 replace hE1:=hE1.symm
 subst hE1
 refine QH (Hr:=[]) [] Tryz.results158 (Qb Z) (Qb Z) ⟨Z,Z,Z⟩ (asK [] Z) Z Z (.inl Z)
theorem QaA (N:Nat)(a0:Int)(a7:OA)(a8:Nat)(l1:List V)(o0:Nat)(o1:Int)(o2:Nat)(hm:Q4S N a0 l1=some (o0,o1,o2)):Q1d Tryz.prog 122 [.int .u8 a0,.slice a7 l1.length a8] [.sli 3 R_V a7 a8 l1] [] (fun v Φr Hr=>v=.tuple #[.agg #[.int .u8 ((o0:Nat):Int),.int .i64 o1,.string ((⟨#[]⟩ : ByteArray))],.int .i64 ((o2:Nat):Int)]∧Φr=[]∧Hr=[]):=by
 unfold Q4S at hm
 refine QI Tryz.func122 Z Tryz.ntmps122 Z (S:=[_,_]) Z (fun C=>(Q5 (Q1 (Q13 Z Z Z Zq Z Q1Q Z (fun g4=>(wP Z (Q4 (Q3 (Q2 [4,0,1] (S':=V3 ..) Z (Q5 (Q1 (wP Z (Q4 (Q3 (Q5 ?_)))))))))))))))
 obtain ⟨b8,hm,hLj_1⟩:=Q7 hm
 unfold Q4X at hm
 refine QF (σ:=Nat) (fun a1=>b8=a1) (fun a1=>[(4,.pointer (some ⟨g4,0,none⟩)),(0,.int .u8 a0),(1,.slice a7 l1.length a8),(6,.int .i64 ((a1:Nat):Int))]) (fun a1=>[.sli 3 R_V a7 a8 l1]) (fun a1=>[.blk g4 [.int .u8 0,.int .i64 0,.string ((⟨#[]⟩ : ByteArray))] 57]) ?_ ?_
 refine Q5 ?_
 obtain ⟨b9,hm,hLj_2⟩:=Q7 hm
 refine QF (σ:=Bool) (fun a3=>b9=a3) (fun a3=>[(4,.pointer (some ⟨g4,0,none⟩)),(0,.int .u8 a0),(1,.slice a7 l1.length a8),(6,.int .i64 2),(18,.bool a3)]) (fun a3=>[.sli 3 R_V a7 a8 l1]) (fun a3=>[.blk g4 [.int .u8 0,.int .i64 0,.string ((⟨#[]⟩ : ByteArray))] 57]) ?_ ?_
 refine Q1 (wP Z (wP Z (wP Z ?_)))
 refine Qr (d:=15) (S':=V6 ..) Z Z (fun aN=>?_) (fun aN=>?_)
 replace hm:=Qw hm aN
 refine wO Z (wO Z (wP Z (Q4 ?_)))
 have hE:=(Zi hm).symm
 refine Qd true hE [4,0,1,6,18] Z (asK [0] Z) Z
 replace hm:=Qv hm aN
 refine wP Z (wP Z (wP Z (Q4 ?_)))
 have hE:=(Zi hm).symm
 refine Qd (a0==11) hE [4,0,1,6,18] Z (asK [0] Z) Z
 rintro a3 hE
 try dsimp only
 have hm:=hLj_2
 try rw [hE] at hm
 refine Qm Z (fun aO=>?_) (fun aO=>?_)
 replace hm:=Qw hm aO
 refine Q2 [4,0,1] (S':=V3 ..) Z (Q1 (wP Z (Q4 ?_)))
 have hE:=(Zi hm).symm
 refine Qd 1 hE [4,0,1,6] Z (asK [0] Z) Z
 replace hm:=Qv hm aO
 refine Q2 [4,0,1,6] (S':=V4 ..) Z (Qt ?_)
 have hE:=(Zi hm).symm
 refine Qd 2 hE [4,0,1,6] Z (asK [0] Z) Z
 rintro a1 hE
 try dsimp only
 have hm:=hLj_1
 try rw [hE] at hm
 refine Q5 (Q5 ?_)
 obtain ⟨bA,hm,hLj_3⟩:=Q7 hm
 refine QF (σ:=Bool) (fun a4=>bA=a4) (fun a4=>[(4,.pointer (some ⟨g4,0,none⟩)),(0,.int .u8 a0),(1,.slice a7 l1.length a8),(30,.bool a4)]) (fun a4=>[.sli 3 R_V a7 a8 l1]) (fun a4=>[.blk g4 [.int .u8 0,.int .i64 0,.string ((⟨#[]⟩ : ByteArray))] 57]) ?_ ?_
 refine Q1 (wP Z (wP Z (wP Z ?_)))
 refine Qr (d:=21) (S':=V6 ..) Z Z (fun aP=>?_) (fun aP=>?_)
 replace hm:=Qw hm aP
 refine wO Z (wO Z (wP Z (wP Z (wO Z (wO Z (wO Z (wO Z (wP Z (Q4 ?_)))))))))
 have hE:=(Zi hm).symm
 refine Qd true hE [4,0,1,30] Z (asK [0] Z) Z
 replace hm:=Qv hm aP
 refine wP Z (wP Z (wP Z (wP Z ?_)))
 refine Qr (d:=25) (S':=V10 ..) Z Z (fun aQ=>?_) (fun aQ=>?_)
 replace hm:=Qw hm aQ
 refine wO Z (wO Z (wO Z (wO Z (wP Z (Q4 ?_)))))
 have hE:=(Zi hm).symm
 refine Qd true hE [4,0,1,30] Z (asK [0] Z) Z
 replace hm:=Qv hm aQ
 refine wP Z (wN Z Q29 (wP Z (wP Z (QD (d:=29) (v':=.bool (l1.length !=a1)) (S':=V14 ..) Z Z (natne (a:=l1.length) (b:=a1)) (wP Z (Q4 ?_))))))
 have hE:=(Zi hm).symm
 refine Qd (l1.length !=a1) hE [4,0,1,30] Z (asK [0] Z) Z
 rintro a4 hE
 try dsimp only
 have hm:=hLj_3
 try rw [hE] at hm
 refine Qm Z (fun aR=>?_) (fun aR=>?_)
 replace hm:=Qw hm aR
 refine Q2 [4] (S':=[_]) Z (Q5 (Q1 (Q1F Z Z Z Zq Z Q1Q Q69 Z (out:=V3 ..) Z (wS 0 0 Z QB (all':=V3 ..) Z (H':=[_]) Z (wP Z (Q4 (Q3 (Q2 [5,4] (S':=[_,_]) Z (Qk (Q8 ?_))))))))))
 have hE:=(Zi hm).symm
 obtain ⟨hE0,hF1⟩:=Prod.mk.inj hE
 obtain ⟨hE1,hE2⟩:=Prod.mk.inj hF1
 clear hE hF1
 replace hE0:=hE0.symm
 subst hE0
 replace hE1:=hE1.symm
 subst hE1
 replace hE2:=hE2.symm
 subst hE2
 refine QH (Hr:=[]) [] Tryz.results122 (Q1e 0 Z Z QB Q1b Z Z) (Qb Z) ⟨Z,Z,Z⟩ (asK [] Z) Z Z (.inl Z)
 replace hm:=Qv hm aR
 refine Q2 [4,0,1] (S':=V3 ..) Z (Qt (Q3 (Q5 (Q1 (wP Z (Q4 (Q3 (Q5 ?_))))))))
 obtain ⟨b2,hm,hLj_4⟩:=QN hm
 refine QF (σ:=Bool) (fun a2=>b2=.inl a2) (fun a2=>[(4,.pointer (some ⟨g4,0,none⟩)),(0,.int .u8 a0),(1,.slice a7 l1.length a8),(7,.bool a2)]) (fun a2=>[.sli 3 R_V a7 a8 l1]) (fun a2=>[.blk g4 [.int .u8 0,.int .i64 0,.string ((⟨#[]⟩ : ByteArray))] 57]) ?_ ?_
 refine Q5 (Q1 (wP Z (Q4 (Q3 (Qx (Q1o (σ:=Nat×Nat×Bool) (fun (aF,y,aB)=>Q19 (Q3P N l1) aF (y,aB)=some b2) (fun (aF,y,aB)=>aF) (fun (aF,y,aB)=>[(8,.int .i64 ((y:Nat):Int)),(7,.bool aB),(4,.pointer (some ⟨g4,0,none⟩)),(0,.int .u8 a0),(1,.slice a7 l1.length a8)]) (fun (aF,y,aB)=>[.sli 3 R_V a7 a8 l1]) (fun (aF,y,aB)=>[.blk g4 [.int .u8 0,.int .i64 0,.string ((⟨#[]⟩ : ByteArray))] 57]) (N,0,false) hm [8,7,4,0,1] Z (asK [0] Z) Z (fun s_ hm=>?_)))))))
 obtain ⟨aF,y,aB⟩:=s_
 try dsimp only at hm ⊢
 obtain ⟨cA,cB,bB,hq,hLu1⟩:=Q10 hm
 clear hm
 subst bB
 replace hm:=hq
 clear hq
 unfold Q3P at hm
 try dsimp only at hm
 refine Q5 (Q5 (Q1 (wP Z (wP Z (wN Z Q29 (wP Z (QD (d:=35) (v':=.bool (decide (y < l1.length))) (S':=V8 ..) Z Z (Q2E (a:=y) (b:=l1.length)) (Q4 (Q3 (Q2 [35,8,7,4,0,1] (S':=V6 ..) Z ?_))))))))))
 refine Qm Z (fun aS=>?_) (fun aS=>?_)
 replace hm:=Qw hm aS
 refine Q2 [8,7,4,0,1] (S':=V5 ..) Z (Qt (Q3 (Q5 ?_)))
 obtain ⟨bC,hm,hLj_5⟩:=QN hm
 unfold Q4Y at hm
 refine QF (σ:=Bool) (fun a6=>bC=.inl a6) (fun a6=>[(8,.int .i64 ((y:Nat):Int)),(7,.bool a6),(4,.pointer (some ⟨g4,0,none⟩)),(0,.int .u8 a0),(1,.slice a7 l1.length a8)]) (fun a6=>[.sli 3 R_V a7 a8 l1]) (fun a6=>[.blk g4 [.int .u8 0,.int .i64 0,.string ((⟨#[]⟩ : ByteArray))] 57]) ?_ ?_
 refine Qx (Q5 (Q5 (Q1 (wP Z (wP Z ?_)))))
 obtain ⟨b3,bD,hm⟩:=Q7 hm
 refine QT 0 y Z Z Z Zq Z Z Z Z Z bD Q29 QB (fun cC cD c5 bW=>(Q1h Q2l 1 Z (fun cE bE _=>?_)))
 subst bE
 refine Q1g 0 0 Z Z Z Zq Z Z Z (cs:=V3 ..) Z QB Q1b Z Z ?_
 obtain ⟨cF,bF,hm⟩:=Q7 hm
 refine wC [] [0] Z fn_72 Z (Q3s N b3.k b3.n b3.s _ bF) (asK [] Z) Z (H':=[_]) Z ?_
 rintro _ _ _ ⟨rfl,rfl,rfl⟩
 refine wP Z (Q4 (Q3 (Q2 [43,8,7,4,0,1] (S':=V6 ..) Z ?_)))
 refine Qm Z (fun aT=>?_) (fun aT=>?_)
 replace hm:=Qw hm aT
 refine Q2 [4] (S':=[_]) Z (Q5 (Q1 (Q1F Z Z Z Zq Z Q1Q Q69 Z (out:=V3 ..) Z (wS 0 0 Z QB (all':=V3 ..) Z (H':=[_]) Z (wP Z (Q4 (Q3 (Q2 [5,4] (S':=[_,_]) Z (Qk (Q8 (Qa (Q8 (Q8 ?_)))))))))))))
 refine Qa (Q8 ?_)
 have hE:=(Zi hm).symm
 replace hE:=Qn hLj_5 hE
 replace hE:=Qn hLu1 hE
 replace hE:=Qn hLj_4 hE
 obtain ⟨hE0,hF1⟩:=Prod.mk.inj hE
 obtain ⟨hE1,hE2⟩:=Prod.mk.inj hF1
 clear hE hF1
 replace hE0:=hE0.symm
 subst hE0
 replace hE1:=hE1.symm
 subst hE1
 replace hE2:=hE2.symm
 subst hE2
 refine QH (Hr:=[]) [] Tryz.results122 (Q1e 0 Z Z QB Q1b Z Z) (Qb Z) ⟨Z,Z,Z⟩ (asK [] Z) Z Z (.inl Z)
 replace hm:=Qv hm aT
 refine Q2 [8,7,4,0,1] (S':=V5 ..) Z (Qt (Q3 (Q1 (wP Z (wP Z ?_)))))
 refine Qr (d:=46) (S':=V6 ..) Z Z (fun aU=>?_) (fun aU=>?_)
 replace hm:=Qw hm aU
 refine wO Z (wO Z (wO Z (wO Z (wO Z (wO Z (wP Z (QS (S':=V13 ..) Z Z Z Z Z (Q4 (Qf ?_)))))))))
 have hE:=(Zi hm).symm
 refine Qd true hE [8,7,4,0,1] Z (asK [2] Z) Z
 replace hm:=Qv hm aU
 refine wP Z (wP Z ?_)
 obtain ⟨bX,bG,hm⟩:=Q7 hm
 refine QT 2 y Z Z Z Zq Z Z Z Z Z bG Q29 QB (fun cG cH c6 bY=>(Q1h Q2l 1 Z (fun cI bH _=>?_)))
 subst bH
 refine wF Z Q9T (Q1g 0 0 Z Z Z Zq Z Z Z (cs:=[_]) Z tS_55 tA_55 Z Z (wP Z (wP Z (QS (S':=V13 ..) Z Z Z Z Z (Q4 (Qf ?_))))))
 have hE:=(Zi hm).symm
 refine Qd (bX.k==2) hE [8,7,4,0,1] Z (asK [4] Z) Z
 rintro a6 hE
 try dsimp only
 have hm:=QA hLj_5 hE
 refine Q1 (wP Z (wP Z ?_))
 obtain ⟨bI,hm⟩:=Qz hm
 refine QD (d:=37) (v':=.int .i64 ((y+1:Nat):Int)) (S':=V6 ..) Z Z (Q1f (a:=y) (b:=1) bI) (QS (S':=V6 ..) Z Z Z Z Z (Q4 ?_))
 have hE:=(Zi hm).symm
 replace hE:=QA hLu1 hE
 refine QY (_,y+1,a6) (Nat.lt_succ_self _) hE [8,7,4,0,1] Z (asK [0] Z) Z
 replace hm:=Qv hm aS
 refine Q2 [7,4,0,1] (S':=V4 ..) Z (Q1k (Qo (Qo (QG ?_))))
 have hE:=(Zi hm).symm
 replace hE:=Qn hLu1 hE
 refine Qd aB hE [4,0,1,7] Z (asK [0] Z) Z
 rintro a2 hE
 try dsimp only
 have hm:=QA hLj_4 hE
 refine Q5 ?_
 obtain ⟨aA,bJ,hm⟩:=Q7 hm
 obtain ⟨bK,hm⟩:=Qz hm
 obtain ⟨bL,hm⟩:=Qz hm
 obtain ⟨a9,bM,hm⟩:=Q7 hm
 refine QF (σ:=Nat×Nat) (fun _=>True) (fun (h,z)=>[(10,.pointer (some ⟨h,0,none⟩)),(9,.pointer (some ⟨z,0,none⟩)),(4,.pointer (some ⟨g4,0,none⟩)),(0,.int .u8 a0),(7,.bool a2)]) (fun (h,z)=>[]) (fun (h,z)=>[.blk h [.int .u8 (a9.k),.int .i64 (a9.n),.string a9.s] 57,.blk z [.int .u8 (aA.k),.int .i64 (aA.n),.string aA.s] 57,.blk g4 [.int .u8 0,.int .i64 0,.string ((⟨#[]⟩ : ByteArray))] 57]) ?_ ?_
 refine QR [0,1,2,3,4,5,6,7,8] Z Z (fun hok=>(xP hok 0 Z (Q1B hok 1 0 0 Z Z Z Zq Z Z Z Z Z Z bJ Q29 QB (fun cJ cK c7 bZ=>(Q1X Q2l 1 Z (fun cL bN _=>?_))))))
 subst bN
 refine Q2J hok 2 0 0 Z Z Z Zq Z Z Z Z (cs:=V3 ..) Z QB Q1b Z Z (xP hok 3 Z (xP hok 4 Z (Q7p hok 5 Z Z Z Zq Z Z Z Q29 (xP hok 6 Z (Q17 (d:=60) (v':=.int .i64 (((l1.length:Nat):Int) - 1)) (S':=V10 ..) Z Z (i64_in bK) (Q1B hok 7 2 ((((l1.length:Nat):Int) - 1).toNat) Z Z Z Zq Z Z Z Z Z (Q1I bL) bM Q29 QB (fun cM cN c8 c0=>(Q1X Q2l 1 Z (fun cO bO _=>?_)))))))))
 subst bO
 refine Q2J hok 8 0 0 Z Z Z Zq Z Z Z Z (cs:=V3 ..) Z QB Q1b Z Z ?_
 refine Q8H hok 9 10 Z Z Z Z Z Z ?_ ?_
 refine Q13 Z Z Z Zq Z Q1Q Z (fun g9=>(Q4 (Q12 [0,1,2,3,4] [] Z Z (xS hok 10 Z (Q13 Z Z Z Zq Z Q1Q Z (fun b4=>(Q4 (Q12 [0,1,2,3,4] [] Z Z (xS hok 11 Z (wS 1 0 Z QB (all':=V3 ..) Z (H':=V3 ..) Z (Q4 (Q12 [0,1,2,3,4] [] Z Z (xS hok 12 Z (wS 0 0 Z QB (all':=V3 ..) Z (H':=V3 ..) Z (Q4 ?_)))))))))))))))
 refine Q12 [0,1,2,3,4] [] Z Z (QO hok Z ?_)
 refine Qd (b4,g9) trivial [10,9,4,0,7] Z (asK [] Z) Z
 refine Q13 Z Z Z Zq Z Q1Q Z (fun b4=>(Q4 (Q12 [0,1,2,3,4] [] Z Z (xS hok 9 Z (Q13 Z Z Z Zq Z Q1Q Z (fun g9=>(Q4 (Q12 [0,1,2,3,4] [] Z Z (xS hok 11 Z (wS 0 0 Z QB (all':=V3 ..) Z (H':=V3 ..) Z (Q4 (Q12 [0,1,2,3,4] [] Z Z (xS hok 12 Z (wS 1 0 Z QB (all':=V3 ..) Z (H':=V3 ..) Z (Q4 ?_)))))))))))))))
 refine Q12 [0,1,2,3,4] [] Z Z (QO hok Z (Qu [1,0,2] Z (H':=V3 ..) Z ?_))
 refine Qd (b4,g9) trivial [10,9,4,0,7] Z (asK [] Z) Z
 rintro ⟨h,z⟩ _
 try dsimp only
 refine Q5 (Q5 ?_)
 obtain ⟨bP,hm,hLj_7⟩:=Q7 hm
 refine QF (σ:=Bool) (fun a5=>bP=a5) (fun a5=>[(10,.pointer (some ⟨h,0,none⟩)),(9,.pointer (some ⟨z,0,none⟩)),(4,.pointer (some ⟨g4,0,none⟩)),(0,.int .u8 a0),(7,.bool a2),(68,.bool a5)]) (fun a5=>[]) (fun a5=>[.blk h [.int .u8 (a9.k),.int .i64 (a9.n),.string a9.s] 57,.blk z [.int .u8 (aA.k),.int .i64 (aA.n),.string aA.s] 57,.blk g4 [.int .u8 0,.int .i64 0,.string ((⟨#[]⟩ : ByteArray))] 57]) ?_ ?_
 refine Q1 (wP Z (wP Z (wP Z ?_)))
 refine Qr (d:=65) (S':=V7 ..) Z Z (fun aV=>?_) (fun aV=>?_)
 replace hm:=Qw hm aV
 refine wO Z (wO Z (wP Z (Q4 ?_)))
 have hE:=(Zi hm).symm
 refine Qd true hE [10,9,4,0,7,68] Z (asK [] Z) Z
 replace hm:=Qv hm aV
 refine wP Z (wP Z (wP Z (Q4 ?_)))
 have hE:=(Zi hm).symm
 refine Qd (a0==6) hE [10,9,4,0,7,68] Z (asK [] Z) Z
 rintro a5 hE
 try dsimp only
 have hm:=hLj_7
 try rw [hE] at hm
 refine Qm Z (fun aW=>?_) (fun aW=>?_)
 replace hm:=Qw hm aW
 refine Q2 [10,9,4,0] (S':=V4 ..) Z (Q5 (Q1 (QM 1 0 Z Z Z Zq Z Z Z (cs:=V3 ..) Z QB Q1b Z Z (QM 0 0 Z Z Z Zq Z Z Z (cs:=V3 ..) Z QB Q1b Z Z (Q65 Z Z Z Zq Z Z Z (eqlV _ _ aA a9) (wP Z (wP Z (Q65 Z Z Z Zq Z Z Z (eqlB _ _ (decide (aA=a9)) (a0==5)) ?_))))))))
 obtain ⟨cP,bQ,hm⟩:=Q7 hm
 refine wC [] [0,1,2] Z fn_157 Z (Q1K N ((decide (aA=a9))==(a0==5)) _ bQ) (asK [] Z) Z (H':=V3 ..) Z ?_
 rintro _ _ _ ⟨rfl,rfl,rfl⟩
 refine wS 2 0 Z QB (all':=V3 ..) Z (H':=V3 ..) Z (wP Z (Q4 (Q3 (Q2 [5,4] (S':=[_,_]) Z (Qk (Q8 ?_))))))
 have hE:=(Zi hm).symm
 obtain ⟨hE0,hF1⟩:=Prod.mk.inj hE
 obtain ⟨hE1,hE2⟩:=Prod.mk.inj hF1
 clear hE hF1
 replace hE0:=hE0.symm
 subst hE0
 replace hE1:=hE1.symm
 subst hE1
 replace hE2:=hE2.symm
 subst hE2
 refine QH (Hr:=[]) [] Tryz.results122 (Q1e 2 Z Z QB Q1b Z Z) (Qb Z) ⟨Z,Z,Z⟩ (asK [] Z) Z Z (.inl Z)
 replace hm:=Qv hm aW
 refine Q2 [10,9,4,0,7] (S':=V5 ..) Z (Qt (Q3 (Q5 (Q5 (Q1 (wP Z (Q4 (Q3 (Q2 [76,10,9,4,0] (S':=V5 ..) Z ?_)))))))))
 refine Qm Z (fun aX=>?_) (fun aX=>?_)
 replace hm:=Qw hm aX
 refine Q2 [4] (S':=[_]) Z (Q5 (Q1 (Q1F Z Z Z Zq Z Q1Q Q69 Z (out:=V3 ..) Z (wS 2 0 Z QB (all':=V3 ..) Z (H':=V3 ..) Z (wP Z (Q4 (Q3 (Q2 [5,4] (S':=[_,_]) Z (Qk (Q8 ?_))))))))))
 have hE:=(Zi hm).symm
 obtain ⟨hE0,hF1⟩:=Prod.mk.inj hE
 obtain ⟨hE1,hE2⟩:=Prod.mk.inj hF1
 clear hE hF1
 replace hE0:=hE0.symm
 subst hE0
 replace hE1:=hE1.symm
 subst hE1
 replace hE2:=hE2.symm
 subst hE2
 refine QH (Hr:=[]) [] Tryz.results122 (Q1e 2 Z Z QB Q1b Z Z) (Qb Z) ⟨Z,Z,Z⟩ (asK [] Z) Z Z (.inl Z)
 replace hm:=Qv hm aX
 refine Q2 [10,9,4,0] (S':=V4 ..) Z (Qt (Q3 (Q5 (Q5 (Q1 (wP Z (Q4 (Q3 (Qx (Q5 (Q1 (wP Z (wP Z ?_)))))))))))))
 refine Q4 (Q3 (Q2 [79,78,10,9,4,0] (S':=V6 ..) Z ?_))
 refine Qm Z (fun aY=>?_) (fun aY=>?_)
 replace hm:=Qw hm aY
 refine Q2 [10,9,4] (S':=V3 ..) Z (Q5 (Q1 (wF Z Q1Z (wD 1 1 Z Q6p Q6n Z (wF Z Q1Z (wD 0 1 Z Q6p Q6n Z (wP Z ?_)))))))
 obtain ⟨cQ,bR,hm⟩:=Q7 hm
 refine wC [] [0,1,2] Z fn_157 Z (Q1K N (decide (aA.n < a9.n)) _ bR) (asK [] Z) Z (H':=V3 ..) Z ?_
 rintro _ _ _ ⟨rfl,rfl,rfl⟩
 refine wS 2 0 Z QB (all':=V3 ..) Z (H':=V3 ..) Z (wP Z (Q4 (Q3 (Q2 [5,4] (S':=[_,_]) Z (Qk (Qa (Q8 ?_)))))))
 have hE:=(Zi hm).symm
 obtain ⟨hE0,hF1⟩:=Prod.mk.inj hE
 obtain ⟨hE1,hE2⟩:=Prod.mk.inj hF1
 clear hE hF1
 replace hE0:=hE0.symm
 subst hE0
 replace hE1:=hE1.symm
 subst hE1
 replace hE2:=hE2.symm
 subst hE2
 refine QH (Hr:=[]) [] Tryz.results122 (Q1e 2 Z Z QB Q1b Z Z) (Qb Z) ⟨Z,Z,Z⟩ (asK [] Z) Z Z (.inl Z)
 replace hm:=Qv hm aY
 refine Q2 [78,10,9,4,0] (S':=V5 ..) Z (Q5 (Q1 (wP Z (wP Z (Q4 (Q3 (Q2 [87,78,10,9,4,0] (S':=V6 ..) Z ?_)))))))
 refine Qm Z (fun aZ=>?_) (fun aZ=>?_)
 replace hm:=Qw hm aZ
 refine Q2 [10,9,4] (S':=V3 ..) Z (Q5 (Q1 (wF Z Q1Z (wD 1 1 Z Q6p Q6n Z (wF Z Q1Z (wD 0 1 Z Q6p Q6n Z (wP Z ?_)))))))
 obtain ⟨cR,bS,hm⟩:=Q7 hm
 refine wC [] [0,1,2] Z fn_157 Z (Q1K N (decide (aA.n≤a9.n)) _ bS) (asK [] Z) Z (H':=V3 ..) Z ?_
 rintro _ _ _ ⟨rfl,rfl,rfl⟩
 refine wS 2 0 Z QB (all':=V3 ..) Z (H':=V3 ..) Z (wP Z (Q4 (Q3 (Q2 [5,4] (S':=[_,_]) Z (Qk (Qa (Q8 ?_)))))))
 have hE:=(Zi hm).symm
 obtain ⟨hE0,hF1⟩:=Prod.mk.inj hE
 obtain ⟨hE1,hE2⟩:=Prod.mk.inj hF1
 clear hE hF1
 replace hE0:=hE0.symm
 subst hE0
 replace hE1:=hE1.symm
 subst hE1
 replace hE2:=hE2.symm
 subst hE2
 refine QH (Hr:=[]) [] Tryz.results122 (Q1e 2 Z Z QB Q1b Z Z) (Qb Z) ⟨Z,Z,Z⟩ (asK [] Z) Z Z (.inl Z)
 replace hm:=Qv hm aZ
 refine Q2 [78,10,9,4,0] (S':=V5 ..) Z (Q5 (Q1 (wP Z (wP Z (Q4 (Q3 (Q2 [95,78,10,9,4,0] (S':=V6 ..) Z ?_)))))))
 refine Qm Z (fun b0=>?_) (fun b0=>?_)
 replace hm:=Qw hm b0
 refine Q2 [10,9,4] (S':=V3 ..) Z (Q5 (Q1 (wF Z Q1Z (wD 1 1 Z Q6p Q6n Z (wP Z (wP Z ?_))))))
 refine Qr (d:=100) (S':=V6 ..) Z Z (fun aG=>?_) (fun aG=>?_)
 replace hm:=Qw hm aG
 refine wF Z Q1Z (wD 0 1 Z Q6p Q6n Z (wP Z (wP Z ?_)))
 obtain ⟨bT,aH,hm⟩:=Q7 hm
 refine wC [] [0,1,2] Z fn_157 Z (Q1K N (a9.n !=0) _ aH) (asK [] Z) Z (H':=V3 ..) Z ?_
 rintro _ _ _ ⟨rfl,rfl,rfl⟩
 refine wS 2 0 Z QB (all':=V3 ..) Z (H':=V3 ..) Z (wP Z (Q4 (Q3 (Q2 [5,4] (S':=[_,_]) Z (Qk (Qa (Q8 ?_)))))))
 have hE:=(Zi hm).symm
 obtain ⟨hE0,hF1⟩:=Prod.mk.inj hE
 obtain ⟨hE1,hE2⟩:=Prod.mk.inj hF1
 clear hE hF1
 replace hE0:=hE0.symm
 subst hE0
 replace hE1:=hE1.symm
 subst hE1
 replace hE2:=hE2.symm
 subst hE2
 refine QH (Hr:=[]) [] Tryz.results122 (Q1e 2 Z Z QB Q1b Z Z) (Qb Z) ⟨Z,Z,Z⟩ (asK [] Z) Z Z (.inl Z)
 replace hm:=Qv hm aG
 refine wO Z (wO Z (wO Z (wP Z ?_)))
 obtain ⟨bT,aH,hm⟩:=Q7 hm
 refine wC [] [0,1,2] Z fn_157 Z (Q1K N false _ aH) (asK [] Z) Z (H':=V3 ..) Z ?_
 rintro _ _ _ ⟨rfl,rfl,rfl⟩
 refine wS 2 0 Z QB (all':=V3 ..) Z (H':=V3 ..) Z (wP Z (Q4 (Q3 (Q2 [5,4] (S':=[_,_]) Z (Qk (Qa (Q8 ?_)))))))
 have hE:=(Zi hm).symm
 obtain ⟨hE0,hF1⟩:=Prod.mk.inj hE
 obtain ⟨hE1,hE2⟩:=Prod.mk.inj hF1
 clear hE hF1
 replace hE0:=hE0.symm
 subst hE0
 replace hE1:=hE1.symm
 subst hE1
 replace hE2:=hE2.symm
 subst hE2
 refine QH (Hr:=[]) [] Tryz.results122 (Q1e 2 Z Z QB Q1b Z Z) (Qb Z) ⟨Z,Z,Z⟩ (asK [] Z) Z Z (.inl Z)
 replace hm:=Qv hm b0
 refine Q2 [78,10,9,4,0] (S':=V5 ..) Z (Q5 (Q1 (wP Z (wP Z (Q4 (Q3 (Q2 [106,78,10,9,4,0] (S':=V6 ..) Z ?_)))))))
 refine Qm Z (fun aI=>?_) (fun aI=>?_)
 replace hm:=Qw hm aI
 refine Q2 [10,9,4] (S':=V3 ..) Z (Q5 (Q1 (wF Z Q1Z (wD 1 1 Z Q6p Q6n Z (wP Z (wP Z ?_))))))
 refine Qr (d:=111) (S':=V6 ..) Z Z (fun aJ=>?_) (fun aJ=>?_)
 replace hm:=Qw hm aJ
 refine wO Z (wO Z (wO Z (wP Z ?_)))
 obtain ⟨bU,aK,hm⟩:=Q7 hm
 refine wC [] [0,1,2] Z fn_157 Z (Q1K N true _ aK) (asK [] Z) Z (H':=V3 ..) Z ?_
 rintro _ _ _ ⟨rfl,rfl,rfl⟩
 refine wS 2 0 Z QB (all':=V3 ..) Z (H':=V3 ..) Z (wP Z (Q4 (Q3 (Q2 [5,4] (S':=[_,_]) Z (Qk (Qa (Q8 ?_)))))))
 have hE:=(Zi hm).symm
 obtain ⟨hE0,hF1⟩:=Prod.mk.inj hE
 obtain ⟨hE1,hE2⟩:=Prod.mk.inj hF1
 clear hE hF1
 replace hE0:=hE0.symm
 subst hE0
 replace hE1:=hE1.symm
 subst hE1
 replace hE2:=hE2.symm
 subst hE2
 refine QH (Hr:=[]) [] Tryz.results122 (Q1e 2 Z Z QB Q1b Z Z) (Qb Z) ⟨Z,Z,Z⟩ (asK [] Z) Z Z (.inl Z)
 replace hm:=Qv hm aJ
 refine wF Z Q1Z (wD 0 1 Z Q6p Q6n Z (wP Z (wP Z ?_)))
 obtain ⟨bU,aK,hm⟩:=Q7 hm
 refine wC [] [0,1,2] Z fn_157 Z (Q1K N (a9.n !=0) _ aK) (asK [] Z) Z (H':=V3 ..) Z ?_
 rintro _ _ _ ⟨rfl,rfl,rfl⟩
 refine wS 2 0 Z QB (all':=V3 ..) Z (H':=V3 ..) Z (wP Z (Q4 (Q3 (Q2 [5,4] (S':=[_,_]) Z (Qk (Qa (Q8 ?_)))))))
 have hE:=(Zi hm).symm
 obtain ⟨hE0,hF1⟩:=Prod.mk.inj hE
 obtain ⟨hE1,hE2⟩:=Prod.mk.inj hF1
 clear hE hF1
 replace hE0:=hE0.symm
 subst hE0
 replace hE1:=hE1.symm
 subst hE1
 replace hE2:=hE2.symm
 subst hE2
 refine QH (Hr:=[]) [] Tryz.results122 (Q1e 2 Z Z QB Q1b Z Z) (Qb Z) ⟨Z,Z,Z⟩ (asK [] Z) Z Z (.inl Z)
 replace hm:=Qv hm aI
 refine Q2 [78,10,9,4,0] (S':=V5 ..) Z (Q5 (Q1 (wP Z (wP Z (Q4 (Q3 (Q2 [117,10,9,4,0] (S':=V5 ..) Z ?_)))))))
 refine Qm Z (fun aL=>?_) (fun aL=>?_)
 replace hm:=Qw hm aL
 refine Q2 [9,4] (S':=[_,_]) Z (Q5 (Q1 (wF Z Q1Z (wD 1 1 Z Q6p Q6n Z (wP Z ?_)))))
 obtain ⟨c9,b5,hm⟩:=Q7 hm
 refine wC [] [0,1,2] Z fn_157 Z (Q1K N (aA.n==0) _ b5) (asK [] Z) Z (H':=V3 ..) Z ?_
 rintro _ _ _ ⟨rfl,rfl,rfl⟩
 refine wS 2 0 Z QB (all':=V3 ..) Z (H':=V3 ..) Z (wP Z (Q4 (Q3 (Q2 [5,4] (S':=[_,_]) Z (Qk (Qa (Q8 ?_)))))))
 have hE:=(Zi hm).symm
 obtain ⟨hE0,hF1⟩:=Prod.mk.inj hE
 obtain ⟨hE1,hE2⟩:=Prod.mk.inj hF1
 clear hE hF1
 replace hE0:=hE0.symm
 subst hE0
 replace hE1:=hE1.symm
 subst hE1
 replace hE2:=hE2.symm
 subst hE2
 refine QH (Hr:=[]) [] Tryz.results122 (Q1e 2 Z Z QB Q1b Z Z) (Qb Z) ⟨Z,Z,Z⟩ (asK [] Z) Z Z (.inl Z)
 replace hm:=Qv hm aL
 refine Q2 [10,9,4,0] (S':=V4 ..) Z (Qt (Qf (Q3 (Q5 (Q1 (wP Z (wF Z Q1Z (wD 1 1 Z Q6p Q6n Z (wF Z Q1Z (wD 0 1 Z Q6p Q6n Z ?_))))))))))
 obtain ⟨⟨b1,bV⟩,b6,hm⟩:=Q7 hm
 try dsimp only at hm
 refine wC [] [0,1,2] Z fn_158 Z (Q8D N a0 aA.n a9.n _ _ b6) (asK [] Z) Z (H':=V3 ..) Z ?_
 rintro _ _ _ ⟨rfl,rfl,rfl⟩
 refine wP Z (wP Z (wP Z (wP Z (wP Z (Q4 (Q3 (Q2 [12,11,4] (S':=V3 ..) Z (Q5 (Q5 (Q1 (wP Z (wP Z (Q4 ?_)))))))))))))
 refine Q3 (Q2 [133,11,4] (S':=V3 ..) Z ?_)
 refine Qm Z (fun aM=>?_) (fun aM=>?_)
 replace hm:=Qw hm aM
 refine Q2 [4] (S':=[_]) Z (Q5 (Q1 (Q1F Z Z Z Zq Z Q1Q Q69 Z (out:=V3 ..) Z (wS 2 0 Z QB (all':=V3 ..) Z (H':=V3 ..) Z (wP Z (Q4 (Q3 (Q2 [5,4] (S':=[_,_]) Z (Qk (Q8 ?_))))))))))
 have hE:=(Zi hm).symm
 obtain ⟨hE0,hF1⟩:=Prod.mk.inj hE
 obtain ⟨hE1,hE2⟩:=Prod.mk.inj hF1
 clear hE hF1
 replace hE0:=hE0.symm
 subst hE0
 replace hE1:=hE1.symm
 subst hE1
 replace hE2:=hE2.symm
 subst hE2
 refine QH (Hr:=[]) [] Tryz.results122 (Q1e 2 Z Z QB Q1b Z Z) (Qb Z) ⟨Z,Z,Z⟩ (asK [] Z) Z Z (.inl Z)
 replace hm:=Qv hm aM
 refine Q2 [11,4] (S':=[_,_]) Z (Qt (Q3 (Q5 (Q1 (wP Z ?_)))))
 obtain ⟨_,b7,hm⟩:=Q7 hm
 try dsimp only at hm
 refine wC [] [0,1,2] Z fn_159 Z (Q5q N b1 b7) (asK [] Z) Z (H':=V3 ..) Z ?_
 rintro _ _ _ ⟨rfl,rfl,rfl⟩
 refine wS 2 0 Z QB (all':=V3 ..) Z (H':=V3 ..) Z (wP Z (Q4 (Q3 (Q2 [5,4] (S':=[_,_]) Z (Qk ?_)))))
 have hE:=(Zi hm).symm
 obtain ⟨hE0,hF1⟩:=Prod.mk.inj hE
 obtain ⟨hE1,hE2⟩:=Prod.mk.inj hF1
 clear hE hF1
 replace hE0:=hE0.symm
 subst hE0
 replace hE1:=hE1.symm
 subst hE1
 replace hE2:=hE2.symm
 subst hE2
 refine QH (Hr:=[]) [] Tryz.results122 (Q1e 2 Z Z QB Q1b Z Z) (Qb Z) ⟨Z,Z,Z⟩ (asK [] Z) Z Z (.inl Z)
theorem Q9g (N:Nat)(rc:Int→Int→Int→ByteArray→Int→Int→(List Qe)→(List V)→Option (Int×Int×ByteArray×Nat))(ih : ∀ (a0:Int)(a1:Int)(a2:Int)(a3:ByteArray)(a4:Int)(a5:Int)(aK:OA)(aL:Nat)(l6:List Qe)(aM:OA)(aN:Nat)(l7:List V)(o0:Int)(o1:Int)(o2:ByteArray)(o3:Nat),rc a0 a1 a2 a3 a4 a5 l6 l7=some (o0,o1,o2,o3)→Q1d Tryz.prog 91 [.agg #[.int .u8 a0,.int .u8 a1,.int .i64 a2,.string a3,.int .i64 a4,.int .u8 a5,.slice aK l6.length aL],.slice aM l7.length aN] [.sli 7 Qs aK aL l6,.sli 3 R_V aM aN l7] [] (fun v Φr Hr=>v=.tuple #[.agg #[.int .u8 o0,.int .i64 o1,.string o2],.int .i64 ((o3:Nat):Int)]∧Φr=[]∧Hr=[]))(a0:Int)(a1:Int)(a2:Int)(a3:ByteArray)(a4:Int)(a5:Int)(aK:OA)(aL:Nat)(l6:List Qe)(aM:OA)(aN:Nat)(l7:List V)(o0:Int)(o1:Int)(o2:ByteArray)(o3:Nat)(hm:Q3x N rc a0 a1 a2 a3 a4 a5 l6 l7=some (o0,o1,o2,o3)):Q1d Tryz.prog 91 [.agg #[.int .u8 a0,.int .u8 a1,.int .i64 a2,.string a3,.int .i64 a4,.int .u8 a5,.slice aK l6.length aL],.slice aM l7.length aN] [.sli 7 Qs aK aL l6,.sli 3 R_V aM aN l7] [] (fun v Φr Hr=>v=.tuple #[.agg #[.int .u8 o0,.int .i64 o1,.string o2],.int .i64 ((o3:Nat):Int)]∧Φr=[]∧Hr=[]):=by
 unfold Q3x at hm
 refine QI Tryz.func91 Z Tryz.ntmps91 Z (S:=[_,_]) Z (fun C=>(Q5 (Q1 (wB Z (fun g2=>(Q13 Z Z Z Zq Z Q1Q Z (fun g4=>(wP Z (Q4 (Q3 (Q2 [4,2,1] (S':=V3 ..) Z (Q5 (Q1 (Q1F Z Z Z Zq Z Q1Q Q69 Z (out:=V3 ..) Z (Q13 Z Z Z Zq Z Q1Q Z (fun g6=>(wS 0 0 Z QB (all':=V3 ..) Z (H':=V3 ..) Z ?_)))))))))))))))))
 refine Q4 (Q3 (Q2 [6,4,2,1] (S':=V4 ..) Z (Q5 ?_)))
 obtain ⟨bJ,hm,hLj_1⟩:=QN hm
 unfold Q5C at hm
 refine QF (σ:=Int×Int×ByteArray) (fun (z,a6,a7)=>bJ=.inl (z,a6,a7)) (fun (z,a6,a7)=>[(6,.pointer (some ⟨g6,0,none⟩)),(4,.pointer (some ⟨g4,0,none⟩))]) (fun (z,a6,a7)=>[]) (fun (z,a6,a7)=>[.blk g6 [.int .u8 z,.int .i64 a6,.string a7] 57,.blk g4 [.int .u8 0,.int .i64 0,.string ((⟨#[]⟩ : ByteArray))] 57]) ?_ ?_
 refine Q5 (Q1 (wF Z tF_65_0 (wD 2 0 Z tS_61 tA_61 Z (Q4 (Q3 (Q2 [13,6,4,2,1] (S':=V5 ..) Z (Qx (Q5 (Q1 (wP Z (wP Z (Q4 (Q3 ?_)))))))))))))
 refine Q2 [14,13,6,4,2,1] (S':=V6 ..) Z ?_
 refine Qm Z (fun aT=>?_) (fun aT=>?_)
 replace hm:=Qw hm aT
 refine Q2 [6,4,2] (S':=V3 ..) Z (Q1 (wF Z Q92 (QM 2 1 Z Z Z Zq Z Z Z (cs:=V3 ..) Z QB Q1b Z Z (wS 0 0 Z QB (all':=V3 ..) Z (H':=V3 ..) Z (Q4 (Qf ?_))))))
 have hE:=(Zi hm).symm
 refine Qu [0,1] Z (H':=[_,_]) Z ?_
 refine Qd (a1,a2,a3) hE [6,4] Z (asK [] Z) Z
 replace hm:=Qv hm aT
 refine Q2 [13,6,4,2,1] (S':=V5 ..) Z (Q5 (Q1 (wP Z (wP Z (Q4 (Q3 (Q2 [18,13,6,4,2,1] (S':=V6 ..) Z ?_)))))))
 refine Qm Z (fun aU=>?_) (fun aU=>?_)
 replace hm:=Qw hm aU
 refine Q2 [6,4,2,1] (S':=V4 ..) Z (Q5 ?_)
 obtain ⟨bK,hm,hLj_2⟩:=Q7 hm
 refine QF (σ:=Bool) (fun aG=>bK=aG) (fun aG=>[(6,.pointer (some ⟨g6,0,none⟩)),(4,.pointer (some ⟨g4,0,none⟩)),(2,.pointer (some ⟨g2,0,none⟩)),(1,.slice aM l7.length aN),(29,.bool aG)]) (fun aG=>[.sli 7 Qs aK aL l6,.sli 3 R_V aM aN l7]) (fun aG=>[.blk g6 [.int .u8 0,.int .i64 0,.string ((⟨#[]⟩ : ByteArray))] 57,.blk g4 [.int .u8 0,.int .i64 0,.string ((⟨#[]⟩ : ByteArray))] 57,.blk g2 [.int .u8 a0,.int .u8 a1,.int .i64 a2,.string a3,.int .i64 a4,.int .u8 a5,.slice aK l6.length aL] 65]) ?_ ?_
 refine Q1 (wF Z Q5t (wD 2 4 Z QZ Q15 Z (wP Z (wP Z ?_))))
 refine Qr (d:=23) (S':=V7 ..) Z Z (fun aV=>?_) (fun aV=>?_)
 replace hm:=Qw hm aV
 refine wF Z Q5t (wD 2 4 Z QZ Q15 Z (wP Z (wN Z Q29 (wP Z (wP Z (Q4 ?_))))))
 have hE:=(Zi hm).symm
 refine Qd (decide (a4 < ((l7.length:Nat):Int))) hE [6,4,2,1,29] Z (asK [0,1] Z) Z
 replace hm:=Qv hm aV
 refine wO Z (wO Z (wO Z (wO Z (wO Z (wP Z (Q4 ?_))))))
 have hE:=(Zi hm).symm
 refine Qd false hE [6,4,2,1,29] Z (asK [0,1] Z) Z
 rintro aG hE
 try dsimp only
 have hm:=hLj_2
 try rw [hE] at hm
 refine Qm Z (fun aW=>?_) (fun aW=>?_)
 replace hm:=Qw hm aW
 refine Q2 [6,4,2,1] (S':=V4 ..) Z (Q1 (wP Z (wF Z Q5t (wD 2 4 Z QZ Q15 Z ?_))))
 obtain ⟨bL,hm⟩:=Qz hm
 obtain ⟨bB,bM,hm⟩:=Q7 hm
 refine QT 1 a4.toNat Z Z Z Zq Z Z Z Z (Q1I bL) bM Q29 QB (fun c4 c5 c2 bX=>(Q1h Q2l 1 Z (fun c6 bN _=>?_)))
 subst bN
 refine Q1g 0 0 Z Z Z Zq Z Z Z (cs:=V3 ..) Z QB Q1b Z Z (wS 0 0 Z QB (all':=V3 ..) Z (H':=V3 ..) Z (Q4 (Qf ?_)))
 have hE:=(Zi hm).symm
 refine Qu [0,1] Z (H':=[_,_]) Z ?_
 refine Qd (bB.k,bB.n,bB.s) hE [6,4] Z (asK [] Z) Z
 replace hm:=Qv hm aW
 refine Q2 [6,4] (S':=[_,_]) Z (Qt (Qf ?_))
 have hE:=(Zi hm).symm
 refine Qu [0,1] Z (H':=[_,_]) Z ?_
 refine Qd (0,0,(⟨#[]⟩ : ByteArray)) hE [6,4] Z (asK [] Z) Z
 replace hm:=Qv hm aU
 refine Q2 [13,6,4,2,1] (S':=V5 ..) Z (Q5 (Q1 (wP Z (wP Z (Q4 (Q3 (Q2 [35,6,4,2,1] (S':=V5 ..) Z ?_)))))))
 refine Qm Z (fun aX=>?_) (fun aX=>?_)
 replace hm:=Qw hm aX
 refine Q2 [4,2,1] (S':=V3 ..) Z (Q5 (Q1 (wP Z (Q4 (Q3 (Q5 ?_))))))
 obtain ⟨b9,hm,hLj_3⟩:=QN hm
 refine QF (σ:=(List V)×OA×Nat×Nat) (fun (a8,a9,aA,aE)=>b9=.inl a8) (fun (a8,a9,aA,aE)=>[(4,.pointer (some ⟨g4,0,none⟩)),(2,.pointer (some ⟨g2,0,none⟩)),(7,.slice a9 aE aA)]) (fun (a8,a9,aA,aE)=>[.sli 7 Qs aK aL l6]) (fun (a8,a9,aA,aE)=>[.blk g4 [.int .u8 0,.int .i64 0,.string ((⟨#[]⟩ : ByteArray))] 57,.blk g2 [.int .u8 a0,.int .u8 a1,.int .i64 a2,.string a3,.int .i64 a4,.int .u8 a5,.slice aK l6.length aL] 65,.own 57 3 R_V (.slice a9 aE aA) a8]) ?_ ?_
 refine Q5 (Q1 (wP Z (Q4 (Q3 (Qx (Q74 57 3 R_V (wc_pick [0,2,3] Z (H':=V3 ..) Z (Q1o (σ:=Nat×Nat×(List V)×OA×Nat×Nat) (fun (aP,aF,y,aB,aC,aD)=>Q19 (Q2H N l6 rc l7) aP (aF,y)=some b9) (fun (aP,aF,y,aB,aC,aD)=>aP) (fun (aP,aF,y,aB,aC,aD)=>[(8,.int .i64 ((aF:Nat):Int)),(7,.slice aB aD aC),(4,.pointer (some ⟨g4,0,none⟩)),(2,.pointer (some ⟨g2,0,none⟩)),(1,.slice aM l7.length aN)]) (fun (aP,aF,y,aB,aC,aD)=>[.sli 7 Qs aK aL l6,.sli 3 R_V aM aN l7]) (fun (aP,aF,y,aB,aC,aD)=>[.own 57 3 R_V (.slice aB aD aC) y,.blk g4 [.int .u8 0,.int .i64 0,.string ((⟨#[]⟩ : ByteArray))] 57,.blk g2 [.int .u8 a0,.int .u8 a1,.int .i64 a2,.string a3,.int .i64 a4,.int .u8 a5,.slice aK l6.length aL] 65]) (N,0,[],none,0,0) hm [8,7,4,2,1] Z (asK [0,1] Z) Z (fun s_ hm=>?_)))))))))
 obtain ⟨aP,aF,y,aB,aC,aD⟩:=s_
 try dsimp only at hm ⊢
 obtain ⟨c7,c8,bO,hq,hLu1⟩:=Q10 hm
 clear hm
 subst bO
 replace hm:=hq
 clear hq
 unfold Q2H at hm
 try dsimp only at hm
 refine Q5 (Q5 (Q1 (wP Z (wF Z Q5S (wD 2 6 Z Q51 Q50 Z (wN Z Q4r (wP Z (QD (d:=41) (v':=.bool (decide (aF < l6.length))) (S':=V9 ..) Z Z (Q2E (a:=aF) (b:=l6.length)) (Q4 (Q3 (Q2 [41,8,7,4,2,1] (S':=V6 ..) Z ?_)))))))))))
 refine Qm Z (fun aY=>?_) (fun aY=>?_)
 replace hm:=Qw hm aY
 refine Q2 [8,7,4,2,1] (S':=V5 ..) Z (Qt (Q3 (Q5 (Qx (Q5 (Q1 (wF Z Q5S (wD 2 6 Z Q51 Q50 Z (wP Z ?_)))))))))
 obtain ⟨aQ,bP,hm⟩:=Q7 hm
 refine QT 0 aF Z Z Z Zq Z Z Z Z Z bP Q4r Q52 (fun c9 cA c3 bY=>(Q1h Q30 1 Z (fun bQ bR _=>?_)))
 subst bR
 refine Q1g 1 0 Z Z Z Zq Z Z Z (cs:=V7 ..) Z Q52 Q6E Z Z (wP Z ?_)
 obtain ⟨⟨aH,aI,aJ,aZ⟩,bS,hm⟩:=Q7 hm
 try dsimp only at hm
 refine wC [] [0,1,2] Z fn_91 Z (ih aQ.kind aQ.value.k aQ.value.n aQ.value.s aQ.var aQ.op bQ.1 bQ.2 aQ.kids aM aN l7 _ _ _ _ bS) (asK [0,4] Z) Z (H':=V3 ..) Z ?_
 rintro _ _ _ ⟨rfl,rfl,rfl⟩
 refine wP Z (wP Z (wP Z (Q13 Z Z Z Zq Z Q1Q Z (fun g9=>(wS 0 0 Z QB (all':=V3 ..) Z (H':=V4 ..) Z (wP Z (Q4 (Q3 (Q2 [10,9,8,7,4,2,1] (S':=V7 ..) Z (Q5 (Q5 (Q1 (wP Z (wP Z ?_))))))))))))))
 refine QD (d:=55) (v':=.bool (aZ !=0)) (S':=V8 ..) Z Z (natne (a:=aZ) (b:=0)) (Q4 (Q3 (Q2 [55,10,9,8,7,4,2,1] (S':=V8 ..) Z ?_)))
 refine Qm Z (fun b0=>?_) (fun b0=>?_)
 replace hm:=Qw hm b0
 refine Q2 [10,4] (S':=[_,_]) Z (Q5 (Q1 (Q1F Z Z Z Zq Z Q1Q Q69 Z (out:=V3 ..) Z (wP Z (wS 2 0 Z QB (all':=V3 ..) Z (H':=V4 ..) Z (wP Z (Q4 (Q3 (Q2 [5,4] (S':=[_,_]) Z (Qk (Q8 (Qa (Q8 ?_)))))))))))))
 refine Q8 (Qa (Q8 (Qa (Q8 ?_))))
 have hE:=(Zi hm).symm
 replace hE:=Qn hLu1 hE
 replace hE:=Qn hLj_3 hE
 replace hE:=Qn hLj_1 hE
 obtain ⟨hE0,hF1⟩:=Prod.mk.inj hE
 obtain ⟨hE1,hF2⟩:=Prod.mk.inj hF1
 obtain ⟨hE2,hE3⟩:=Prod.mk.inj hF2
 clear hE hF1 hF2
 replace hE0:=hE0.symm
 subst hE0
 replace hE1:=hE1.symm
 subst hE1
 replace hE2:=hE2.symm
 subst hE2
 replace hE3:=hE3.symm
 subst hE3
 refine QH (Hr:=[]) [] Tryz.results91 (Q1e 2 Z Z QB Q1b Z Z) (Qb Z) ⟨Z,Z,Z⟩ (asK [] Z) Z Z (.inl Z)
 replace hm:=Qv hm b0
 refine Q2 [9,8,7,4,2,1] (S':=V6 ..) Z (Qt (Q3 (Q1 (wP Z (QM 0 0 Z Z Z Zq Z Z Z (cs:=V3 ..) Z QB Q1b Z Z (Q1y Z Z Z Zq Z Q29 QB Q1Q Z (zs:=[.int .u8 0,.int .i64 0,.string ((⟨#[]⟩ : ByteArray))]) (by kernel_rfl) Z (out:=V3 ..) Z (fun cB=>?_)))))))
 obtain ⟨bA,hm⟩:=Qz hm
 refine Q6S ([(⟨aH,aI,aJ⟩ : V)]) 2 0 Z Z Z Zq Z Z Z Z Z (fun F w hφ=>⟨[.int .u8 aH,.int .i64 aI,.string aJ],[],Z,Z,⟨(),Z,Q1n⟩,Z⟩) Q29 tR_57 Z Z (Nat.le_trans bA (by decide)) (Nat.le_trans (Nat.mul_le_mul_right _ bA) (by decide)) (H2:=fun bC bD=>[_,_,.own 57 3 R_V (.slice bC ((y++([(⟨aH,aI,aJ⟩ : V)])).length) bD) (y++([(⟨aH,aI,aJ⟩ : V)])),_,_]) (fun _ _=>Z) (fun bC bD=>(Qa6 0 Z (H':=V4 ..) Z (QS (S':=V9 ..) Z Z Z Z Z (Q4 (Qf (Q3 (Q2 [7,8,4,2,1] (S':=V5 ..) Z (Q1 (wP Z (wP Z ?_))))))))))
 obtain ⟨bT,hm⟩:=Qz hm
 refine QD (d:=43) (v':=.int .i64 ((aF+1:Nat):Int)) (S':=V6 ..) Z Z (Q1f (a:=aF) (b:=1) bT) (QS (S':=V6 ..) Z Z Z Z Z (Q4 ?_))
 have hE:=(Zi hm).symm
 replace hE:=QA hLu1 hE
 refine Qu [1,2,3] Z (H':=V3 ..) Z ?_
 refine QY (_,aF+1,(y++([(⟨aH,aI,aJ⟩ : V)])),bC,bD,((y++([(⟨aH,aI,aJ⟩ : V)])).length)) (Nat.lt_succ_self _) hE [8,7,4,2,1] Z (asK [3,4] Z) Z
 replace hm:=Qv hm aY
 refine Q2 [7,4,2] (S':=V3 ..) Z (Q1k (Qo (Qo (QG ?_))))
 have hE:=(Zi hm).symm
 replace hE:=Qn hLu1 hE
 refine Qu [1,2,0] Z (H':=V3 ..) Z ?_
 refine Qd (y,aB,aC,aD) hE [4,2,7] Z (asK [0] Z) Z
 rintro ⟨a8,a9,aA,aE⟩ hE
 try dsimp only
 have hm:=QA hLj_3 hE
 refine Q5 (Q1 (wF Z Q5g (wD 1 5 Z Q7R Q7P Z (wP Z (Q3H 2 Z (fun aR _=>?_))))))
 subst aR
 obtain ⟨⟨bZ,c0,c1⟩,bU,hm⟩:=Q7 hm
 try dsimp only at hm
 refine Qa7 [] [0,1,2] [2] Z Z Z Zq Z Z fn_122 Z (QaA N a5 a9 aA a8 _ _ _ bU) (fun F w hφ hh=>(Q1j (Q5R (hh _ (Q1W (k:=0) Z))) Q1n)) (fun _ _ _ hR=>by obtain ⟨rfl,rfl,rfl⟩:=hR;exact ⟨Z,(fun _ h=>Q8m h)⟩) Z Z (H':=V3 ..) Z ?_
 rintro _ _ _ ⟨rfl,rfl,rfl⟩
 refine wP Z (wP Z (wS 0 0 Z QB (all':=V3 ..) Z (H':=V3 ..) Z (wP Z (Q4 (Q3 (Q2 [5,4] (S':=[_,_]) Z (Qk (Qa (Q8 ?_)))))))))
 have hE:=(Zi hm).symm
 replace hE:=Qn hLj_1 hE
 obtain ⟨hE0,hF1⟩:=Prod.mk.inj hE
 obtain ⟨hE1,hF2⟩:=Prod.mk.inj hF1
 obtain ⟨hE2,hE3⟩:=Prod.mk.inj hF2
 clear hE hF1 hF2
 replace hE0:=hE0.symm
 subst hE0
 replace hE1:=hE1.symm
 subst hE1
 replace hE2:=hE2.symm
 subst hE2
 replace hE3:=hE3.symm
 subst hE3
 refine QH (Hr:=[]) [] Tryz.results91 (Q1e 0 Z Z QB Q1b Z Z) (Qb Z) ⟨Z,Z,Z⟩ (asK [] Z) Z Z (.inl Z)
 replace hm:=Qv hm aX
 refine Q2 [6,4] (S':=[_,_]) Z (Qt (Qf ?_))
 have hE:=(Zi hm).symm
 refine Qu [0,1] Z (H':=[_,_]) Z ?_
 refine Qd (0,0,(⟨#[]⟩ : ByteArray)) hE [6,4] Z (asK [] Z) Z
 rintro ⟨z,a6,a7⟩ hE
 try dsimp only
 have hm:=QA hLj_1 hE
 try dsimp only at hm
 refine Q5 (Q5 (Q1 (QM 0 0 Z Z Z Zq Z Z Z (cs:=V3 ..) Z QB Q1b Z Z ?_)))
 obtain ⟨cC,bV,hm⟩:=Q7 hm
 refine wC [] [0,1] Z fn_72 Z (Q3s N z a6 a7 _ bV) (asK [] Z) Z (H':=[_,_]) Z ?_
 rintro _ _ _ ⟨rfl,rfl,rfl⟩
 refine wP Z (Q4 (Q3 (Q2 [70,6,4] (S':=V3 ..) Z ?_)))
 refine Qm Z (fun b1=>?_) (fun b1=>?_)
 replace hm:=Qw hm b1
 refine Q2 [4] (S':=[_]) Z (Q5 (Q1 (Q1F Z Z Z Zq Z Q1Q Q69 Z (out:=V3 ..) Z (wS 1 0 Z QB (all':=V3 ..) Z (H':=[_,_]) Z (wP Z (Q4 (Q3 (Q2 [5,4] (S':=[_,_]) Z (Qk (Q8 ?_))))))))))
 have hE:=(Zi hm).symm
 obtain ⟨hE0,hF1⟩:=Prod.mk.inj hE
 obtain ⟨hE1,hF2⟩:=Prod.mk.inj hF1
 obtain ⟨hE2,hE3⟩:=Prod.mk.inj hF2
 clear hE hF1 hF2
 replace hE0:=hE0.symm
 subst hE0
 replace hE1:=hE1.symm
 subst hE1
 replace hE2:=hE2.symm
 subst hE2
 replace hE3:=hE3.symm
 subst hE3
 refine QH (Hr:=[]) [] Tryz.results91 (Q1e 1 Z Z QB Q1b Z Z) (Qb Z) ⟨Z,Z,Z⟩ (asK [] Z) Z Z (.inl Z)
 replace hm:=Qv hm b1
 refine Q2 [6,4] (S':=[_,_]) Z (Qt (Q3 (Q5 (Q1 (QM 0 0 Z Z Z Zq Z Z Z (cs:=V3 ..) Z QB Q1b Z Z (wS 1 0 Z QB (all':=V3 ..) Z (H':=[_,_]) Z (wP Z (Q4 (Q3 (Q2 [5,4] (S':=[_,_]) Z (Qk ?_)))))))))))
 have hE:=(Zi hm).symm
 obtain ⟨hE0,hF1⟩:=Prod.mk.inj hE
 obtain ⟨hE1,hF2⟩:=Prod.mk.inj hF1
 obtain ⟨hE2,hE3⟩:=Prod.mk.inj hF2
 clear hE hF1 hF2
 replace hE0:=hE0.symm
 subst hE0
 replace hE1:=hE1.symm
 subst hE1
 replace hE2:=hE2.symm
 subst hE2
 replace hE3:=hE3.symm
 subst hE3
 refine QH (Hr:=[]) [] Tryz.results91 (Q1e 1 Z Z QB Q1b Z Z) (Qb Z) ⟨Z,Z,Z⟩ (asK [] Z) Z Z (.inl Z)
theorem Qa0 : ∀ (N:Nat),∀ (a0:Int)(a1:Int)(a2:Int)(a3:ByteArray)(a4:Int)(a5:Int)(qp0:OA)(qc1:Nat)(l6:List Qe)(qp2:OA)(qc3:Nat)(l7:List V)(o0:Int)(o1:Int)(o2:ByteArray)(o3:Nat),Q2d N a0 a1 a2 a3 a4 a5 l6 l7=some (o0,o1,o2,o3)→Q1d Tryz.prog 91 [.agg #[.int .u8 a0,.int .u8 a1,.int .i64 a2,.string a3,.int .i64 a4,.int .u8 a5,.slice qp0 l6.length qc1],.slice qp2 l7.length qc3] [.sli 7 Qs qp0 qc1 l6,.sli 3 R_V qp2 qc3 l7] [] (fun v Φr Hr=>v=.tuple #[.agg #[.int .u8 o0,.int .i64 o1,.string o2],.int .i64 ((o3:Nat):Int)]∧Φr=[]∧Hr=[]):=by
 intro N
 induction N with
 | zero=>intro a0 a1 a2 a3 a4 a5 qp0 qc1 l6 qp2 qc3 l7 o0 o1 o2 o3 hm;cases hm
 | succ N ih=>intro a0 a1 a2 a3 a4 a5 qp0 qc1 l6 qp2 qc3 l7 o0 o1 o2 o3 hm;exact Q9g N (Q2d N) ih a0 a1 a2 a3 a4 a5 qp0 qc1 l6 qp2 qc3 l7 o0 o1 o2 o3 hm
theorem Q9y (N:Nat)(a0:Int)(a1:Int)(aM:OA)(aN:Nat)(l2:List Q3S)(a3:Int)(a4:Int)(a5:Int)(a6:ByteArray)(a7:Int)(a8:Int)(aO:OA)(aP:Nat)(l9:List Qe)(b0:Int)(b1:Int)(aQ:OA)(aR:Nat)(aI:List V)(bD:OA)(bE:Nat)(aK:List V)(o2:List V)(o4:Bool)(hm:Q3Q N a0 a1 l2 a3 a4 a5 a6 a7 a8 l9 b0 b1 aI aK=some (o2,o4)):Q1d Tryz.prog 92 [.agg #[.int .u8 a0,.int .i64 a1,.slice aM l2.length aN,.int .u8 a3,.int .u8 a4,.int .i64 a5,.string a6,.int .i64 a7,.int .u8 a8,.slice aO l9.length aP],.agg #[.int .i64 b0,.int .i64 b1,.slice aQ aI.length aR],.slice bD aK.length bE] [.sli 5 Q2w aM aN l2,.sli 7 Qs aO aP l9,.sli 3 R_V aQ aR aI,.sli 3 R_V bD bE aK] [] (fun v Φr Hr=>∃ (o0:OA)(o1:Nat)(o3:Nat),v=.tuple #[.slice o0 o3 o1,.bool o4]∧Φr=[]∧Hr=[.own 57 3 R_V (.slice o0 o3 o1) o2]):=by
 unfold Q3Q at hm
 refine QI Tryz.func92 Z Tryz.ntmps92 Z (S:=V3 ..) Z (fun C=>(Q5 (Q1 (wB Z (fun g3=>(wB Z (fun g4=>(wP Z (wP Z (Q4 (Q3 (Q2 [4,3,2] (S':=V3 ..) Z (Q5 (Q5 (Q1 (wF Z Q5h ?_))))))))))))))))
 refine wD 0 1 Z QZ Q15 Z (wF Z tF_67_1 (wD 1 1 Z QZ Q15 Z (wP Z (Q4 (Q3 (Q2 [15,4,3,2] (S':=V4 ..) Z ?_))))))
 refine Qm Z (fun aS=>?_) (fun aS=>?_)
 replace hm:=Qw hm aS
 refine Q2 [] (S':=[]) Z (Q5 (Q1 (wP Z (wP Z (Q4 (Q3 (Qk (Q8 ?_))))))))
 have hE:=(Zi hm).symm
 obtain ⟨hE0,hE1⟩:=Prod.mk.inj hE
 clear hE
 replace hE0:=hE0.symm
 subst hE0
 replace hE1:=hE1.symm
 subst hE1
 refine Q2T 57 3 R_V ?_
 refine QH (Hr:=[_]) [0] Tryz.results92 (Qb Z) (Qb Z) ⟨none,0,0,Z,Z,Z⟩ (asK [] Z) Z Z (.inl Z)
 replace hm:=Qv hm aS
 refine Q2 [4,3,2] (S':=V3 ..) Z (Qt (Q3 (Q5 (Q1 (Q1y Z Z Z Zq Z Q29 QB Q1Q Z (zs:=[]) (by kernel_rfl) Z (out:=[]) Z (fun cI=>(wP Z (wl_row (sz:=3) (m:=0) R_V [] 0 Z (fun F w hφ=>Z) Z (by decide) (H':=V3 ..) Z ?_))))))))
 obtain ⟨b3,hm⟩:=Qz hm
 refine Q7F 0 3 Z Z Z Zq Z Z Z Z Z Q29 tR_57 Z Z (Nat.le_trans b3 (by decide)) (Nat.le_trans (Nat.mul_le_mul_right _ b3) (by decide)) (H2:=fun b8 b9=>[.own 57 3 R_V (.slice b8 (aK).length b9) aK,_,_]) (fun _ _=>Z) (fun b8 b9=>(wP Z (Q4 (Q3 (Q2 [8,4,3] (S':=V3 ..) Z (Q5 ?_))))))
 obtain ⟨b4,hm,hLj_1⟩:=QN hm
 refine QF (σ:=(List V)×OA×Nat×Nat) (fun (aH,aA,aB,aC)=>b4=.inl aH) (fun (aH,aA,aB,aC)=>[(8,.slice aA aC aB)]) (fun (aH,aA,aB,aC)=>[]) (fun (aH,aA,aB,aC)=>[.own 57 3 R_V (.slice aA aC aB) aH]) ?_ ?_
 refine Q5 (Q1 (wP Z (Q4 (Q3 (Qx (Q1o (σ:=Nat×Nat×(List V)×OA×Nat×Nat) (fun (aL,a9,h,a2,y,z)=>Q19 (Q1V N l2 aI) aL (a9,h)=some b4) (fun (aL,a9,h,a2,y,z)=>aL) (fun (aL,a9,h,a2,y,z)=>[(9,.int .i64 ((a9:Nat):Int)),(8,.slice a2 z y),(4,.pointer (some ⟨g4,0,none⟩)),(3,.pointer (some ⟨g3,0,none⟩))]) (fun (aL,a9,h,a2,y,z)=>[.sli 3 R_V aQ aR aI,.sli 5 Q2w aM aN l2,.sli 7 Qs aO aP l9]) (fun (aL,a9,h,a2,y,z)=>[.own 57 3 R_V (.slice a2 z y) h,.blk g4 [.int .i64 b0,.int .i64 b1,.slice aQ aI.length aR] 71,.blk g3 [.int .u8 a0,.int .i64 a1,.slice aM l2.length aN,.int .u8 a3,.int .u8 a4,.int .i64 a5,.string a6,.int .i64 a7,.int .u8 a8,.slice aO l9.length aP] 67]) (N,0,aK,b8,b9,(aK).length) hm [9,8,4,3] Z (asK [2,0,1] Z) Z (fun s_ hm=>?_)))))))
 obtain ⟨aL,a9,h,a2,y,z⟩:=s_
 try dsimp only at hm ⊢
 obtain ⟨cJ,cK,bF,hq,hLu1⟩:=Q10 hm
 clear hm
 subst bF
 replace hm:=hq
 clear hq
 unfold Q1V at hm
 try dsimp only at hm
 refine Q5 (Q5 (Q1 (wP Z (wF Z Q6J (wD 2 2 Z tS_60 tA_60 Z (wN Z Q8Y (wP Z (QD (d:=23) (v':=.bool (decide (a9 < l2.length))) (S':=V8 ..) Z Z (Q2E (a:=a9) (b:=l2.length)) (Q4 (Q3 (Q2 [23,9,8,4,3] (S':=V5 ..) Z ?_)))))))))))
 refine Qm Z (fun aT=>?_) (fun aT=>?_)
 replace hm:=Qw hm aT
 refine Q2 [9,8,4,3] (S':=V4 ..) Z (Qt (Q3 (Q5 ?_)))
 obtain ⟨bG,hm,hLj_2⟩:=QN hm
 unfold Q46 at hm
 refine QF (σ:=(List V)×OA×Nat×Nat) (fun (aD,aE,aF,aG)=>bG=.inl aD) (fun (aD,aE,aF,aG)=>[(9,.int .i64 ((a9:Nat):Int)),(8,.slice aE aG aF),(4,.pointer (some ⟨g4,0,none⟩)),(3,.pointer (some ⟨g3,0,none⟩))]) (fun (aD,aE,aF,aG)=>[.sli 3 R_V aQ aR aI,.sli 5 Q2w aM aN l2,.sli 7 Qs aO aP l9]) (fun (aD,aE,aF,aG)=>[.own 57 3 R_V (.slice aE aG aF) aD,.blk g4 [.int .i64 b0,.int .i64 b1,.slice aQ aI.length aR] 71,.blk g3 [.int .u8 a0,.int .i64 a1,.slice aM l2.length aN,.int .u8 a3,.int .u8 a4,.int .i64 a5,.string a6,.int .i64 a7,.int .u8 a8,.slice aO l9.length aP] 67]) ?_ ?_
 refine Qx (Q5 (Q1 (wF Z Q6J (wD 2 2 Z tS_60 tA_60 Z (wP Z ?_)))))
 obtain ⟨bA,bH,hm⟩:=Q7 hm
 refine QT 1 a9 Z Z Z Zq Z Z Z Z Z bH Q8Y tS_59 (fun cL cM cE c2=>(Q1h Q89 1 Z (fun cN bI _=>?_)))
 subst bI
 refine Q1g 0 0 Z Z Z Zq Z Z Z (cs:=V5 ..) Z tS_59 tA_59 Z Z (Q13 Z Z Z Zq Z tZ_59 Z (fun cO=>(wS 0 0 Z tS_59 (all':=V5 ..) Z (H':=V4 ..) Z (Q4 (Q3 (Q2 [10,9,8,4,3] (S':=V5 ..) Z (Q5 (Q1 (wF Z tF_59_0 (wD 0 0 Z tS_54 tA_54 Z (Q4 (Q3 (Q2 [32,10,9,8,4,3] (S':=V6 ..) Z (Qx ?_))))))))))))))
 refine Q5 (Q1 (wP Z (wP Z (Q4 (Q3 (Q2 [33,32,10,9,8,4,3] (S':=V7 ..) Z ?_))))))
 refine Qm Z (fun aU=>?_) (fun aU=>?_)
 replace hm:=Qw hm aU
 refine Q2 [9,8,4,3] (S':=V4 ..) Z (Q1 (wP Z (wF Z Q68 (wD 2 2 Z Q5i Q5f Z (wP Z ?_)))))
 obtain ⟨aJ,bJ,hm⟩:=Q7 hm
 refine QT 2 a9 Z Z Z Zq Z Z Z Z Z bJ Q29 QB (fun cP cQ cF c3=>(Q1h Q2l 1 Z (fun cR bK _=>?_)))
 subst bK
 refine Q1g 0 0 Z Z Z Zq Z Z Z (cs:=V3 ..) Z QB Q1b Z Z (Q1y Z Z Z Zq Z Q29 QB Q1Q Z (zs:=[.int .u8 0,.int .i64 0,.string ((⟨#[]⟩ : ByteArray))]) (by kernel_rfl) Z (out:=V3 ..) Z (fun cS=>?_))
 obtain ⟨b5,hm⟩:=Qz hm
 refine Q6S [aJ] 2 0 Z Z Z Zq Z Z Z Z Z (fun F w hφ=>⟨[.int .u8 (aJ.k),.int .i64 (aJ.n),.string aJ.s],[],Z,Z,⟨(),Z,Q1n⟩,Z⟩) Q29 tR_57 Z Z (Nat.le_trans b5 (by decide)) (Nat.le_trans (Nat.mul_le_mul_right _ b5) (by decide)) (H2:=fun bB bC=>[_,_,.own 57 3 R_V (.slice bB ((h++[aJ]).length) bC) (h++[aJ]),_,_]) (fun _ _=>Z) (fun bB bC=>(Qa6 0 Z (H':=V4 ..) Z (QS (S':=V11 ..) Z Z Z Z Z (Q4 (Qf (Qf ?_))))))
 have hE:=(Zi hm).symm
 refine Qu [1,2,3] Z (H':=V3 ..) Z ?_
 refine Qd (h++[aJ],bB,bC,(h++[aJ]).length) hE [9,8,4,3] Z (asK [4,5,6] Z) Z
 replace hm:=Qv hm aU
 refine Q2 [32,10,9,8,4,3] (S':=V6 ..) Z (Q5 (Q1 (wP Z (wP Z (Q4 (Q3 (Q2 [43,32,10,9,8,4,3] (S':=V7 ..) Z ?_)))))))
 refine Qm Z (fun aV=>?_) (fun aV=>?_)
 replace hm:=Qw hm aV
 refine Q2 [10,9,8,4,3] (S':=V5 ..) Z (Q5 ?_)
 obtain ⟨bL,hm⟩:=Qz hm
 obtain ⟨b2,b6,hm⟩:=Q7 hm
 obtain ⟨c4,bM,hm⟩:=Q7 hm
 refine QR [0,1,2,3,4,5,6,7,8,9,10] Z Z (fun hok=>(xP hok 0 Z (Q9 hok 1 Z Z Z Zq Z Z Z Q2S (Ql hok 2 0 1 Z Z Z Zq Z Z Z Z (cs:=[_]) Z QZ Q15 Z Z (Q7G hok 3 1 bA.var.toNat Z Z Z Zq Z Z Z Z Z (Q1I bL) (Q77 b6) Q29 QB (fun c5 bN=>?_))))))
 subst bN
 refine Qa9 hok 4 Q2l 1 bA.var.toNat 0 Z Z Z Zq Z Z Z Z b6 QB Q1b (v:=.agg #[.int .u8 (b2.k),.int .i64 (b2.n),.string b2.s]) Z Z (fun _=>(Q9 hok 5 Z Z Z Zq Z Z Z Q68 (Ql hok 6 2 2 Z Z Z Zq Z Z Z Z (cs:=[_]) Z Q5i Q5f Z Z (xP hok 7 Z (Q1B hok 8 2 a9 Z Z Z Zq Z Z Z Z Z Z bM Q29 QB (fun cT cU cG c6=>(Q1X Q2l 1 Z (fun cV bO _=>?_))))))))
 subst bO
 refine Q2J hok 9 0 0 Z Z Z Zq Z Z Z Z (cs:=V3 ..) Z QB Q1b Z Z (wx_bin hok 10 Z Z Z Zq Z Z Z Z (neqV _ _ b2 c4) (QO hok Z (Q3 (Q2 [55,9,8,4,3] (S':=V5 ..) Z ?_))))
 refine Qm Z (fun aW=>?_) (fun aW=>?_)
 replace hm:=Qw hm aW
 refine Q2 [] (S':=[]) Z (Q5 (Q1 (wP Z (wP Z (Q4 (Q3 (Qk (Qa (Qa (Q8 (Q8 (Qa (Q8 ?_)))))))))))))
 have hE:=(Zi hm).symm
 replace hE:=Qn hLj_2 hE
 replace hE:=Qn hLu1 hE
 replace hE:=Qn hLj_1 hE
 obtain ⟨hE0,hE1⟩:=Prod.mk.inj hE
 clear hE
 replace hE0:=hE0.symm
 subst hE0
 replace hE1:=hE1.symm
 subst hE1
 refine Q2T 57 3 R_V ?_
 refine QH (Hr:=[_]) [0] Tryz.results92 (Qb Z) (Qb Z) ⟨none,0,0,Z,Z,Z⟩ (asK [] Z) Z Z (.inl Z)
 replace hm:=Qv hm aW
 refine Q2 [9,8,4,3] (S':=V4 ..) Z (Qt (Qf (Qf ?_)))
 have hE:=(Zi hm).symm
 refine Qu [1,2,3] Z (H':=V3 ..) Z ?_
 refine Qd (h,some ⟨c5,0,none⟩,y,z) hE [9,8,4,3] Z (asK [4,5,6] Z) Z
 replace hm:=Qv hm aV
 refine Q2 [32,10,9,8,4,3] (S':=V6 ..) Z (Q5 (Q1 (wP Z (wP Z (Q4 (Q3 (Q2 [56,10,9,8,4,3] (S':=V6 ..) Z ?_)))))))
 refine Qm Z (fun aX=>?_) (fun aX=>?_)
 replace hm:=Qw hm aX
 refine Q2 [10,9,8,4,3] (S':=V5 ..) Z (Q5 ?_)
 obtain ⟨c7,bP,hm⟩:=Q7 hm
 refine QR [0,1,2,3,4,5,6,7] Z Z (fun hok=>(Q9 hok 0 Z Z Z Zq Z Z Z Q91 (Ql hok 1 0 2 Z Z Z Zq Z Z Z Z (cs:=V3 ..) Z QB Q1b Z Z (Q9 hok 2 Z Z Z Zq Z Z Z Q68 (Ql hok 3 2 2 Z Z Z Zq Z Z Z Z (cs:=[_]) Z Q5i Q5f Z Z (xP hok 4 Z (Q1B hok 5 2 a9 Z Z Z Zq Z Z Z Z Z Z bP Q29 QB (fun cW cX cH c8=>(Q1X Q2l 1 Z (fun cY bQ _=>?_))))))))))
 subst bQ
 refine Q2J hok 6 0 0 Z Z Z Zq Z Z Z Z (cs:=V3 ..) Z QB Q1b Z Z (wx_bin hok 7 Z Z Z Zq Z Z Z Z (neqV _ _ bA.v c7) (QO hok Z (Q3 (Q2 [65,9,8,4,3] (S':=V5 ..) Z ?_))))
 refine Qm Z (fun aY=>?_) (fun aY=>?_)
 replace hm:=Qw hm aY
 refine Q2 [] (S':=[]) Z (Q5 (Q1 (wP Z (wP Z (Q4 (Q3 (Qk (Qa (Qa (Q8 (Q8 (Qa (Q8 ?_)))))))))))))
 have hE:=(Zi hm).symm
 replace hE:=Qn hLj_2 hE
 replace hE:=Qn hLu1 hE
 replace hE:=Qn hLj_1 hE
 obtain ⟨hE0,hE1⟩:=Prod.mk.inj hE
 clear hE
 replace hE0:=hE0.symm
 subst hE0
 replace hE1:=hE1.symm
 subst hE1
 refine Q2T 57 3 R_V ?_
 refine QH (Hr:=[_]) [0] Tryz.results92 (Qb Z) (Qb Z) ⟨none,0,0,Z,Z,Z⟩ (asK [] Z) Z Z (.inl Z)
 replace hm:=Qv hm aY
 refine Q2 [9,8,4,3] (S':=V4 ..) Z (Qt (Qf (Qf ?_)))
 have hE:=(Zi hm).symm
 refine Qu [1,2,3] Z (H':=V3 ..) Z ?_
 refine Qd (h,a2,y,z) hE [9,8,4,3] Z (asK [4,5,6] Z) Z
 replace hm:=Qv hm aX
 refine Q2 [9,8,4,3] (S':=V4 ..) Z (Qt (Qf (Qf ?_)))
 have hE:=(Zi hm).symm
 refine Qu [1,2,3] Z (H':=V3 ..) Z ?_
 refine Qd (h,a2,y,z) hE [9,8,4,3] Z (asK [2,3,4] Z) Z
 rintro ⟨aD,aE,aF,aG⟩ hE
 try dsimp only
 have hm:=QA hLj_2 hE
 refine Q1 (wP Z (wP Z ?_))
 obtain ⟨bR,hm⟩:=Qz hm
 refine QD (d:=25) (v':=.int .i64 ((a9+1:Nat):Int)) (S':=V5 ..) Z Z (Q1f (a:=a9) (b:=1) bR) (QS (S':=V5 ..) Z Z Z Z Z (Q4 ?_))
 have hE:=(Zi hm).symm
 replace hE:=QA hLu1 hE
 refine QY (_,a9+1,aD,aE,aF,aG) (Nat.lt_succ_self _) hE [9,8,4,3] Z (asK [0,1,2] Z) Z
 replace hm:=Qv hm aT
 refine Q2 [8] (S':=[_]) Z (Q1k (Qo (Qo (QG ?_))))
 have hE:=(Zi hm).symm
 replace hE:=Qn hLu1 hE
 refine Qu [0] Z (H':=[_]) Z ?_
 refine Qd (h,a2,y,z) hE [8] Z (asK [] Z) Z
 rintro ⟨aH,aA,aB,aC⟩ hE
 try dsimp only
 have hm:=QA hLj_1 hE
 refine Q5 (Q1 (wP Z (wP Z (wP Z (Q4 (Q3 (Q2 [7,6] (S':=[_,_]) Z (Qk ?_))))))))
 have hE:=(Zi hm).symm
 obtain ⟨hE0,hE1⟩:=Prod.mk.inj hE
 clear hE
 replace hE0:=hE0.symm
 subst hE0
 replace hE1:=hE1.symm
 subst hE1
 refine QH (Hr:=[_]) [0] Tryz.results92 (Qb Z) (Qb Z) ⟨aA,aB,aC,Z,Z,Z⟩ (asK [] Z) Z Z (.inl Z)
end Go.Proofs.YtbgodclhmgmcgaaGreatDoor
