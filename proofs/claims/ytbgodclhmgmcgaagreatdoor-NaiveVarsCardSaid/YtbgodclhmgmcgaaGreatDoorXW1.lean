import Derived.Test.YtbgodclhmgmcgaaGreatDoorProg
import Derived.Maps.Own
import Derived.Maps.OwnSet
import Derived.Maps.Views
import Derived.DeepKeys4
import Derived.Laws.BytesArg
import Derived.Laws.BytesString
import Derived.Laws.IdiomStrings
import Derived.Lib.LaidTab
import Derived.Lib.ItoaNum
import Derived.LaidSub
import Derived.Lib.AppendZeros
import Derived.Test.YtbgodclhmgmcgaaGreatDoorXM
import Derived.Test.YtbgodclhmgmcgaaGreatDoorAb
namespace Go.Proofs.YtbgodclhmgmcgaaGreatDoor
open Go.RowKit
set_option maxRecDepth 100000
set_option maxHeartbeats 4000000
theorem tM_146:Tryz.prog.underlying 146=some (.map 61 140):=by kernel_rfl
theorem Q5U:Tryz.prog.underlying 221=some (.map 62 183):=by kernel_rfl
theorem tFT_57_1:fldTy Tryz.prog 57 1=some (2,1):=by kernel_rfl
theorem Q8J (N:Nat)(rc:(List Qe)→Int→Option (Int))(ih : ∀ (a0:OA)(a2:Nat)(l0:List Qe)(a1:Int)(o0:Int),rc l0 a1=some o0→Q1d Tryz.prog 25 [.slice a0 l0.length a2,.int .i64 a1] [.sli 7 Qs a0 a2 l0] [] (fun v Φr Hr=>v=.int .i64 o0∧Φr=[]∧Hr=[]))(a0:OA)(a2:Nat)(l0:List Qe)(a1:Int)(o0:Int)(hm:Q22 N rc l0 a1=some o0):Q1d Tryz.prog 25 [.slice a0 l0.length a2,.int .i64 a1] [.sli 7 Qs a0 a2 l0] [] (fun v Φr Hr=>v=.int .i64 o0∧Φr=[]∧Hr=[]):=by
 unfold Q22 at hm
 refine QI Tryz.func25 Z Tryz.ntmps25 Z (S:=[_,_]) Z (fun C=>(Q5 (Q1 (wP Z (Q4 (Q3 (Q2 [0,1] (S':=[_,_]) Z (Q5 (Q1 (wP Z (Q4 (Q3 (Q5 ?_)))))))))))))
 obtain ⟨a8,hm,hLj_1⟩:=Q7 hm
 refine QF (σ:=Int) (fun z=>a8=z) (fun z=>[(1,.int .i64 a1),(5,.int .i64 z)]) (fun z=>[]) (fun z=>[]) ?_ ?_
 refine Q5 (Q1 (wP Z (Q4 (Q3 (Qx (Q1o (σ:=Nat×Nat×Int) (fun (a3,s,h)=>Q19 (Q1D N l0 a1 rc) a3 (s,h)=some a8) (fun (a3,s,h)=>a3) (fun (a3,s,h)=>[(6,.int .i64 ((s:Nat):Int)),(5,.int .i64 h),(0,.slice a0 l0.length a2),(1,.int .i64 a1)]) (fun (a3,s,h)=>[.sli 7 Qs a0 a2 l0]) (fun (a3,s,h)=>[]) (N,0,0) hm [6,5,0,1] Z (asK [0] Z) Z (fun s_ hm=>?_)))))))
 obtain ⟨a3,s,h⟩:=s_
 try dsimp only at hm ⊢
 obtain ⟨aQ,aR,aA,hq,hLu1⟩:=Q10 hm
 clear hm
 subst aA
 replace hm:=hq
 clear hq
 unfold Q1D at hm
 try dsimp only at hm
 refine Q5 (Q5 ?_)
 obtain ⟨aB,hm,hLj_2⟩:=Q7 hm
 refine QF (σ:=Bool) (fun y=>aB=y) (fun y=>[(6,.int .i64 ((s:Nat):Int)),(5,.int .i64 h),(0,.slice a0 l0.length a2),(1,.int .i64 a1),(15,.bool y)]) (fun y=>[.sli 7 Qs a0 a2 l0]) (fun y=>[]) ?_ ?_
 refine Q1 (wP Z (wP Z (wN Z Q4r (wP Z (QD (d:=10) (v':=.bool (decide (s < l0.length))) (S':=V7 ..) Z Z (Q2E (a:=s) (b:=l0.length)) (wP Z ?_))))))
 refine Qr (d:=11) (S':=V8 ..) Z Z (fun a6=>?_) (fun a6=>?_)
 replace hm:=Qw hm a6
 refine wP Z (wP Z (wP Z (wP Z (Q4 ?_))))
 have hE:=(Zi hm).symm
 refine Qd (decide (h≤a1)) hE [6,5,0,1,15] Z (asK [0] Z) Z
 replace hm:=Qv hm a6
 refine wO Z (wO Z (wO Z (wP Z (Q4 ?_))))
 have hE:=(Zi hm).symm
 refine Qd false hE [6,5,0,1,15] Z (asK [0] Z) Z
 rintro y hE
 try dsimp only
 have hm:=hLj_2
 try rw [hE] at hm
 refine Qm Z (fun a7=>?_) (fun a7=>?_)
 replace hm:=Qw hm a7
 refine Q2 [6,5,0,1] (S':=V4 ..) Z (Qt (Q3 (Q5 (Qx (Q1 (wP Z (wP Z ?_)))))))
 obtain ⟨aC,hm⟩:=Qz hm
 refine QD (d:=19) (v':=.int .i64 (h+1)) (S':=V5 ..) Z Z (i64_in aC) (wP Z (wP Z ?_))
 obtain ⟨aN,aD,hm⟩:=Q7 hm
 refine QT 0 s Z Z Z Zq Z Z Z Z Z aD Q4r Q52 (fun aS aT aP aO=>(Q1h Q30 1 Z (fun aE aF _=>?_)))
 subst aF
 refine wF Z Q5S (Q1g 1 6 Z Z Z Zq Z Z Z (cs:=[_]) Z Q51 Q50 Z Z (wP Z (wP Z (wP Z ?_))))
 obtain ⟨aG,hm⟩:=Qz hm
 refine QD (d:=27) (v':=.int .i64 (a1 - h)) (S':=V13 ..) Z Z (i64_in aG) (wP Z ?_)
 obtain ⟨aH,hm⟩:=Qz hm
 refine QD (d:=28) (v':=.int .i64 ((a1 - h) - 1)) (S':=V14 ..) Z Z (i64_in aH) ?_
 obtain ⟨aI,aJ,hm⟩:=Q7 hm
 refine wC [] [] Z fn_25 Z (ih aE.1 aE.2 aN.kids ((a1 - h) - 1) _ aJ) (asK [0] Z) Z (H':=[]) Z ?_
 rintro _ _ _ ⟨rfl,rfl,rfl⟩
 refine wP Z ?_
 obtain ⟨aK,hm⟩:=Qz hm
 refine QD (d:=30) (v':=.int .i64 ((h+1)+aI)) (S':=V16 ..) Z Z (i64_in aK) (QS (S':=V16 ..) Z Z Z Z Z (Q4 (Qf (Q3 (Q2 [5,6,0,1] (S':=V4 ..) Z (Q1 (wP Z (wP Z ?_))))))))
 obtain ⟨aL,hm⟩:=Qz hm
 refine QD (d:=17) (v':=.int .i64 ((s+1:Nat):Int)) (S':=V5 ..) Z Z (Q1f (a:=s) (b:=1) aL) (QS (S':=V5 ..) Z Z Z Z Z (Q4 ?_))
 have hE:=(Zi hm).symm
 replace hE:=QA hLu1 hE
 refine QY (_,s+1,(h+1)+aI) (Nat.lt_succ_self _) hE [6,5,0,1] Z (asK [3] Z) Z
 replace hm:=Qv hm a7
 refine Q2 [5,1] (S':=[_,_]) Z (Q1k (Qo (Qo (QG ?_))))
 have hE:=(Zi hm).symm
 replace hE:=Qn hLu1 hE
 refine Qd h hE [1,5] Z (asK [] Z) Z
 rintro z hE
 try dsimp only
 have hm:=hLj_1
 try rw [hE] at hm
 refine Q5 (Q1 (wP Z (wP Z (wP Z ?_))))
 obtain ⟨aM,hm⟩:=Qz hm
 refine QD (d:=33) (v':=.int .i64 (a1+1)) (S':=V4 ..) Z Z (i64_in aM) (Q3E Z Z Z Zq (rk_min Z Z Z) (wP Z (Q4 (Q3 (Q2 [4] (S':=[_]) Z (Qk ?_))))))
 have hE:=(Zi hm).symm
 replace hE:=hE.symm
 subst hE
 refine Qq (Hr:=[]) [] Tryz.results25 (Qb Z) ⟨Z,Z,Z⟩ (asK [] Z) Z Z (.inl Z)
theorem Q70 : ∀ (N:Nat),∀ (qp0:OA)(qc1:Nat)(l0:List Qe)(a1:Int)(o0:Int),Q1q N l0 a1=some o0→Q1d Tryz.prog 25 [.slice qp0 l0.length qc1,.int .i64 a1] [.sli 7 Qs qp0 qc1 l0] [] (fun v Φr Hr=>v=.int .i64 o0∧Φr=[]∧Hr=[]):=by
 intro N
 induction N with
 | zero=>intro qp0 qc1 l0 a1 o0 hm;cases hm
 | succ N ih=>intro qp0 qc1 l0 a1 o0 hm;exact Q8J N (Q1q N) ih qp0 qc1 l0 a1 o0 hm
theorem Q9x (N:Nat)(aB:OA)(aC:Nat)(l0:List Qg)(aD:OA)(aE:Nat)(l1:List Qj)(a2:OA)(a3:Nat)(l2:List QP)(o0:Bool)(hm:Q3O N l0 l1 l2=some o0):Q1d Tryz.prog 9 [.agg #[.slice aB l0.length aC,.slice aD l1.length aE],.slice a2 l2.length a3] [.sli 2 Qh aB aC l0,.sli 5 Qi aD aE l1,.sli 3 QW a2 a3 l2] [] (fun v Φr Hr=>v=.bool o0∧Φr=[]∧Hr=[]):=by
 unfold Q3O at hm
 refine QI Tryz.func9 Z Tryz.ntmps9 Z (S:=[_,_]) Z (fun C=>(Q5 (Q1 (wB Z (fun g2=>(wP Z (Q4 (Q3 (Q2 [2,1] (S':=[_,_]) Z (Q5 (Q1 (wF Z Q4D (wD 0 0 Z Q7l Q7i Z (wN Z Q6r (wF Z Q4Z ?_)))))))))))))))
 refine wD 0 1 Z Q7u Q7t Z (wN Z Q6X (wP Z ?_))
 obtain ⟨bP,hm⟩:=Qz hm
 refine QD (d:=18) (v':=.int .i64 ((l0.length+l1.length:Nat):Int)) (S':=V8 ..) Z Z (Q1f (a:=l0.length) (b:=l1.length) bP) (wP Z (Q4 (Q3 (Q2 [5,2,1] (S':=V3 ..) Z (Q5 ?_)))))
 obtain ⟨b7,hm,hLj_1⟩:=Q7 hm
 refine QF (σ:=Int) (fun a7=>b7=a7) (fun a7=>[(5,.int .i64 a7),(1,.slice a2 l2.length a3)]) (fun a7=>[.sli 3 QW a2 a3 l2]) (fun a7=>[]) ?_ ?_
 refine Q5 (Q1 (wP Z (Q4 (Q3 (Qx (Q1o (σ:=Nat×Nat×Int) (fun (aP,a1,a8)=>Q19 (Q2n N l1) aP (a1,a8)=some b7) (fun (aP,a1,a8)=>aP) (fun (aP,a1,a8)=>[(6,.int .i64 ((a1:Nat):Int)),(5,.int .i64 a8),(2,.pointer (some ⟨g2,0,none⟩)),(1,.slice a2 l2.length a3)]) (fun (aP,a1,a8)=>[.sli 2 Qh aB aC l0,.sli 5 Qi aD aE l1,.sli 3 QW a2 a3 l2]) (fun (aP,a1,a8)=>[.blk g2 [.slice aB l0.length aC,.slice aD l1.length aE] 25]) (N,0,((l0.length+l1.length:Nat):Int)) hm [6,5,2,1] Z (asK [0,1,2] Z) Z (fun s_ hm=>?_)))))))
 obtain ⟨aP,a1,a8⟩:=s_
 try dsimp only at hm ⊢
 obtain ⟨dG,dH,bQ,hq,hLu1⟩:=Q10 hm
 clear hm
 subst bQ
 replace hm:=hq
 clear hq
 unfold Q2n at hm
 try dsimp only at hm
 refine Q5 (Q5 ?_)
 obtain ⟨bR,hm,hLj_2⟩:=Q7 hm
 refine QF (σ:=Bool) (fun aG=>bR=aG) (fun aG=>[(6,.int .i64 ((a1:Nat):Int)),(5,.int .i64 a8),(2,.pointer (some ⟨g2,0,none⟩)),(1,.slice a2 l2.length a3),(27,.bool aG)]) (fun aG=>[.sli 2 Qh aB aC l0,.sli 5 Qi aD aE l1,.sli 3 QW a2 a3 l2]) (fun aG=>[.blk g2 [.slice aB l0.length aC,.slice aD l1.length aE] 25]) ?_ ?_
 refine Q1 (wP Z (wF Z Q4Z (wD 0 1 Z Q7u Q7t Z (wN Z Q6X (wP Z (QD (d:=23) (v':=.bool (decide (a1 < l1.length))) (S':=V8 ..) Z Z (Q2E (a:=a1) (b:=l1.length)) (wP Z ?_)))))))
 refine Qr (d:=24) (S':=V9 ..) Z Z (fun aY=>?_) (fun aY=>?_)
 replace hm:=Qw hm aY
 refine wP Z (wP Z (wP Z (Q4 ?_)))
 have hE:=(Zi hm).symm
 refine Qd (decide (a8 < 400)) hE [6,5,2,1,27] Z (asK [0,1,2] Z) Z
 replace hm:=Qv hm aY
 refine wO Z (wO Z (wP Z (Q4 ?_)))
 have hE:=(Zi hm).symm
 refine Qd false hE [6,5,2,1,27] Z (asK [0,1,2] Z) Z
 rintro aG hE
 try dsimp only
 have hm:=hLj_2
 try rw [hE] at hm
 refine Qm Z (fun aZ=>?_) (fun aZ=>?_)
 replace hm:=Qw hm aZ
 refine Q2 [6,5,2,1] (S':=V4 ..) Z (Qt (Q3 (Q5 ?_)))
 obtain ⟨b8,hm,hLj_3⟩:=Q7 hm
 unfold Q5l at hm
 refine QF (σ:=Int) (fun aJ=>b8=aJ) (fun aJ=>[(6,.int .i64 ((a1:Nat):Int)),(5,.int .i64 aJ),(2,.pointer (some ⟨g2,0,none⟩)),(1,.slice a2 l2.length a3)]) (fun aJ=>[.sli 2 Qh aB aC l0,.sli 5 Qi aD aE l1,.sli 3 QW a2 a3 l2]) (fun aJ=>[.blk g2 [.slice aB l0.length aC,.slice aD l1.length aE] 25]) ?_ ?_
 refine Qx (Q5 (Q1 (wF Z Q4Z (wD 0 1 Z Q7u Q7t Z (wP Z ?_)))))
 obtain ⟨y,bS,hm⟩:=Q7 hm
 refine QT 1 a1 Z Z Z Zq Z Z Z Z Z bS Q6X Q6Y (fun dI dJ cZ cO=>(Q1h Q28 1 Z (fun z bT _=>?_)))
 subst bT
 refine Q1g 2 0 Z Z Z Zq Z Z Z (cs:=V5 ..) Z Q6Y tA_52 Z Z (Q13 Z Z Z Zq Z tZ_52 Z (fun g7=>(wS 0 0 Z Q6Y (all':=V5 ..) Z (H':=[_,_]) Z (Q4 (Q3 (Q2 [7,6,5,2,1] (S':=V5 ..) Z (Q5 (Q1 (wP Z (wF Z Q67 (wD 0 3 Z Q94 Q8X Z (wN Z Q86 (wP Z ?_)))))))))))))
 obtain ⟨bU,hm⟩:=Qz hm
 refine QD (d:=39) (v':=.int .i64 (a8+((y.conds.length:Nat):Int))) (S':=V9 ..) Z Z (i64_in bU) (wF Z Q90 (wD 0 4 Z tS_50 tA_50 Z (wN Z tE_50 (wP Z ?_))))
 obtain ⟨bV,hm⟩:=Qz hm
 refine QD (d:=43) (v':=.int .i64 ((a8+((y.conds.length:Nat):Int))+((y.acts.length:Nat):Int))) (S':=V13 ..) Z Z (i64_in bV) (QS (S':=V13 ..) Z Z Z Z Z (Q4 (Q3 (Q2 [5,7,6,2,1] (S':=V5 ..) Z (Q5 ?_)))))
 obtain ⟨b9,hm,hLj_4⟩:=Q7 hm
 refine QF (σ:=Int) (fun aK=>b9=aK) (fun aK=>[(5,.int .i64 aK),(7,.pointer (some ⟨g7,0,none⟩)),(6,.int .i64 ((a1:Nat):Int)),(2,.pointer (some ⟨g2,0,none⟩)),(1,.slice a2 l2.length a3)]) (fun aK=>[.sli 10 Q11 z.1.1 z.1.2 y.conds,.sli 4 Q1c z.2.1 z.2.2 y.acts,.sli 2 Qh aB aC l0,.sli 5 Qi aD aE l1,.sli 3 QW a2 a3 l2]) (fun aK=>[.blk g7 [.string y.name,.int .i64 (y.salience),.int .i64 (y.vars),.slice z.1.1 y.conds.length z.1.2,.slice z.2.1 y.acts.length z.2.2] 52,.blk g2 [.slice aB l0.length aC,.slice aD l1.length aE] 25]) ?_ ?_
 refine Q5 (Q1 (wP Z (Q4 (Q3 (Qx (Q1o (σ:=Nat×Nat×Int) (fun (aQ,a5,a9)=>Q19 (Q2o N y) aQ (a5,a9)=some b9) (fun (aQ,a5,a9)=>aQ) (fun (aQ,a5,a9)=>[(8,.int .i64 ((a5:Nat):Int)),(5,.int .i64 a9),(7,.pointer (some ⟨g7,0,none⟩)),(6,.int .i64 ((a1:Nat):Int)),(2,.pointer (some ⟨g2,0,none⟩)),(1,.slice a2 l2.length a3)]) (fun (aQ,a5,a9)=>[.sli 10 Q11 z.1.1 z.1.2 y.conds,.sli 4 Q1c z.2.1 z.2.2 y.acts,.sli 2 Qh aB aC l0,.sli 5 Qi aD aE l1,.sli 3 QW a2 a3 l2]) (fun (aQ,a5,a9)=>[.blk g7 [.string y.name,.int .i64 (y.salience),.int .i64 (y.vars),.slice z.1.1 y.conds.length z.1.2,.slice z.2.1 y.acts.length z.2.2] 52,.blk g2 [.slice aB l0.length aC,.slice aD l1.length aE] 25]) (N,0,((a8+((y.conds.length:Nat):Int))+((y.acts.length:Nat):Int))) hm [8,5,7,6,2,1] Z (asK [0,1,4,5,6] Z) Z (fun s_ hm=>?_)))))))
 obtain ⟨aQ,a5,a9⟩:=s_
 try dsimp only at hm ⊢
 obtain ⟨dK,dL,bW,hq,hLu2⟩:=Q10 hm
 clear hm
 subst bW
 replace hm:=hq
 clear hq
 unfold Q2o at hm
 try dsimp only at hm
 refine Q5 (Q5 ?_)
 obtain ⟨bX,hm,hLj_5⟩:=Q7 hm
 refine QF (σ:=Bool) (fun aH=>bX=aH) (fun aH=>[(8,.int .i64 ((a5:Nat):Int)),(5,.int .i64 a9),(7,.pointer (some ⟨g7,0,none⟩)),(6,.int .i64 ((a1:Nat):Int)),(2,.pointer (some ⟨g2,0,none⟩)),(1,.slice a2 l2.length a3),(52,.bool aH)]) (fun aH=>[.sli 10 Q11 z.1.1 z.1.2 y.conds,.sli 4 Q1c z.2.1 z.2.2 y.acts,.sli 2 Qh aB aC l0,.sli 5 Qi aD aE l1,.sli 3 QW a2 a3 l2]) (fun aH=>[.blk g7 [.string y.name,.int .i64 (y.salience),.int .i64 (y.vars),.slice z.1.1 y.conds.length z.1.2,.slice z.2.1 y.acts.length z.2.2] 52,.blk g2 [.slice aB l0.length aC,.slice aD l1.length aE] 25]) ?_ ?_
 refine Q1 (wP Z (wF Z Q67 (wD 0 3 Z Q94 Q8X Z (wN Z Q86 (wP Z (QD (d:=48) (v':=.bool (decide (a5 < y.conds.length))) (S':=V10 ..) Z Z (Q2E (a:=a5) (b:=y.conds.length)) (wP Z ?_)))))))
 refine Qr (d:=49) (S':=V11 ..) Z Z (fun b0=>?_) (fun b0=>?_)
 replace hm:=Qw hm b0
 refine wP Z (wP Z (wP Z (Q4 ?_)))
 have hE:=(Zi hm).symm
 refine Qd (decide (a9 < 400)) hE [8,5,7,6,2,1,52] Z (asK [0,1,2,3,4] Z) Z
 replace hm:=Qv hm b0
 refine wO Z (wO Z (wP Z (Q4 ?_)))
 have hE:=(Zi hm).symm
 refine Qd false hE [8,5,7,6,2,1,52] Z (asK [0,1,2,3,4] Z) Z
 rintro aH hE
 try dsimp only
 have hm:=hLj_5
 try rw [hE] at hm
 refine Qm Z (fun b1=>?_) (fun b1=>?_)
 replace hm:=Qw hm b1
 refine Q2 [8,5,7,6,2,1] (S':=V6 ..) Z (Qt (Q3 (Q5 (Qx ?_))))
 obtain ⟨bF,bY,hm⟩:=Q7 hm
 obtain ⟨bZ,hm⟩:=Qz hm
 obtain ⟨aN,c0,hm⟩:=Q7 hm
 obtain ⟨c1,c2,hm⟩:=Q7 hm
 obtain ⟨c3,hm⟩:=Qz hm
 refine QR [0,1,2,3,4,5,6,7,8,9,10,11,12,13,14,17] Z Z (fun hok=>(xP hok 0 Z (Q9 hok 1 Z Z Z Zq Z Z Z Q67 (Ql hok 2 0 3 Z Z Z Zq Z Z Z Z (cs:=[_]) Z Q94 Q8X Z Z (xP hok 3 Z (Q1B hok 4 0 a5 Z Z Z Zq Z Z Z Z Z Z bY Q86 Q6t (fun dM dN d0 cP=>(Q1X Q3v 1 Z (fun dO c4 _=>?_)))))))))
 subst c4
 refine Q9 hok 5 Z Z Z Zq Z Z Z Q6J (Q2J hok 6 2 2 Z Z Z Zq Z Z Z Z (cs:=[_]) Z tS_60 tA_60 Z Z (Q7p hok 7 Z Z Z Zq Z Z Z Q8Y (xP hok 8 Z (Q17 (d:=63) (v':=.int .i64 (a9+((bF.args.length:Nat):Int))) (S':=V14 ..) Z Z (i64_in bZ) (Q9 hok 9 Z Z Z Zq Z Z Z Q67 (Ql hok 10 0 3 Z Z Z Zq Z Z Z Z (cs:=[_]) Z Q94 Q8X Z Z (xP hok 11 Z (Q1B hok 12 4 a5 Z Z Z Zq Z Z Z Z Z Z c0 Q86 Q6t (fun dP dQ d1 cQ=>(Q1X Q3v 1 Z (fun b6 c5 _=>?_)))))))))))
 subst c5
 refine Q9 hok 13 Z Z Z Zq Z Z Z Q93 (Q2J hok 14 2 3 Z Z Z Zq Z Z Z Z (cs:=V7 ..) Z Q52 Q6E Z Z (xS hok 15 Z (Q1y Z Z Z Zq Z Q4r Q52 tZ_65 Z (zs:=[.int .u8 0,.int .u8 0,.int .i64 0,.string ((⟨#[]⟩ : ByteArray)),.int .i64 0,.int .u8 0,V1]) (by kernel_rfl) Z (out:=V7 ..) Z (fun cR=>(Q4 (Q12 [0,1,2,3,4,5,6,7,8,9,10,11,12] [1,1] Z Z (xS hok 16 Z (wl_row (sz:=7) (m:=1) Qs [aN.test] 0 Z (fun F w hφ=>⟨[.int .u8 (aN.test.kind),.int .u8 (aN.test.value.k),.int .i64 (aN.test.value.n),.string aN.test.value.s,.int .i64 (aN.test.var),.int .u8 (aN.test.op),.slice b6.2.1 aN.test.kids.length b6.2.2],[],Z,Z,(rec_shut (b6.2.1,b6.2.2) Z (Q1j (hφ _ (Q1W (k:=1) Z)) Q1n)),Z⟩) Z (by decide) (H':=V3 ..) Z (Qa7 [] [0,1,2] [0] Z Z Z Zq Z Z fn_25 Z (Q70 N (some ⟨cR,0,none⟩) 1 [aN.test] 400 _ c2) (fun F w hφ hh=>(Q1j (Q5R (hh _ (Q1W (k:=0) Z))) Q1n)) (fun _ _ _ hR=>by obtain ⟨rfl,rfl,rfl⟩:=hR;exact ⟨Z,(fun _ h=>Q8m h)⟩) Z Z (H':=V3 ..) Z ?_)))))))))
 rintro _ _ _ ⟨rfl,rfl,rfl⟩
 refine Q4 (Q12 [0,1,2,3,4,5,6,7,8,9,10,11,12] [1,1] Z Z (xP hok 17 Z (Q17 (d:=72) (v':=.int .i64 ((a9+((bF.args.length:Nat):Int))+c1)) (S':=V23 ..) Z Z (i64_in c3) (xS hok 18 Z (QS (S':=V23 ..) Z Z Z Z Z (Q4 (Q12 [0,1,2,3,4,5,6,7,8,9,10,11,12] [] Z Z (QO hok Z (Qf (Q3 (Q2 [5,8,7,6,2,1] (S':=V6 ..) Z (Q1 (wP Z ?_)))))))))))))
 refine wP Z ?_
 obtain ⟨c6,hm⟩:=Qz hm
 refine QD (d:=54) (v':=.int .i64 ((a5+1:Nat):Int)) (S':=V7 ..) Z Z (Q1f (a:=a5) (b:=1) c6) (QS (S':=V7 ..) Z Z Z Z Z (Q4 ?_))
 have hE:=(Zi hm).symm
 replace hE:=QA hLu2 hE
 refine Qu [1,2] Z (H':=[_,_]) Z ?_
 refine QY (_,a5+1,((a9+((bF.args.length:Nat):Int))+c1)) (Nat.lt_succ_self _) hE [8,5,7,6,2,1] Z (asK [8,9,10,11,12] Z) Z
 replace hm:=Qv hm b1
 refine Q2 [5,7,6,2,1] (S':=V5 ..) Z (Q1k (Qo (Qo (QG ?_))))
 have hE:=(Zi hm).symm
 replace hE:=Qn hLu2 hE
 refine Qd a9 hE [5,7,6,2,1] Z (asK [0,1,2,3,4] Z) Z
 rintro aK hE
 try dsimp only
 have hm:=hLj_4
 try rw [hE] at hm
 refine Q5 (Q1 (wP Z (Q4 (Q3 (Qx (Q1o (σ:=Nat×Nat×Int) (fun (aR,a6,aA)=>Q19 (Q2p N y) aR (a6,aA)=some b8) (fun (aR,a6,aA)=>aR) (fun (aR,a6,aA)=>[(9,.int .i64 ((a6:Nat):Int)),(5,.int .i64 aA),(7,.pointer (some ⟨g7,0,none⟩)),(6,.int .i64 ((a1:Nat):Int)),(2,.pointer (some ⟨g2,0,none⟩)),(1,.slice a2 l2.length a3)]) (fun (aR,a6,aA)=>[.sli 10 Q11 z.1.1 z.1.2 y.conds,.sli 4 Q1c z.2.1 z.2.2 y.acts,.sli 2 Qh aB aC l0,.sli 5 Qi aD aE l1,.sli 3 QW a2 a3 l2]) (fun (aR,a6,aA)=>[.blk g7 [.string y.name,.int .i64 (y.salience),.int .i64 (y.vars),.slice z.1.1 y.conds.length z.1.2,.slice z.2.1 y.acts.length z.2.2] 52,.blk g2 [.slice aB l0.length aC,.slice aD l1.length aE] 25]) (N,0,aK) hm [9,5,7,6,2,1] Z (asK [0,1,2,3,4] Z) Z (fun s_ hm=>?_)))))))
 obtain ⟨aR,a6,aA⟩:=s_
 try dsimp only at hm ⊢
 obtain ⟨dR,dS,c7,hq,hLu3⟩:=Q10 hm
 clear hm
 subst c7
 replace hm:=hq
 clear hq
 unfold Q2p at hm
 try dsimp only at hm
 refine Q5 (Q5 ?_)
 obtain ⟨c8,hm,hLj_6⟩:=Q7 hm
 refine QF (σ:=Bool) (fun aI=>c8=aI) (fun aI=>[(9,.int .i64 ((a6:Nat):Int)),(5,.int .i64 aA),(7,.pointer (some ⟨g7,0,none⟩)),(6,.int .i64 ((a1:Nat):Int)),(2,.pointer (some ⟨g2,0,none⟩)),(1,.slice a2 l2.length a3),(81,.bool aI)]) (fun aI=>[.sli 10 Q11 z.1.1 z.1.2 y.conds,.sli 4 Q1c z.2.1 z.2.2 y.acts,.sli 2 Qh aB aC l0,.sli 5 Qi aD aE l1,.sli 3 QW a2 a3 l2]) (fun aI=>[.blk g7 [.string y.name,.int .i64 (y.salience),.int .i64 (y.vars),.slice z.1.1 y.conds.length z.1.2,.slice z.2.1 y.acts.length z.2.2] 52,.blk g2 [.slice aB l0.length aC,.slice aD l1.length aE] 25]) ?_ ?_
 refine Q1 (wP Z (wF Z Q90 (wD 0 4 Z tS_50 tA_50 Z (wN Z tE_50 (wP Z (QD (d:=77) (v':=.bool (decide (a6 < y.acts.length))) (S':=V10 ..) Z Z (Q2E (a:=a6) (b:=y.acts.length)) (wP Z ?_)))))))
 refine Qr (d:=78) (S':=V11 ..) Z Z (fun b2=>?_) (fun b2=>?_)
 replace hm:=Qw hm b2
 refine wP Z (wP Z (wP Z (Q4 ?_)))
 have hE:=(Zi hm).symm
 refine Qd (decide (aA < 400)) hE [9,5,7,6,2,1,81] Z (asK [0,1,2,3,4] Z) Z
 replace hm:=Qv hm b2
 refine wO Z (wO Z (wP Z (Q4 ?_)))
 have hE:=(Zi hm).symm
 refine Qd false hE [9,5,7,6,2,1,81] Z (asK [0,1,2,3,4] Z) Z
 rintro aI hE
 try dsimp only
 have hm:=hLj_6
 try rw [hE] at hm
 refine Qm Z (fun b3=>?_) (fun b3=>?_)
 replace hm:=Qw hm b3
 refine Q2 [9,5,7,6,2,1] (S':=V6 ..) Z (Qt (Q3 (Q5 (Qx (Q1 (wP Z (wF Z Q90 (wD 0 4 Z tS_50 tA_50 Z (wP Z ?_)))))))))
 obtain ⟨cS,c9,hm⟩:=Q7 hm
 refine QT 1 a6 Z Z Z Zq Z Z Z Z Z c9 tE_50 tS_81 (fun dT dU d2 cT=>(Q1h Q7w 1 Z (fun cA cB _=>?_)))
 subst cB
 refine wF Z Q5T (Q1g 1 3 Z Z Z Zq Z Z Z (cs:=[_]) Z Q51 Q50 Z Z ?_)
 obtain ⟨cC,cD,hm⟩:=Q7 hm
 refine wC [] [0,1] Z fn_25 Z (Q70 N cA.1 cA.2 cS.exprs 400 _ cD) (asK [0] Z) Z (H':=[_,_]) Z ?_
 rintro _ _ _ ⟨rfl,rfl,rfl⟩
 refine wP Z ?_
 obtain ⟨cE,hm⟩:=Qz hm
 refine QD (d:=92) (v':=.int .i64 (aA+cC)) (S':=V14 ..) Z Z (i64_in cE) (QS (S':=V14 ..) Z Z Z Z Z (Q4 (Qf (Q3 (Q2 [5,9,7,6,2,1] (S':=V6 ..) Z (Q1 (wP Z (wP Z ?_))))))))
 obtain ⟨cF,hm⟩:=Qz hm
 refine QD (d:=83) (v':=.int .i64 ((a6+1:Nat):Int)) (S':=V7 ..) Z Z (Q1f (a:=a6) (b:=1) cF) (QS (S':=V7 ..) Z Z Z Z Z (Q4 ?_))
 have hE:=(Zi hm).symm
 replace hE:=QA hLu3 hE
 refine QY (_,a6+1,aA+cC) (Nat.lt_succ_self _) hE [9,5,7,6,2,1] Z (asK [3,4,5,6,7] Z) Z
 replace hm:=Qv hm b3
 refine Q2 [5,6,2,1] (S':=V4 ..) Z (Q1k (Qo (Qo (QG (Qf ?_)))))
 have hE:=(Zi hm).symm
 replace hE:=Qn hLu3 hE
 refine Qu [1] Z (H':=[_]) Z ?_
 refine Qd aA hE [6,5,2,1] Z (asK [2,3,4] Z) Z
 rintro aJ hE
 try dsimp only
 have hm:=hLj_3
 try rw [hE] at hm
 refine Q1 (wP Z (wP Z ?_))
 obtain ⟨cG,hm⟩:=Qz hm
 refine QD (d:=29) (v':=.int .i64 ((a1+1:Nat):Int)) (S':=V5 ..) Z Z (Q1f (a:=a1) (b:=1) cG) (QS (S':=V5 ..) Z Z Z Z Z (Q4 ?_))
 have hE:=(Zi hm).symm
 replace hE:=QA hLu1 hE
 refine QY (_,a1+1,aJ) (Nat.lt_succ_self _) hE [6,5,2,1] Z (asK [0,1,2] Z) Z
 replace hm:=Qv hm aZ
 refine Q2 [5,1] (S':=[_,_]) Z (Q1k (Qo (Qo (QG ?_))))
 have hE:=(Zi hm).symm
 replace hE:=Qn hLu1 hE
 refine Qu [] Z (H':=[]) Z ?_
 refine Qd a8 hE [5,1] Z (asK [2] Z) Z
 rintro a7 hE
 try dsimp only
 have hm:=hLj_1
 try rw [hE] at hm
 refine Q5 ?_
 obtain ⟨bA,hm,hLj_7⟩:=QN hm
 refine QF (σ:=Unit) (fun _=>bA=.inl ()) (fun _=>[(5,.int .i64 a7),(1,.slice a2 l2.length a3)]) (fun _=>[.sli 3 QW a2 a3 l2]) (fun _=>[]) ?_ ?_
 refine Q5 (Q1 (wP Z (Q4 (Q3 (Qx (Q1o (σ:=Nat×Nat) (fun (aS,a0)=>Q19 (Q2q N l2) aS a0=some bA) (fun (aS,a0)=>aS) (fun (aS,a0)=>[(10,.int .i64 ((a0:Nat):Int)),(5,.int .i64 a7),(1,.slice a2 l2.length a3)]) (fun (aS,a0)=>[.sli 3 QW a2 a3 l2]) (fun (aS,a0)=>[]) (N,0) hm [10,5,1] Z (asK [0] Z) Z (fun s_ hm=>?_)))))))
 obtain ⟨aS,a0⟩:=s_
 try dsimp only at hm ⊢
 obtain ⟨dV,dW,cH,hq,hLu4⟩:=Q10 hm
 clear hm
 subst cH
 replace hm:=hq
 clear hq
 unfold Q2q at hm
 try dsimp only at hm
 refine Q5 (Q5 (Q1 (wP Z (wP Z (wN Z Q6s (wP Z (QD (d:=96) (v':=.bool (decide (a0 < l2.length))) (S':=V6 ..) Z Z (Q2E (a:=a0) (b:=l2.length)) (Q4 (Q3 (Q2 [96,10,5,1] (S':=V4 ..) Z ?_))))))))))
 refine Qm Z (fun b4=>?_) (fun b4=>?_)
 replace hm:=Qw hm b4
 refine Q2 [10,5,1] (S':=V3 ..) Z (Qt (Q3 (Q5 ?_)))
 obtain ⟨bB,hm,hLj_8⟩:=QN hm
 refine QF (σ:=Unit) (fun _=>bB=.inl ()) (fun _=>[(10,.int .i64 ((a0:Nat):Int)),(5,.int .i64 a7),(1,.slice a2 l2.length a3)]) (fun _=>[.sli 3 QW a2 a3 l2]) (fun _=>[]) ?_ ?_
 refine Qx (Q5 (Q5 (Q1 (wP Z (wP Z ?_)))))
 obtain ⟨bC,bG,hm⟩:=Q7 hm
 refine QT 0 a0 Z Z Z Zq Z Z Z Z Z bG Q6s Q5Z (fun d3 d4 cU cK=>(Q1h Q2k 1 Z (fun d5 bH _=>?_)))
 subst bH
 refine wF Z Q68 (Q1g 1 2 Z Z Z Zq Z Z Z (cs:=[_]) Z Q5i Q5f Z Z (wN Z Q29 (wP Z (QD (d:=105) (v':=.bool (decide (20 < bC.args.length))) (S':=V9 ..) Z Z (Q8r (a:=bC.args.length) (b:=20)) (Q4 (Q3 (Q2 [105,10,5,1] (S':=V4 ..) Z ?_)))))))
 refine Qm Z (fun aT=>?_) (fun aT=>?_)
 replace hm:=Qw hm aT
 refine Q2 [] (S':=[]) Z (Q5 (Q1 (wP Z (Q4 (Q3 (Qk (Q8 (Qa (Q8 (Q8 (Qa (Q8 ?_))))))))))))
 have hE:=(Zi hm).symm
 replace hE:=Qn hLj_8 hE
 replace hE:=Qn hLu4 hE
 replace hE:=Qn hLj_7 hE
 replace hE:=hE.symm
 subst hE
 refine Qq (Hr:=[]) [] Tryz.results9 (Qb Z) ⟨Z,Z,Z⟩ (asK [] Z) Z Z (.inl Z)
 replace hm:=Qv hm aT
 refine Q2 [10,5,1] (S':=V3 ..) Z (Qt (Q3 (Q5 (Q1 (wP Z (Q4 (Q3 (Qx (Q1o (σ:=Nat×Nat) (fun (aU,a4)=>Q19 (Q2r N l2 a0) aU a4=some bB) (fun (aU,a4)=>aU) (fun (aU,a4)=>[(11,.int .i64 ((a4:Nat):Int)),(10,.int .i64 ((a0:Nat):Int)),(5,.int .i64 a7),(1,.slice a2 l2.length a3)]) (fun (aU,a4)=>[.sli 3 QW a2 a3 l2]) (fun (aU,a4)=>[]) (N,0) hm [11,10,5,1] Z (asK [3] Z) Z (fun s_ hm=>?_))))))))))
 obtain ⟨aU,a4⟩:=s_
 try dsimp only at hm ⊢
 obtain ⟨dX,dY,cI,hq,hLu5⟩:=Q10 hm
 clear hm
 subst cI
 replace hm:=hq
 clear hq
 unfold Q2r at hm
 try dsimp only at hm
 refine Q5 (Q5 (Q1 (wP Z (wP Z (wP Z ?_)))))
 obtain ⟨bD,bI,hm⟩:=Q7 hm
 refine QT 0 a0 Z Z Z Zq Z Z Z Z Z bI Q6s Q5Z (fun d6 d7 cV cL=>(Q1h Q2k 1 Z (fun d8 bJ _=>?_)))
 subst bJ
 refine wF Z Q68 (Q1g 1 2 Z Z Z Zq Z Z Z (cs:=[_]) Z Q5i Q5f Z Z (wN Z Q29 (wP Z (QD (d:=113) (v':=.bool (decide (a4 < bD.args.length))) (S':=V11 ..) Z Z (Q2E (a:=a4) (b:=bD.args.length)) (Q4 (Q3 (Q2 [113,11,10,5,1] (S':=V5 ..) Z ?_)))))))
 refine Qm Z (fun aV=>?_) (fun aV=>?_)
 replace hm:=Qw hm aV
 refine Q2 [11,10,5,1] (S':=V4 ..) Z (Qt (Q3 (Q5 (Qx (Q5 (Q1 (wP Z (wP Z ?_))))))))
 obtain ⟨d9,bK,hm⟩:=Q7 hm
 refine QT 3 a0 Z Z Z Zq Z Z Z Z Z bK Q6s Q5Z (fun dA dB cW cM=>(Q1h Q2k 1 Z (fun dC bL _=>?_)))
 subst bL
 refine wF Z Q68 (Q1g 1 2 Z Z Z Zq Z Z Z (cs:=[_]) Z Q5i Q5f Z Z (wP Z ?_))
 obtain ⟨bE,bM,hm⟩:=Q7 hm
 refine QT 0 a4 Z Z Z Zq Z Z Z Z Z bM Q29 QB (fun dD dE cX cN=>(Q1h Q2l 1 Z (fun dF bN _=>?_)))
 subst bN
 refine wF Z tF_57_2 (Q1g 0 2 Z Z Z Zq Z Z Z (cs:=[_]) Z tS_9 tA_9 Z Z (Q3E Z Z Z Zq (Q9s Z Z tT_9) (wP Z (QD (d:=126) (v':=.bool (decide (100 < bE.s.size))) (S':=V14 ..) Z Z (Q8r (a:=bE.s.size) (b:=100)) (Q4 (Q3 (Q2 [126,11,10,5,1] (S':=V5 ..) Z ?_)))))))
 refine Qm Z (fun aW=>?_) (fun aW=>?_)
 replace hm:=Qw hm aW
 refine Q2 [] (S':=[]) Z (Q5 (Q1 (wP Z (Q4 (Q3 (Qk (Qa (Q8 (Q8 (Qa (Qa (Q8 (Q8 ?_)))))))))))))
 refine Qa (Q8 ?_)
 have hE:=(Zi hm).symm
 replace hE:=Qn hLu5 hE
 replace hE:=Qn hLj_8 hE
 replace hE:=Qn hLu4 hE
 replace hE:=Qn hLj_7 hE
 replace hE:=hE.symm
 subst hE
 refine Qq (Hr:=[]) [] Tryz.results9 (Qb Z) ⟨Z,Z,Z⟩ (asK [] Z) Z Z (.inl Z)
 replace hm:=Qv hm aW
 refine Q2 [11,10,5,1] (S':=V4 ..) Z (Qt (Qf (Q3 (Q1 (wP Z (wP Z ?_))))))
 obtain ⟨bO,hm⟩:=Qz hm
 refine QD (d:=115) (v':=.int .i64 ((a4+1:Nat):Int)) (S':=V5 ..) Z Z (Q1f (a:=a4) (b:=1) bO) (QS (S':=V5 ..) Z Z Z Z Z (Q4 ?_))
 have hE:=(Zi hm).symm
 replace hE:=QA hLu5 hE
 refine QY (_,a4+1) (Nat.lt_succ_self _) hE [11,10,5,1] Z (asK [8] Z) Z
 replace hm:=Qv hm aV
 refine Q2 [10,5,1] (S':=V3 ..) Z (Q1k (Qo (Qo (QG (Qf ?_)))))
 have hE:=(Zi hm).symm
 replace hE:=Qn hLu5 hE
 refine Qd () hE [10,5,1] Z (asK [3] Z) Z
 rintro _ hE
 try dsimp only
 have hm:=QA hLj_8 hE
 try dsimp only at hm
 refine Q1 (wP Z (wP Z ?_))
 obtain ⟨cJ,hm⟩:=Qz hm
 refine QD (d:=98) (v':=.int .i64 ((a0+1:Nat):Int)) (S':=V4 ..) Z Z (Q1f (a:=a0) (b:=1) cJ) (QS (S':=V4 ..) Z Z Z Z Z (Q4 ?_))
 have hE:=(Zi hm).symm
 replace hE:=QA hLu4 hE
 refine QY (_,a0+1) (Nat.lt_succ_self _) hE [10,5,1] Z (asK [0] Z) Z
 replace hm:=Qv hm b4
 refine Q2 [5,1] (S':=[_,_]) Z (Q1k (Qo (Qo (QG ?_))))
 have hE:=(Zi hm).symm
 replace hE:=Qn hLu4 hE
 refine Qd () hE [5,1] Z (asK [0] Z) Z
 rintro _ hE
 try dsimp only
 have hm:=QA hLj_7 hE
 try dsimp only at hm
 refine Q5 (Q1 (wP Z (wP Z (wP Z ?_))))
 refine Qr (d:=129) (S':=V4 ..) Z Z (fun aX=>?_) (fun aX=>?_)
 replace hm:=Qw hm aX
 refine wP Z (wN Z Q6s (wP Z (QD (d:=132) (v':=.bool (decide (l2.length≤40))) (S':=V7 ..) Z Z (natle (a:=l2.length) (b:=40)) (wP Z (wP Z (Q4 (Q3 (Q2 [4] (S':=[_]) Z (Qk ?_)))))))))
 have hE:=(Zi hm).symm
 replace hE:=hE.symm
 subst hE
 refine Qq (Hr:=[]) [] Tryz.results9 (Qb Z) ⟨Z,Z,Z⟩ (asK [] Z) Z Z (.inl Z)
 replace hm:=Qv hm aX
 refine wO Z (wO Z (wO Z (wP Z (wP Z (Q4 (Q3 (Q2 [4] (S':=[_]) Z (Qk ?_))))))))
 have hE:=(Zi hm).symm
 replace hE:=hE.symm
 subst hE
 refine Qq (Hr:=[]) [] Tryz.results9 (Qb Z) ⟨Z,Z,Z⟩ (asK [] Z) Z Z (.inl Z)
theorem Q5H (N:Nat)(a0:ByteArray)(o0:Bool)(hm:Q1Y N a0=some o0):Q1d Tryz.prog 70 [.string a0] [] [] (fun v Φr Hr=>v=.bool o0∧Φr=[]∧Hr=[]):=by
 unfold Q1Y at hm
 refine QI Tryz.func70 Z Tryz.ntmps70 Z (S:=[_]) Z (fun C=>(Q5 (Q1 (wP Z (Q4 (Q3 (Q2 [0] (S':=[_]) Z (Q5 ?_))))))))
 obtain ⟨aA,hm,hLj_1⟩:=QN hm
 refine QF (σ:=Unit) (fun _=>aA=.inl ()) (fun _=>[(0,.string a0)]) (fun _=>[]) (fun _=>[]) ?_ ?_
 refine Q5 (Q1 (wP Z (Q4 (Q3 (Qx (Q1o (σ:=Nat×Nat) (fun (a1,h)=>Q19 (Q3a N a0) a1 h=some aA) (fun (a1,h)=>a1) (fun (a1,h)=>[(3,.int .i64 ((h:Nat):Int)),(0,.string a0)]) (fun (a1,h)=>[]) (fun (a1,h)=>[]) (N,0) hm [3,0] Z (asK [] Z) Z (fun s_ hm=>?_)))))))
 obtain ⟨a1,h⟩:=s_
 try dsimp only at hm ⊢
 obtain ⟨aI,aJ,aC,hq,hLu1⟩:=Q10 hm
 clear hm
 subst aC
 replace hm:=hq
 clear hq
 unfold Q3a at hm
 try dsimp only at hm
 refine Q5 (Q5 (Q1 (wP Z (wP Z (Q3E Z Z Z Zq (Q9s Z Z tT_9) (wP Z (QD (d:=9) (v':=.bool (decide (h < a0.size))) (S':=V5 ..) Z Z (Q2E (a:=h) (b:=a0.size)) (Q4 (Q3 (Q2 [9,3,0] (S':=V3 ..) Z ?_))))))))))
 refine Qm Z (fun aB=>?_) (fun aB=>?_)
 replace hm:=Qw hm aB
 refine Q2 [3,0] (S':=[_,_]) Z (Qt (Q3 (Q5 (Qx (Q5 (Q1 (wP Z (wP Z ?_))))))))
 obtain ⟨y,aD,hm⟩:=Q7 hm
 refine Q3E Z Z Z Zq (rk_strAt h Z Z Z Z aD tT_9) (wP Z (Q4 (Q3 (Q2 [4,3,0] (S':=V3 ..) Z (Q5 ?_)))))
 obtain ⟨aE,hm,hLj_2⟩:=Q7 hm
 refine QF (σ:=Bool) (fun z=>aE=z) (fun z=>[(4,.int .u8 ((y.toNat:Nat):Int)),(3,.int .i64 ((h:Nat):Int)),(0,.string a0),(5,.bool z)]) (fun z=>[]) (fun z=>[]) ?_ ?_
 refine Q1 (wP Z (wP Z (QD (d:=16) (v':=.bool (decide (97≤y.toNat))) (S':=V4 ..) Z Z (natge (a:=y.toNat) (b:=97)) (wP Z ?_))))
 refine Qr (d:=17) (S':=V5 ..) Z Z (fun a3=>?_) (fun a3=>?_)
 replace hm:=Qw hm a3
 refine wP Z (wP Z (QD (d:=19) (v':=.bool (decide (y.toNat≤122))) (S':=V7 ..) Z Z (natle (a:=y.toNat) (b:=122)) (wP Z (wP Z (Q4 ?_)))))
 have hE:=(Zi hm).symm
 refine Qd (decide (y.toNat≤122)) hE [4,3,0,5] Z (asK [] Z) Z
 replace hm:=Qv hm a3
 refine wO Z (wO Z (wP Z (wP Z (Q4 ?_))))
 have hE:=(Zi hm).symm
 refine Qd false hE [4,3,0,5] Z (asK [] Z) Z
 rintro z hE
 try dsimp only
 have hm:=hLj_2
 try rw [hE] at hm
 refine Q5 ?_
 obtain ⟨aF,hm,hLj_3⟩:=Q7 hm
 unfold Q43 at hm
 refine QF (σ:=Bool) (fun s=>aF=s) (fun s=>[(3,.int .i64 ((h:Nat):Int)),(0,.string a0),(39,.bool s)]) (fun s=>[]) (fun s=>[]) ?_ ?_
 refine Q1 (wP Z (wP Z (wP Z ?_)))
 refine Qr (d:=23) (S':=V6 ..) Z Z (fun a4=>?_) (fun a4=>?_)
 replace hm:=Qw hm a4
 refine wP Z (wP Z (QD (d:=25) (v':=.bool (h==0)) (S':=V8 ..) Z Z (Q6W (a:=h) (b:=0)) (wP Z ?_)))
 refine Qr (d:=26) (S':=V9 ..) Z Z (fun a5=>?_) (fun a5=>?_)
 replace hm:=Qw hm a5
 refine wO Z (wO Z (wO Z (wO Z (wO Z (wO Z (wO Z (wO Z (wO Z (wO Z (wO Z (wP Z (wP Z (Q4 ?_)))))))))))))
 have hE:=(Zi hm).symm
 refine Qd true hE [3,0,39] Z (asK [] Z) Z
 replace hm:=Qv hm a5
 refine wP Z (wP Z (QD (d:=28) (v':=.bool (decide (48≤y.toNat))) (S':=V11 ..) Z Z (natge (a:=y.toNat) (b:=48)) (wP Z ?_)))
 refine Qr (d:=29) (S':=V12 ..) Z Z (fun a6=>?_) (fun a6=>?_)
 replace hm:=Qw hm a6
 refine wP Z (wP Z (QD (d:=31) (v':=.bool (decide (y.toNat≤57))) (S':=V14 ..) Z Z (natle (a:=y.toNat) (b:=57)) (wP Z (wP Z ?_))))
 refine Qr (d:=33) (S':=V16 ..) Z Z (fun a7=>?_) (fun a7=>?_)
 replace hm:=Qw hm a7
 refine wO Z (wO Z (wP Z (wP Z (wP Z (wP Z (Q4 ?_))))))
 have hE:=(Zi hm).symm
 refine Qd false hE [3,0,39] Z (asK [] Z) Z
 replace hm:=Qv hm a7
 refine wP Z (wP Z (QD (d:=35) (v':=.bool (y.toNat==95)) (S':=V18 ..) Z Z (Q6W (a:=y.toNat) (b:=95)) (wP Z (wP Z (wP Z (wP Z (Q4 ?_)))))))
 have hE:=(Zi hm).symm
 refine Qd (!(y.toNat==95)) hE [3,0,39] Z (asK [] Z) Z
 replace hm:=Qv hm a6
 refine wO Z (wO Z (wP Z (wP Z (wP Z (wP Z (QD (d:=35) (v':=.bool (y.toNat==95)) (S':=V18 ..) Z Z (Q6W (a:=y.toNat) (b:=95)) (wP Z (wP Z (wP Z (wP Z (Q4 ?_)))))))))))
 have hE:=(Zi hm).symm
 refine Qd (!(y.toNat==95)) hE [3,0,39] Z (asK [] Z) Z
 replace hm:=Qv hm a4
 refine wO Z (wO Z (wO Z (wO Z (wO Z (wO Z (wO Z (wO Z (wO Z (wO Z (wO Z (wO Z (wO Z (wO Z ?_)))))))))))))
 refine wO Z (wP Z (Q4 ?_))
 have hE:=(Zi hm).symm
 refine Qd false hE [3,0,39] Z (asK [] Z) Z
 rintro s hE
 try dsimp only
 have hm:=hLj_3
 try rw [hE] at hm
 refine Qm Z (fun a8=>?_) (fun a8=>?_)
 replace hm:=Qw hm a8
 refine Q2 [] (S':=[]) Z (Q5 (Q1 (wP Z (Q4 (Q3 (Qk (Qa (Q8 (Q8 (Qa (Q8 ?_)))))))))))
 have hE:=(Zi hm).symm
 replace hE:=Qn hLu1 hE
 replace hE:=Qn hLj_1 hE
 replace hE:=hE.symm
 subst hE
 refine Qq (Hr:=[]) [] Tryz.results70 (Qb Z) ⟨Z,Z,Z⟩ (asK [] Z) Z Z (.inl Z)
 replace hm:=Qv hm a8
 refine Q2 [3,0] (S':=[_,_]) Z (Qt (Qf (Q3 (Q1 (wP Z (wP Z ?_))))))
 obtain ⟨aG,hm⟩:=Qz hm
 refine QD (d:=11) (v':=.int .i64 ((h+1:Nat):Int)) (S':=V3 ..) Z Z (Q1f (a:=h) (b:=1) aG) (QS (S':=V3 ..) Z Z Z Z Z (Q4 ?_))
 have hE:=(Zi hm).symm
 replace hE:=QA hLu1 hE
 refine QY (_,h+1) (Nat.lt_succ_self _) hE [3,0] Z (asK [] Z) Z
 replace hm:=Qv hm aB
 refine Q2 [0] (S':=[_]) Z (Q1k (Qo (Qo (QG ?_))))
 have hE:=(Zi hm).symm
 replace hE:=Qn hLu1 hE
 refine Qd () hE [0] Z (asK [] Z) Z
 rintro _ hE
 try dsimp only
 have hm:=QA hLj_1 hE
 try dsimp only at hm
 refine Q5 (Q1 (wP Z (Q3E Z Z Z Zq (Q9s Z Z tT_9) (wP Z (QD (d:=42) (v':=.bool (decide (1≤a0.size))) (S':=V3 ..) Z Z (natge (a:=a0.size) (b:=1)) (wP Z ?_))))))
 refine Qr (d:=43) (S':=V4 ..) Z Z (fun a9=>?_) (fun a9=>?_)
 replace hm:=Qw hm a9
 refine wP Z (Q3E Z Z Z Zq (Q9s Z Z tT_9) (wP Z (QD (d:=46) (v':=.bool (decide (a0.size≤24))) (S':=V7 ..) Z Z (natle (a:=a0.size) (b:=24)) (wP Z (wP Z (Q4 (Q3 (Q2 [2] (S':=[_]) Z (Qk ?_)))))))))
 have hE:=(Zi hm).symm
 replace hE:=hE.symm
 subst hE
 refine Qq (Hr:=[]) [] Tryz.results70 (Qb Z) ⟨Z,Z,Z⟩ (asK [] Z) Z Z (.inl Z)
 replace hm:=Qv hm a9
 refine wO Z (wO Z (wO Z (wP Z (wP Z (Q4 (Q3 (Q2 [2] (S':=[_]) Z (Qk ?_))))))))
 have hE:=(Zi hm).symm
 replace hE:=hE.symm
 subst hE
 refine Qq (Hr:=[]) [] Tryz.results70 (Qb Z) ⟨Z,Z,Z⟩ (asK [] Z) Z Z (.inl Z)
theorem Q6G (N:Nat)(qp0:OA)(qc1:Nat)(l0:List Qg)(a1:Int)(a2:Int)(o0:Bool)(hm:Q2i N l0 a1 a2=some o0):Q1d Tryz.prog 108 [.slice qp0 l0.length qc1,.int .i64 a1,.int .i64 a2] [.sli 2 Qh qp0 qc1 l0] [] (fun v Φr Hr=>v=.bool o0∧Φr=[]∧Hr=[]):=by
 unfold Q2i at hm
 refine QI Tryz.func108 Z Tryz.ntmps108 Z (S:=V3 ..) Z (fun C=>(Q5 (Q1 (wP Z (Q4 (Q3 (Q2 [0,1,2] (S':=V3 ..) Z (Q5 (Q1 (wP Z (wP Z (wP Z ?_))))))))))))
 refine Qr (d:=9) (S':=V5 ..) Z Z (fun hs9=>?_) (fun hs9=>?_)
 replace hm:=Qw hm hs9
 refine wP Z (wP Z (wN Z Q6r (wP Z (wP Z (wP Z ?_)))))
 refine Qr (d:=15) (S':=V11 ..) Z Z (fun hs15=>?_) (fun hs15=>?_)
 replace hm:=Qw hm hs15
 refine wP Z (wP Z ?_)
 obtain ⟨hn18,hm⟩:=Qz hm
 obtain ⟨x18,hx18,hm⟩:=Q7 hm
 refine QT 0 a1.toNat Z Z Z Zq Z Z Z Z (Q1I hn18) hx18 Q6r Q95 (fun b18 q18 cs18 hlx18=>(Q1h Q2A 1 Z (fun r18 er18 _=>?_)))
 subst er18
 refine wF Z Q6K (Q1g 0 1 Z Z Z Zq Z Z Z (cs:=[_]) Z QZ Q15 Z Z (wP Z (wP Z (wP Z (wP Z (Q4 (Q3 (Q2 [6] (S':=[_]) Z (Qk ?_)))))))))
 have hE:=(Zi hm).symm
 replace hE:=hE.symm
 subst hE
 refine Qq (Hr:=[]) [] Tryz.results108 (Qb Z) ⟨Z,Z,Z⟩ (asK [] Z) Z Z (.inl Z)
 replace hm:=Qv hm hs15
 refine wO Z (wO Z (wO Z (wO Z (wO Z (wO Z (wO Z (wP Z (wP Z (Q4 (Q3 (Q2 [6] (S':=[_]) Z (Qk ?_))))))))))))
 have hE:=(Zi hm).symm
 replace hE:=hE.symm
 subst hE
 refine Qq (Hr:=[]) [] Tryz.results108 (Qb Z) ⟨Z,Z,Z⟩ (asK [] Z) Z Z (.inl Z)
 replace hm:=Qv hm hs9
 refine wO Z (wO Z (wO Z (wO Z (wP Z (wP Z (wO Z (wO Z (wO Z (wO Z (wO Z (wO Z (wO Z (wP Z ?_)))))))))))))
 refine wP Z (Q4 (Q3 (Q2 [6] (S':=[_]) Z (Qk ?_))))
 have hE:=(Zi hm).symm
 replace hE:=hE.symm
 subst hE
 refine Qq (Hr:=[]) [] Tryz.results108 (Qb Z) ⟨Z,Z,Z⟩ (asK [] Z) Z Z (.inl Z)
theorem Q9Z (N:Nat)(a0:Int)(a1:Int)(a2:Int)(a3:ByteArray)(a4:Int)(a5:Int)(a8:OA)(a9:Nat)(l6:List Qe)(o0:Bool)(hm:Q3o N a0 a1 a2 a3 a4 a5 l6=some o0):Q1d Tryz.prog 109 [.agg #[.int .u8 a0,.int .u8 a1,.int .i64 a2,.string a3,.int .i64 a4,.int .u8 a5,.slice a8 l6.length a9]] [.sli 7 Qs a8 a9 l6] [] (fun v Φr Hr=>v=.bool o0∧Φr=[]∧Hr=[]):=by
 unfold Q3o at hm
 refine QI Tryz.func109 Z Tryz.ntmps109 Z (S:=[_]) Z (fun C=>(Q5 (Q1 (wB Z (fun g1=>(wP Z (Q4 (Q3 (Q2 [1] (S':=[_]) Z (Q5 (Q1 (Q1F Z Z Z Zq Z Q1Q Q69 Z (out:=V3 ..) Z (Q13 Z Z Z Zq Z Q1Q Z (fun g3=>(wS 0 0 Z QB (all':=V3 ..) Z (H':=[_,_]) Z (Q4 ?_))))))))))))))))
 refine Q3 (Q2 [3,1] (S':=[_,_]) Z (Q5 ?_))
 obtain ⟨aA,hm,hLj_1⟩:=Q7 hm
 unfold Q5B at hm
 refine QF (σ:=Bool) (fun h=>aA=h) (fun h=>[(2,.bool h)]) (fun h=>[]) (fun h=>[]) ?_ ?_
 refine Q1 (wF Z tF_65_0 (wD 1 0 Z tS_61 tA_61 Z (wP Z (wP Z ?_))))
 refine Qr (d:=8) (S':=V5 ..) Z Z (fun a6=>?_) (fun a6=>?_)
 replace hm:=Qw hm a6
 refine wF Z Q92 (QM 1 1 Z Z Z Zq Z Z Z (cs:=V3 ..) Z QB Q1b Z Z (QM 0 0 Z Z Z Zq Z Z Z (cs:=V3 ..) Z QB Q1b Z Z (Q65 Z Z Z Zq Z Z Z (eqlV _ _ (⟨a1,a2,a3⟩ : V) (⟨0,0,(⟨#[]⟩ : ByteArray)⟩ : V)) (wP Z (wP Z ?_)))))
 refine Qr (d:=14) (S':=V11 ..) Z Z (fun s=>?_) (fun s=>?_)
 replace hm:=Qw hm s
 refine wF Z Q5t (wD 1 4 Z QZ Q15 Z (wP Z (wP Z (wP Z ?_))))
 refine Qr (d:=19) (S':=V16 ..) Z Z (fun y=>?_) (fun y=>?_)
 replace hm:=Qw hm y
 refine wF Z Q5g (wD 1 5 Z Q7R Q7P Z (wP Z (wP Z (wP Z ?_))))
 refine Qr (d:=24) (S':=V21 ..) Z Z (fun z=>?_) (fun z=>?_)
 replace hm:=Qw hm z
 refine wF Z Q5S (wD 1 6 Z Q51 Q50 Z (wN Z Q4r (wP Z (QD (d:=28) (v':=.bool (l6.length==0)) (S':=V25 ..) Z Z (Q6W (a:=l6.length) (b:=0)) (wP Z (wP Z (Q4 ?_)))))))
 have hE:=(Zi hm).symm
 refine Qu [] Z (H':=[]) Z ?_
 refine Qd (l6.length==0) hE [2] Z (asK [] Z) Z
 replace hm:=Qv hm z
 refine wO Z (wO Z (wO Z (wO Z (wP Z (wP Z (Q4 ?_))))))
 have hE:=(Zi hm).symm
 refine Qu [] Z (H':=[]) Z ?_
 refine Qd false hE [2] Z (asK [] Z) Z
 replace hm:=Qv hm y
 refine wO Z (wO Z (wO Z (wP Z (wP Z (wO Z (wO Z (wO Z (wO Z (wP Z (wP Z (Q4 ?_)))))))))))
 have hE:=(Zi hm).symm
 refine Qu [] Z (H':=[]) Z ?_
 refine Qd false hE [2] Z (asK [] Z) Z
 replace hm:=Qv hm s
 refine wO Z (wO Z (wO Z (wP Z (wP Z (wO Z (wO Z (wO Z (wP Z (wP Z (wO Z (wO Z (wO Z (wO Z ?_)))))))))))))
 refine wP Z (wP Z (Q4 ?_))
 have hE:=(Zi hm).symm
 refine Qu [] Z (H':=[]) Z ?_
 refine Qd false hE [2] Z (asK [] Z) Z
 replace hm:=Qv hm a6
 refine wO Z (wO Z (wO Z (wO Z (wP Z (wP Z (wO Z (wO Z (wO Z (wP Z (wP Z (wO Z (wO Z (wO Z ?_)))))))))))))
 refine wP Z (wP Z (wO Z (wO Z (wO Z (wO Z (wP Z (wP Z (Q4 ?_))))))))
 have hE:=(Zi hm).symm
 refine Qu [] Z (H':=[]) Z ?_
 refine Qd false hE [2] Z (asK [] Z) Z
 rintro h hE
 try dsimp only
 have hm:=hLj_1
 try rw [hE] at hm
 refine Qk ?_
 have hE:=(Zi hm).symm
 replace hE:=hE.symm
 subst hE
 refine Qq (Hr:=[]) [] Tryz.results109 (Qb Z) ⟨Z,Z,Z⟩ (asK [] Z) Z Z (.inl Z)
theorem Q3s (N:Nat)(a0:Int)(a1:Int)(a2:ByteArray)(o0:Bool)(hm:Q1r N a0 a1 a2=some o0):Q1d Tryz.prog 72 [.agg #[.int .u8 a0,.int .i64 a1,.string a2]] [] [] (fun v Φr Hr=>v=.bool o0∧Φr=[]∧Hr=[]):=by
 unfold Q1r at hm
 refine QI Tryz.func72 Z Tryz.ntmps72 Z (S:=[_]) Z (fun C=>(Q5 (Q1 (wB Z (fun g1=>(wP Z (Q4 (Q3 (Q2 [1] (S':=[_]) Z (Q5 (Q5 (Q1 (wF Z Q9T (wD 0 0 Z tS_55 tA_55 Z (wP Z ?_)))))))))))))))
 refine Q4 (Q3 (Q2 [5,1] (S':=[_,_]) Z ?_))
 refine Qm Z (fun hb5=>?_) (fun hb5=>?_)
 replace hm:=Qw hm hb5
 refine Q2 [1] (S':=[_]) Z (Q5 (Q1 (wF Z tF_57_2 (wD 0 2 Z tS_9 tA_9 Z (wP Z (wP Z (Q4 (Q3 (Q2 [2] (S':=[_]) Z (Qk (Q8 ?_)))))))))))
 have hE:=(Zi hm).symm
 replace hE:=hE.symm
 subst hE
 refine Qq (Hr:=[]) [] Tryz.results72 (Qb Z) ⟨Z,Z,Z⟩ (asK [] Z) Z Z (.inl Z)
 replace hm:=Qv hm hb5
 refine Q2 [1] (S':=[_]) Z (Qt (Q3 (Q5 (Q1 (wF Z Q9T (wD 0 0 Z tS_55 tA_55 Z (wP Z (wP Z ?_))))))))
 refine Qr (d:=12) (S':=V4 ..) Z Z (fun hs12=>?_) (fun hs12=>?_)
 replace hm:=Qw hm hs12
 refine wF Z Q1Z (wD 0 1 Z Q6p Q6n Z (wP Z (wP Z (wP Z ?_))))
 refine Qr (d:=17) (S':=V9 ..) Z Z (fun hs17=>?_) (fun hs17=>?_)
 replace hm:=Qw hm hs17
 refine wF Z tF_57_2 (wD 0 2 Z tS_9 tA_9 Z ?_)
 obtain ⟨v20,hc20,hm⟩:=Q7 hm
 refine wC [] [0] Z fn_70 Z (Q5H N a2 _ hc20) (asK [] Z) Z (H':=[_]) Z ?_
 rintro _ _ _ ⟨rfl,rfl,rfl⟩
 refine wP Z (wP Z (Q4 (Q3 (Q2 [2] (S':=[_]) Z (Qk ?_)))))
 have hE:=(Zi hm).symm
 replace hE:=hE.symm
 subst hE
 refine Qq (Hr:=[]) [] Tryz.results72 (Qb Z) ⟨Z,Z,Z⟩ (asK [] Z) Z Z (.inl Z)
 replace hm:=Qv hm hs17
 refine wO Z (wO Z (wO Z (wP Z (wP Z (Q4 (Q3 (Q2 [2] (S':=[_]) Z (Qk ?_))))))))
 have hE:=(Zi hm).symm
 replace hE:=hE.symm
 subst hE
 refine Qq (Hr:=[]) [] Tryz.results72 (Qb Z) ⟨Z,Z,Z⟩ (asK [] Z) Z Z (.inl Z)
 replace hm:=Qv hm hs12
 refine wO Z (wO Z (wO Z (wP Z (wP Z (wO Z (wO Z (wO Z (wP Z (wP Z (Q4 (Q3 (Q2 [2] (S':=[_]) Z (Qk ?_)))))))))))))
 have hE:=(Zi hm).symm
 replace hE:=hE.symm
 subst hE
 refine Qq (Hr:=[]) [] Tryz.results72 (Qb Z) ⟨Z,Z,Z⟩ (asK [] Z) Z Z (.inl Z)
theorem Qab (N:Nat)(a0:Int)(a1:Int)(a2:Int)(a3:Int)(a4:ByteArray)(a5:Int)(a6:Bool)(o0:Int)(o1:Bool)(hm:Q4y N a0 a1 a2 a3 a4 a5 a6=some (o0,o1)):Q1d Tryz.prog 110 [.agg #[.int .u8 a0,.int .i64 a1,.int .u8 a2,.int .i64 a3,.string a4],.int .i64 a5,.bool a6] [] [] (fun v Φr Hr=>v=.tuple #[.int .i64 o0,.bool o1]∧Φr=[]∧Hr=[]):=by
 unfold Q4y at hm
 refine QI Tryz.func110 Z Tryz.ntmps110 Z (S:=V3 ..) Z (fun C=>(Q5 (Q1 (wB Z (fun g3=>(wP Z (wP Z (Q4 (Q3 (Q2 [3,1,2] (S':=V3 ..) Z (Q5 (Q1 (Q1F Z Z Z Zq Z Q1Q Q69 Z (out:=V3 ..) Z (Q13 Z Z Z Zq Z Q1Q Z (fun g8=>(wS 0 0 Z QB (all':=V3 ..) Z (H':=[_,_]) Z ?_))))))))))))))))
 refine Q4 (Q3 (Q2 [8,3,1,2] (S':=V4 ..) Z (Q5 (Q5 (Q1 (wF Z tF_59_0 (wD 1 0 Z tS_54 tA_54 Z (Q4 (Q3 (Q2 [11,8,3,1,2] (S':=V5 ..) Z (Qx (Q5 (Q1 ?_)))))))))))))
 refine wP Z (wP Z (Q4 (Q3 (Q2 [12,11,8,3,1,2] (S':=V6 ..) Z ?_))))
 refine Qm Z (fun y=>?_) (fun y=>?_)
 replace hm:=Qw hm y
 refine Q2 [8,3,1] (S':=V3 ..) Z (Q5 ?_)
 rcases Q14 hm with ⟨z,hm⟩ | ⟨z,hm⟩
 refine QR [0,1,2,3,4,5,6,7,8,9] Z Z (fun hok=>(xP hok 0 Z (Q9 hok 1 Z Z Z Zq Z Z Z Q2S (Ql hok 2 1 1 Z Z Z Zq Z Z Z Z (cs:=[_]) Z QZ Q15 Z Z (xP hok 3 Z (xP hok 4 Z (Q17 (d:=18) (v':=.bool true) (S':=V7 ..) Z Z (QJ z) (Q9 hok 5 Z Z Z Zq Z Z Z Q91 (Ql hok 6 1 2 Z Z Z Zq Z Z Z Z (cs:=V3 ..) Z QB Q1b Z Z (Ql hok 7 0 0 Z Z Z Zq Z Z Z Z (cs:=V3 ..) Z QB Q1b Z Z (wx_bin hok 8 Z Z Z Zq Z Z Z Z (eqlV _ _ (⟨a2,a3,a4⟩ : V) (⟨0,0,(⟨#[]⟩ : ByteArray)⟩ : V)) (xP hok 9 Z (xS hok 10 Z (wP Z ?_))))))))))))))
 refine Q4 (Q12 [] [0,1,1] Z Z (xS hok 11 Z (wP Z (Q4 (Q12 [] [] Z Z (QO hok Z (Q3 (Q2 [7,6] (S':=[_,_]) Z (Qk (Qa (Q8 ?_)))))))))))
 have hE:=(Zi hm).symm
 obtain ⟨hE0,hE1⟩:=Prod.mk.inj hE
 clear hE
 replace hE0:=hE0.symm
 subst hE0
 replace hE1:=hE1.symm
 subst hE1
 refine QH (Hr:=[]) [] Tryz.results110 (Qb Z) (Qb Z) ⟨Z,Z,Z⟩ (asK [] Z) Z Z (.inl Z)
 refine QR [0,1,2,3,4,5,6,7,8,9] Z Z (fun hok=>(xP hok 0 Z (Q9 hok 1 Z Z Z Zq Z Z Z Q2S (Ql hok 2 1 1 Z Z Z Zq Z Z Z Z (cs:=[_]) Z QZ Q15 Z Z (xP hok 3 Z (xP hok 4 Z (Q17 (d:=18) (v':=.bool false) (S':=V7 ..) Z Z (QJ z) (xO hok 5 Z (xO hok 6 Z (xO hok 7 Z (xO hok 8 Z (xP hok 9 Z (xS hok 10 Z (wP Z ?_))))))))))))))
 refine Q4 (Q12 [] [1] Z Z (xS hok 11 Z (wP Z (Q4 (Q12 [] [] Z Z (QO hok Z (Q3 (Q2 [7,6] (S':=[_,_]) Z (Qk (Qa (Q8 ?_)))))))))))
 have hE:=(Zi hm).symm
 obtain ⟨hE0,hE1⟩:=Prod.mk.inj hE
 clear hE
 replace hE0:=hE0.symm
 subst hE0
 replace hE1:=hE1.symm
 subst hE1
 refine QH (Hr:=[]) [] Tryz.results110 (Qb Z) (Qb Z) ⟨Z,Z,Z⟩ (asK [] Z) Z Z (.inl Z)
 replace hm:=Qv hm y
 refine Q2 [11,8,3,1,2] (S':=V5 ..) Z (Q5 (Q1 (wP Z (wP Z (Q4 (Q3 (Q2 [24,11,8,3,1,2] (S':=V6 ..) Z ?_)))))))
 refine Qm Z (fun a7=>?_) (fun a7=>?_)
 replace hm:=Qw hm a7
 refine Q2 [8,3,1,2] (S':=V4 ..) Z (Q5 ?_)
 obtain ⟨a8,hm⟩:=Qz hm
 rcases Q14 hm with ⟨h,hm⟩ | ⟨h,hm⟩
 rcases Q14 hm with ⟨a9,hm⟩ | ⟨a9,hm⟩
 refine QR [0,1,2,3,4,5,6,7,8,9,10,11,12,13,14] Z Z (fun hok=>(xP hok 0 Z (xP hok 1 Z (Q17 (d:=27) (v':=.int .i64 (a5+1)) (S':=V5 ..) Z Z (i64_in a8) (xP hok 2 Z (xP hok 3 Z (Q17 (d:=29) (v':=.bool true) (S':=V7 ..) Z Z (QJ h) (Q9 hok 4 Z Z Z Zq Z Z Z Q2S (Ql hok 5 1 1 Z Z Z Zq Z Z Z Z (cs:=[_]) Z QZ Q15 Z Z (xP hok 6 Z (xP hok 7 Z (xP hok 8 Z (xP hok 9 Z (Q17 (d:=35) (v':=.bool true) (S':=V13 ..) Z Z (QJ a9) ?_))))))))))))))
 refine Q9 hok 10 Z Z Z Zq Z Z Z Q91 (Ql hok 11 1 2 Z Z Z Zq Z Z Z Z (cs:=V3 ..) Z QB Q1b Z Z (Ql hok 12 0 0 Z Z Z Zq Z Z Z Z (cs:=V3 ..) Z QB Q1b Z Z (wx_bin hok 13 Z Z Z Zq Z Z Z Z (eqlV _ _ (⟨a2,a3,a4⟩ : V) (⟨0,0,(⟨#[]⟩ : ByteArray)⟩ : V)) (xP hok 14 Z (xS hok 15 Z (wP Z (Q4 (Q12 [] [0,1,1] Z Z (xS hok 16 Z (wP Z (Q4 (Q12 [] [] Z Z (QO hok Z ?_)))))))))))))
 refine Q3 (Q2 [7,6] (S':=[_,_]) Z (Qk (Qa (Q8 ?_))))
 have hE:=(Zi hm).symm
 obtain ⟨hE0,hE1⟩:=Prod.mk.inj hE
 clear hE
 replace hE0:=hE0.symm
 subst hE0
 replace hE1:=hE1.symm
 subst hE1
 refine QH (Hr:=[]) [] Tryz.results110 (Qb Z) (Qb Z) ⟨Z,Z,Z⟩ (asK [] Z) Z Z (.inl Z)
 refine QR [0,1,2,3,4,5,6,7,8,9,10,11,12,13,14] Z Z (fun hok=>(xP hok 0 Z (xP hok 1 Z (Q17 (d:=27) (v':=.int .i64 (a5+1)) (S':=V5 ..) Z Z (i64_in a8) (xP hok 2 Z (xP hok 3 Z (Q17 (d:=29) (v':=.bool true) (S':=V7 ..) Z Z (QJ h) (Q9 hok 4 Z Z Z Zq Z Z Z Q2S (Ql hok 5 1 1 Z Z Z Zq Z Z Z Z (cs:=[_]) Z QZ Q15 Z Z (xP hok 6 Z (xP hok 7 Z (xP hok 8 Z (xP hok 9 Z (Q17 (d:=35) (v':=.bool false) (S':=V13 ..) Z Z (QJ a9) ?_))))))))))))))
 refine xO hok 10 Z (xO hok 11 Z (xO hok 12 Z (xO hok 13 Z (xP hok 14 Z (xS hok 15 Z (wP Z (Q4 (Q12 [] [1] Z Z (xS hok 16 Z (wP Z (Q4 (Q12 [] [] Z Z (QO hok Z ?_)))))))))))))
 refine Q3 (Q2 [7,6] (S':=[_,_]) Z (Qk (Qa (Q8 ?_))))
 have hE:=(Zi hm).symm
 obtain ⟨hE0,hE1⟩:=Prod.mk.inj hE
 clear hE
 replace hE0:=hE0.symm
 subst hE0
 replace hE1:=hE1.symm
 subst hE1
 refine QH (Hr:=[]) [] Tryz.results110 (Qb Z) (Qb Z) ⟨Z,Z,Z⟩ (asK [] Z) Z Z (.inl Z)
 refine QR [0,1,2,3,4,5,6,7,8,9,10,11,12,13,14] Z Z (fun hok=>(xP hok 0 Z (xP hok 1 Z (Q17 (d:=27) (v':=.int .i64 (a5+1)) (S':=V5 ..) Z Z (i64_in a8) (xP hok 2 Z (xP hok 3 Z (Q17 (d:=29) (v':=.bool false) (S':=V7 ..) Z Z (QJ h) (xO hok 4 Z (xO hok 5 Z (xO hok 6 Z (xO hok 7 Z (xP hok 8 Z (xP hok 9 Z (xO hok 10 Z ?_))))))))))))))
 refine xO hok 11 Z (xO hok 12 Z (xO hok 13 Z (xP hok 14 Z (xS hok 15 Z (wP Z (Q4 (Q12 [] [] Z Z (xS hok 16 Z (wP Z (Q4 (Q12 [] [] Z Z (QO hok Z (Q3 ?_)))))))))))))
 refine Q2 [7,6] (S':=[_,_]) Z (Qk (Qa (Q8 ?_)))
 have hE:=(Zi hm).symm
 obtain ⟨hE0,hE1⟩:=Prod.mk.inj hE
 clear hE
 replace hE0:=hE0.symm
 subst hE0
 replace hE1:=hE1.symm
 subst hE1
 refine QH (Hr:=[]) [] Tryz.results110 (Qb Z) (Qb Z) ⟨Z,Z,Z⟩ (asK [] Z) Z Z (.inl Z)
 replace hm:=Qv hm a7
 refine Q2 [11,8,3,1] (S':=V4 ..) Z (Q5 (Q1 (wP Z (wP Z (Q4 (Q3 (Q2 [41,8,3,1] (S':=V4 ..) Z ?_)))))))
 refine Qm Z (fun aA=>?_) (fun aA=>?_)
 replace hm:=Qw hm aA
 refine Q2 [8,3,1] (S':=V3 ..) Z (Q5 ?_)
 rcases Q14 hm with ⟨s,hm⟩ | ⟨s,hm⟩
 rcases Q14 hm with ⟨aB,hm⟩ | ⟨aB,hm⟩
 refine QR [0,1,2,3,4,5,6,7,8,9,10,11,12,13,14,15] Z Z (fun hok=>(xP hok 0 Z (Q9 hok 1 Z Z Z Zq Z Z Z Q2S (Ql hok 2 1 1 Z Z Z Zq Z Z Z Z (cs:=[_]) Z QZ Q15 Z Z (xP hok 3 Z (xP hok 4 Z (Q17 (d:=47) (v':=.bool true) (S':=V7 ..) Z Z (QJ s) (Q9 hok 5 Z Z Z Zq Z Z Z Q2S (Ql hok 6 1 1 Z Z Z Zq Z Z Z Z (cs:=[_]) Z QZ Q15 Z Z (xP hok 7 Z (xP hok 8 Z (xP hok 9 Z (xP hok 10 Z (Q17 (d:=53) (v':=.bool true) (S':=V13 ..) Z Z (QJ aB) ?_))))))))))))))
 refine Q9 hok 11 Z Z Z Zq Z Z Z Q91 (Ql hok 12 1 2 Z Z Z Zq Z Z Z Z (cs:=V3 ..) Z QB Q1b Z Z (Ql hok 13 0 0 Z Z Z Zq Z Z Z Z (cs:=V3 ..) Z QB Q1b Z Z (wx_bin hok 14 Z Z Z Zq Z Z Z Z (eqlV _ _ (⟨a2,a3,a4⟩ : V) (⟨0,0,(⟨#[]⟩ : ByteArray)⟩ : V)) (xP hok 15 Z (xS hok 16 Z (wP Z (Q4 (Q12 [] [0,1,1,1] Z Z (xS hok 17 Z (wP Z (Q4 (Q12 [] [] Z Z (QO hok Z ?_)))))))))))))
 refine Q3 (Q2 [7,6] (S':=[_,_]) Z (Qk (Qa (Q8 ?_))))
 have hE:=(Zi hm).symm
 obtain ⟨hE0,hE1⟩:=Prod.mk.inj hE
 clear hE
 replace hE0:=hE0.symm
 subst hE0
 replace hE1:=hE1.symm
 subst hE1
 refine QH (Hr:=[]) [] Tryz.results110 (Qb Z) (Qb Z) ⟨Z,Z,Z⟩ (asK [] Z) Z Z (.inl Z)
 refine QR [0,1,2,3,4,5,6,7,8,9,10,11,12,13,14,15] Z Z (fun hok=>(xP hok 0 Z (Q9 hok 1 Z Z Z Zq Z Z Z Q2S (Ql hok 2 1 1 Z Z Z Zq Z Z Z Z (cs:=[_]) Z QZ Q15 Z Z (xP hok 3 Z (xP hok 4 Z (Q17 (d:=47) (v':=.bool true) (S':=V7 ..) Z Z (QJ s) (Q9 hok 5 Z Z Z Zq Z Z Z Q2S (Ql hok 6 1 1 Z Z Z Zq Z Z Z Z (cs:=[_]) Z QZ Q15 Z Z (xP hok 7 Z (xP hok 8 Z (xP hok 9 Z (xP hok 10 Z (Q17 (d:=53) (v':=.bool false) (S':=V13 ..) Z Z (QJ aB) ?_))))))))))))))
 refine xO hok 11 Z (xO hok 12 Z (xO hok 13 Z (xO hok 14 Z (xP hok 15 Z (xS hok 16 Z (wP Z (Q4 (Q12 [] [1,1] Z Z (xS hok 17 Z (wP Z (Q4 (Q12 [] [] Z Z (QO hok Z ?_)))))))))))))
 refine Q3 (Q2 [7,6] (S':=[_,_]) Z (Qk (Qa (Q8 ?_))))
 have hE:=(Zi hm).symm
 obtain ⟨hE0,hE1⟩:=Prod.mk.inj hE
 clear hE
 replace hE0:=hE0.symm
 subst hE0
 replace hE1:=hE1.symm
 subst hE1
 refine QH (Hr:=[]) [] Tryz.results110 (Qb Z) (Qb Z) ⟨Z,Z,Z⟩ (asK [] Z) Z Z (.inl Z)
 refine QR [0,1,2,3,4,5,6,7,8,9,10,11,12,13,14,15] Z Z (fun hok=>(xP hok 0 Z (Q9 hok 1 Z Z Z Zq Z Z Z Q2S (Ql hok 2 1 1 Z Z Z Zq Z Z Z Z (cs:=[_]) Z QZ Q15 Z Z (xP hok 3 Z (xP hok 4 Z (Q17 (d:=47) (v':=.bool false) (S':=V7 ..) Z Z (QJ s) (xO hok 5 Z (xO hok 6 Z (xO hok 7 Z (xO hok 8 Z (xP hok 9 Z (xP hok 10 Z (xO hok 11 Z ?_))))))))))))))
 refine xO hok 12 Z (xO hok 13 Z (xO hok 14 Z (xP hok 15 Z (xS hok 16 Z (wP Z (Q4 (Q12 [] [1] Z Z (xS hok 17 Z (wP Z (Q4 (Q12 [] [] Z Z (QO hok Z (Q3 ?_)))))))))))))
 refine Q2 [7,6] (S':=[_,_]) Z (Qk (Qa (Q8 ?_)))
 have hE:=(Zi hm).symm
 obtain ⟨hE0,hE1⟩:=Prod.mk.inj hE
 clear hE
 replace hE0:=hE0.symm
 subst hE0
 replace hE1:=hE1.symm
 subst hE1
 refine QH (Hr:=[]) [] Tryz.results110 (Qb Z) (Qb Z) ⟨Z,Z,Z⟩ (asK [] Z) Z Z (.inl Z)
 replace hm:=Qv hm aA
 refine Q2 [3,1] (S':=[_,_]) Z (Qt (Qf (Q3 (Q5 (Q1 (wP Z (wF Z tF_59_0 (wD 1 0 Z tS_54 tA_54 Z (wP Z (wP Z ?_))))))))))
 refine Qr (d:=63) (S':=V6 ..) Z Z (fun aC=>?_) (fun aC=>?_)
 replace hm:=Qw hm aC
 refine wF Z Q2S (wD 1 1 Z QZ Q15 Z (wP Z (wP Z (wP Z ?_))))
 refine Qr (d:=68) (S':=V11 ..) Z Z (fun aD=>?_) (fun aD=>?_)
 replace hm:=Qw hm aD
 refine wF Z Q91 (QM 1 2 Z Z Z Zq Z Z Z (cs:=V3 ..) Z QB Q1b Z Z ?_)
 obtain ⟨aO,aI,hm⟩:=Q7 hm
 refine wC [] [0,1] Z fn_72 Z (Q3s N a2 a3 a4 _ aI) (asK [] Z) Z (H':=[_,_]) Z ?_
 rintro _ _ _ ⟨rfl,rfl,rfl⟩
 refine wP Z (wP Z (wP Z (Q4 (Q3 (Q2 [7,6] (S':=[_,_]) Z (Qk ?_))))))
 have hE:=(Zi hm).symm
 obtain ⟨hE0,hE1⟩:=Prod.mk.inj hE
 clear hE
 replace hE0:=hE0.symm
 subst hE0
 replace hE1:=hE1.symm
 subst hE1
 refine QH (Hr:=[]) [] Tryz.results110 (Qb Z) (Qb Z) ⟨Z,Z,Z⟩ (asK [] Z) Z Z (.inl Z)
 replace hm:=Qv hm aD
 refine wO Z (wO Z (wO Z (wP Z (wP Z (wP Z (Q4 (Q3 (Q2 [7,6] (S':=[_,_]) Z (Qk ?_)))))))))
 have hE:=(Zi hm).symm
 obtain ⟨hE0,hE1⟩:=Prod.mk.inj hE
 clear hE
 replace hE0:=hE0.symm
 subst hE0
 replace hE1:=hE1.symm
 subst hE1
 refine QH (Hr:=[]) [] Tryz.results110 (Qb Z) (Qb Z) ⟨Z,Z,Z⟩ (asK [] Z) Z Z (.inl Z)
 replace hm:=Qv hm aC
 refine wO Z (wO Z (wO Z (wP Z (wP Z (wO Z (wO Z (wO Z (wP Z (wP Z (wP Z (Q4 (Q3 (Q2 [7,6] (S':=[_,_]) Z ?_)))))))))))))
 refine Qk ?_
 have hE:=(Zi hm).symm
 obtain ⟨hE0,hE1⟩:=Prod.mk.inj hE
 clear hE
 replace hE0:=hE0.symm
 subst hE0
 replace hE1:=hE1.symm
 subst hE1
 refine QH (Hr:=[]) [] Tryz.results110 (Qb Z) (Qb Z) ⟨Z,Z,Z⟩ (asK [] Z) Z Z (.inl Z)
theorem Q8E (N:Nat)(rc:Int→Int→Int→ByteArray→Int→Int→(List Qe)→Int→Option (Bool))(ih : ∀ (a0:Int)(a1:Int)(a2:Int)(a3:ByteArray)(a4:Int)(a5:Int)(y:OA)(z:Nat)(l6:List Qe)(a7:Int)(o0:Bool),rc a0 a1 a2 a3 a4 a5 l6 a7=some o0→Q1d Tryz.prog 111 [.agg #[.int .u8 a0,.int .u8 a1,.int .i64 a2,.string a3,.int .i64 a4,.int .u8 a5,.slice y l6.length z],.int .i64 a7] [.sli 7 Qs y z l6] [] (fun v Φr Hr=>v=.bool o0∧Φr=[]∧Hr=[]))(y:OA)(z:Nat)(l0:List Qe)(a1:Int)(o0:Bool)(hm:Q3c N rc l0 a1=some o0):Q1d Tryz.prog 112 [.slice y l0.length z,.int .i64 a1] [.sli 7 Qs y z l0] [] (fun v Φr Hr=>v=.bool o0∧Φr=[]∧Hr=[]):=by
 unfold Q3c at hm
 refine QI Tryz.func112 Z Tryz.ntmps112 Z (S:=[_,_]) Z (fun C=>(Q5 (Q1 (wP Z (Q4 (Q3 (Q2 [0,1] (S':=[_,_]) Z (Q5 ?_))))))))
 obtain ⟨aC,hm,hLj_1⟩:=QN hm
 refine QF (σ:=Unit) (fun _=>aC=.inl ()) (fun _=>[]) (fun _=>[]) (fun _=>[]) ?_ ?_
 refine Q5 (Q1 (wP Z (Q4 (Q3 (Qx (Q1o (σ:=Nat×Nat) (fun (a6,h)=>Q19 (Q2C N l0 rc a1) a6 h=some aC) (fun (a6,h)=>a6) (fun (a6,h)=>[(5,.int .i64 ((h:Nat):Int)),(0,.slice y l0.length z),(1,.int .i64 a1)]) (fun (a6,h)=>[.sli 7 Qs y z l0]) (fun (a6,h)=>[]) (N,0) hm [5,0,1] Z (asK [0] Z) Z (fun s_ hm=>?_)))))))
 obtain ⟨a6,h⟩:=s_
 try dsimp only at hm ⊢
 obtain ⟨aU,aV,aF,hq,hLu1⟩:=Q10 hm
 clear hm
 subst aF
 replace hm:=hq
 clear hq
 unfold Q2C at hm
 try dsimp only at hm
 refine Q5 (Q5 (Q1 (wP Z (wP Z (wN Z Q4r (wP Z (QD (d:=9) (v':=.bool (decide (h < l0.length))) (S':=V6 ..) Z Z (Q2E (a:=h) (b:=l0.length)) (Q4 (Q3 (Q2 [9,5,0,1] (S':=V4 ..) Z ?_))))))))))
 refine Qm Z (fun aD=>?_) (fun aD=>?_)
 replace hm:=Qw hm aD
 refine Q2 [5,0,1] (S':=V3 ..) Z (Qt (Q3 (Q5 (Qx (Q5 (Q1 (wP Z (wP Z ?_))))))))
 obtain ⟨a8,aG,hm⟩:=Q7 hm
 refine QT 0 h Z Z Z Zq Z Z Z Z Z aG Q4r Q52 (fun aW aX aT aM=>(Q1h Q30 1 Z (fun aH aI _=>?_)))
 subst aI
 refine Q1g 1 0 Z Z Z Zq Z Z Z (cs:=V7 ..) Z Q52 Q6E Z Z (wP Z ?_)
 obtain ⟨aY,aJ,hm⟩:=Q7 hm
 refine wC [] [] Z fn_111 Z (ih a8.kind a8.value.k a8.value.n a8.value.s a8.var a8.op aH.1 aH.2 a8.kids a1 _ aJ) (asK [0] Z) Z (H':=[]) Z ?_
 rintro _ _ _ ⟨rfl,rfl,rfl⟩
 refine wP Z (Q4 (Q3 (Q2 [18,5,0,1] (S':=V4 ..) Z ?_)))
 refine Qm Z (fun a9=>?_) (fun a9=>?_)
 replace hm:=Qw hm a9
 refine Q2 [] (S':=[]) Z (Q5 (Q1 (wP Z (Q4 (Q3 (Qk (Qa (Q8 (Q8 (Qa (Q8 ?_)))))))))))
 have hE:=(Zi hm).symm
 replace hE:=Qn hLu1 hE
 replace hE:=Qn hLj_1 hE
 replace hE:=hE.symm
 subst hE
 refine Qq (Hr:=[]) [] Tryz.results112 (Qb Z) ⟨Z,Z,Z⟩ (asK [] Z) Z Z (.inl Z)
 replace hm:=Qv hm a9
 refine Q2 [5,0,1] (S':=V3 ..) Z (Qt (Qf (Q3 (Q1 (wP Z (wP Z ?_))))))
 obtain ⟨aK,hm⟩:=Qz hm
 refine QD (d:=11) (v':=.int .i64 ((h+1:Nat):Int)) (S':=V4 ..) Z Z (Q1f (a:=h) (b:=1) aK) (QS (S':=V4 ..) Z Z Z Z Z (Q4 ?_))
 have hE:=(Zi hm).symm
 replace hE:=QA hLu1 hE
 refine QY (_,h+1) (Nat.lt_succ_self _) hE [5,0,1] Z (asK [3] Z) Z
 replace hm:=Qv hm aD
 refine Q2 [] (S':=[]) Z (Q1k (Qo (Qo (QG ?_))))
 have hE:=(Zi hm).symm
 replace hE:=Qn hLu1 hE
 refine Qd () hE [] Z (asK [] Z) Z
 rintro _ hE
 try dsimp only
 have hm:=QA hLj_1 hE
 try dsimp only at hm
 refine Q5 (Q1 (wP Z (Q4 (Q3 (Qk ?_)))))
 have hE:=(Zi hm).symm
 replace hE:=hE.symm
 subst hE
 refine Qq (Hr:=[]) [] Tryz.results112 (Qb Z) ⟨Z,Z,Z⟩ (asK [] Z) Z Z (.inl Z)
theorem Q9f (N:Nat)(rc:Int→Int→Int→ByteArray→Int→Int→(List Qe)→Int→Option (Bool))(ih : ∀ (a0:Int)(a1:Int)(a2:Int)(a3:ByteArray)(a4:Int)(a5:Int)(a8:OA)(a9:Nat)(l6:List Qe)(a7:Int)(o0:Bool),rc a0 a1 a2 a3 a4 a5 l6 a7=some o0→Q1d Tryz.prog 111 [.agg #[.int .u8 a0,.int .u8 a1,.int .i64 a2,.string a3,.int .i64 a4,.int .u8 a5,.slice a8 l6.length a9],.int .i64 a7] [.sli 7 Qs a8 a9 l6] [] (fun v Φr Hr=>v=.bool o0∧Φr=[]∧Hr=[]))(a0:Int)(a1:Int)(a2:Int)(a3:ByteArray)(a4:Int)(a5:Int)(a8:OA)(a9:Nat)(l6:List Qe)(a7:Int)(o0:Bool)(hm:Q3w N rc a0 a1 a2 a3 a4 a5 l6 a7=some o0):Q1d Tryz.prog 111 [.agg #[.int .u8 a0,.int .u8 a1,.int .i64 a2,.string a3,.int .i64 a4,.int .u8 a5,.slice a8 l6.length a9],.int .i64 a7] [.sli 7 Qs a8 a9 l6] [] (fun v Φr Hr=>v=.bool o0∧Φr=[]∧Hr=[]):=by
 unfold Q3w at hm
 refine QI Tryz.func111 Z Tryz.ntmps111 Z (S:=[_,_]) Z (fun C=>(Q5 (Q1 (wB Z (fun g2=>(wP Z (Q4 (Q3 (Q2 [2,1] (S':=[_,_]) Z (Q5 (Q1 (Q1F Z Z Z Zq Z Q1Q Q69 Z (out:=V3 ..) Z (Q13 Z Z Z Zq Z Q1Q Z (fun g5=>(wS 0 0 Z QB (all':=V3 ..) Z (H':=[_,_]) Z (Q4 ?_))))))))))))))))
 refine Q3 (Q2 [5,2,1] (S':=V3 ..) Z (Q5 (Q5 (Q1 (wF Z tF_65_0 (wD 1 0 Z tS_61 tA_61 Z (Q4 (Q3 (Q2 [9,5,2,1] (S':=V4 ..) Z (Qx (Q5 (Q1 (wP Z ?_)))))))))))))
 refine wP Z (Q4 (Q3 (Q2 [10,9,5,2,1] (S':=V5 ..) Z ?_)))
 refine Qm Z (fun aB=>?_) (fun aB=>?_)
 replace hm:=Qw hm aB
 refine Q2 [2] (S':=[_]) Z (Q5 ?_)
 obtain ⟨b0,hm,hLj_1⟩:=Q7 hm
 unfold Q5y at hm
 refine QF (σ:=Bool) (fun y=>b0=y) (fun y=>[(4,.bool y)]) (fun y=>[]) (fun y=>[]) ?_ ?_
 refine Q1 (wF Z Q92 (QM 1 1 Z Z Z Zq Z Z Z (cs:=V3 ..) Z QB Q1b Z Z ?_))
 obtain ⟨bA,b1,hm⟩:=Q7 hm
 refine wC [] [0,1] Z fn_72 Z (Q3s N a1 a2 a3 _ b1) (asK [] Z) Z (H':=[_,_]) Z ?_
 rintro _ _ _ ⟨rfl,rfl,rfl⟩
 refine wP Z ?_
 refine Qr (d:=15) (S':=V4 ..) Z Z (fun aC=>?_) (fun aC=>?_)
 replace hm:=Qw hm aC
 refine wF Z Q5t (wD 1 4 Z QZ Q15 Z (wP Z (wP Z (wP Z ?_))))
 refine Qr (d:=20) (S':=V9 ..) Z Z (fun aD=>?_) (fun aD=>?_)
 replace hm:=Qw hm aD
 refine wF Z Q5g (wD 1 5 Z Q7R Q7P Z (wP Z (wP Z (wP Z ?_))))
 refine Qr (d:=25) (S':=V14 ..) Z Z (fun aE=>?_) (fun aE=>?_)
 replace hm:=Qw hm aE
 refine wF Z Q5S (wD 1 6 Z Q51 Q50 Z (wN Z Q4r (wP Z (QD (d:=29) (v':=.bool (l6.length==0)) (S':=V18 ..) Z Z (Q6W (a:=l6.length) (b:=0)) (wP Z (wP Z (Q4 ?_)))))))
 have hE:=(Zi hm).symm
 refine Qu [] Z (H':=[]) Z ?_
 refine Qd (l6.length==0) hE [4] Z (asK [] Z) Z
 replace hm:=Qv hm aE
 refine wO Z (wO Z (wO Z (wO Z (wP Z (wP Z (Q4 ?_))))))
 have hE:=(Zi hm).symm
 refine Qu [] Z (H':=[]) Z ?_
 refine Qd false hE [4] Z (asK [] Z) Z
 replace hm:=Qv hm aD
 refine wO Z (wO Z (wO Z (wP Z (wP Z (wO Z (wO Z (wO Z (wO Z (wP Z (wP Z (Q4 ?_)))))))))))
 have hE:=(Zi hm).symm
 refine Qu [] Z (H':=[]) Z ?_
 refine Qd false hE [4] Z (asK [] Z) Z
 replace hm:=Qv hm aC
 refine wO Z (wO Z (wO Z (wP Z (wP Z (wO Z (wO Z (wO Z (wP Z (wP Z (wO Z (wO Z (wO Z (wO Z ?_)))))))))))))
 refine wP Z (wP Z (Q4 ?_))
 have hE:=(Zi hm).symm
 refine Qu [] Z (H':=[]) Z ?_
 refine Qd false hE [4] Z (asK [] Z) Z
 rintro y hE
 try dsimp only
 have hm:=hLj_1
 try rw [hE] at hm
 refine Qk (Qa (Q8 ?_))
 have hE:=(Zi hm).symm
 replace hE:=hE.symm
 subst hE
 refine Qq (Hr:=[]) [] Tryz.results111 (Qb Z) ⟨Z,Z,Z⟩ (asK [] Z) Z Z (.inl Z)
 replace hm:=Qv hm aB
 refine Q2 [9,5,2,1] (S':=V4 ..) Z (Q5 (Q1 (wP Z (wP Z (Q4 (Q3 (Q2 [31,9,5,2,1] (S':=V5 ..) Z ?_)))))))
 refine Qm Z (fun aF=>?_) (fun aF=>?_)
 replace hm:=Qw hm aF
 refine Q2 [5,2,1] (S':=V3 ..) Z (Q5 ?_)
 obtain ⟨b2,hm,hLj_2⟩:=Q7 hm
 unfold Q5z at hm
 refine QF (σ:=Bool) (fun z=>b2=z) (fun z=>[(4,.bool z)]) (fun z=>[]) (fun z=>[]) ?_ ?_
 refine Q1 (wF Z Q92 (QM 1 1 Z Z Z Zq Z Z Z (cs:=V3 ..) Z QB Q1b Z Z (QM 0 0 Z Z Z Zq Z Z Z (cs:=V3 ..) Z QB Q1b Z Z (Q65 Z Z Z Zq Z Z Z (eqlV _ _ (⟨a1,a2,a3⟩ : V) (⟨0,0,(⟨#[]⟩ : ByteArray)⟩ : V)) (wP Z ?_)))))
 refine Qr (d:=37) (S':=V7 ..) Z Z (fun aG=>?_) (fun aG=>?_)
 replace hm:=Qw hm aG
 refine wF Z Q5t (wD 1 4 Z QZ Q15 Z (wP Z (wP Z (wP Z ?_))))
 refine Qr (d:=42) (S':=V12 ..) Z Z (fun aH=>?_) (fun aH=>?_)
 replace hm:=Qw hm aH
 refine wF Z Q5t (wD 1 4 Z QZ Q15 Z (wP Z (wP Z (wP Z (wP Z ?_)))))
 refine Qr (d:=48) (S':=V18 ..) Z Z (fun aI=>?_) (fun aI=>?_)
 replace hm:=Qw hm aI
 refine wF Z Q5g (wD 1 5 Z Q7R Q7P Z (wP Z (wP Z (wP Z ?_))))
 refine Qr (d:=53) (S':=V23 ..) Z Z (fun aJ=>?_) (fun aJ=>?_)
 replace hm:=Qw hm aJ
 refine wF Z Q5S (wD 1 6 Z Q51 Q50 Z (wN Z Q4r (wP Z (QD (d:=57) (v':=.bool (l6.length==0)) (S':=V27 ..) Z Z (Q6W (a:=l6.length) (b:=0)) (wP Z (wP Z (Q4 ?_)))))))
 have hE:=(Zi hm).symm
 refine Qu [] Z (H':=[]) Z ?_
 refine Qd (l6.length==0) hE [4] Z (asK [] Z) Z
 replace hm:=Qv hm aJ
 refine wO Z (wO Z (wO Z (wO Z (wP Z (wP Z (Q4 ?_))))))
 have hE:=(Zi hm).symm
 refine Qu [] Z (H':=[]) Z ?_
 refine Qd false hE [4] Z (asK [] Z) Z
 replace hm:=Qv hm aI
 refine wO Z (wO Z (wO Z (wP Z (wP Z (wO Z (wO Z (wO Z (wO Z (wP Z (wP Z (Q4 ?_)))))))))))
 have hE:=(Zi hm).symm
 refine Qu [] Z (H':=[]) Z ?_
 refine Qd false hE [4] Z (asK [] Z) Z
 replace hm:=Qv hm aH
 refine wO Z (wO Z (wO Z (wO Z (wP Z (wP Z (wO Z (wO Z (wO Z (wP Z (wP Z (wO Z (wO Z (wO Z ?_)))))))))))))
 refine wO Z (wP Z (wP Z (Q4 ?_)))
 have hE:=(Zi hm).symm
 refine Qu [] Z (H':=[]) Z ?_
 refine Qd false hE [4] Z (asK [] Z) Z
 replace hm:=Qv hm aG
 refine wO Z (wO Z (wO Z (wP Z (wP Z (wO Z (wO Z (wO Z (wO Z (wP Z (wP Z (wO Z (wO Z (wO Z ?_)))))))))))))
 refine wP Z (wP Z (wO Z (wO Z (wO Z (wO Z (wP Z (wP Z (Q4 ?_))))))))
 have hE:=(Zi hm).symm
 refine Qu [] Z (H':=[]) Z ?_
 refine Qd false hE [4] Z (asK [] Z) Z
 rintro z hE
 try dsimp only
 have hm:=hLj_2
 try rw [hE] at hm
 refine Qk (Qa (Q8 ?_))
 have hE:=(Zi hm).symm
 replace hE:=hE.symm
 subst hE
 refine Qq (Hr:=[]) [] Tryz.results111 (Qb Z) ⟨Z,Z,Z⟩ (asK [] Z) Z Z (.inl Z)
 replace hm:=Qv hm aF
 refine Q2 [9,5,2,1] (S':=V4 ..) Z (Q5 (Q1 (wP Z (wP Z (Q4 (Q3 (Q2 [59,5,2,1] (S':=V4 ..) Z ?_)))))))
 refine Qm Z (fun aK=>?_) (fun aK=>?_)
 replace hm:=Qw hm aK
 refine Q2 [5,2,1] (S':=V3 ..) Z (Q5 (Q1 (wP Z (Q4 (Q3 (Q5 ?_))))))
 obtain ⟨b3,hm,hLj_3⟩:=Q7 hm
 unfold Q4h at hm
 refine QF (σ:=Nat) (fun h=>b3=h) (fun h=>[(5,.pointer (some ⟨g5,0,none⟩)),(2,.pointer (some ⟨g2,0,none⟩)),(1,.int .i64 a7),(6,.int .i64 ((h:Nat):Int))]) (fun h=>[.sli 7 Qs a8 a9 l6]) (fun h=>[.blk g5 [.int .u8 0,.int .i64 0,.string ((⟨#[]⟩ : ByteArray))] 57,.blk g2 [.int .u8 a0,.int .u8 a1,.int .i64 a2,.string a3,.int .i64 a4,.int .u8 a5,.slice a8 l6.length a9] 65]) ?_ ?_
 refine Q5 ?_
 obtain ⟨b4,hm,hLj_4⟩:=Q7 hm
 refine QF (σ:=Bool) (fun s=>b4=s) (fun s=>[(5,.pointer (some ⟨g5,0,none⟩)),(2,.pointer (some ⟨g2,0,none⟩)),(1,.int .i64 a7),(6,.int .i64 2),(68,.bool s)]) (fun s=>[.sli 7 Qs a8 a9 l6]) (fun s=>[.blk g5 [.int .u8 0,.int .i64 0,.string ((⟨#[]⟩ : ByteArray))] 57,.blk g2 [.int .u8 a0,.int .u8 a1,.int .i64 a2,.string a3,.int .i64 a4,.int .u8 a5,.slice a8 l6.length a9] 65]) ?_ ?_
 refine Q1 (wF Z Q5g (wD 1 5 Z Q7R Q7P Z (wP Z (wP Z ?_))))
 refine Qr (d:=64) (S':=V7 ..) Z Z (fun aL=>?_) (fun aL=>?_)
 replace hm:=Qw hm aL
 refine wO Z (wO Z (wO Z (wP Z (Q4 ?_))))
 have hE:=(Zi hm).symm
 refine Qd true hE [5,2,1,6,68] Z (asK [0] Z) Z
 replace hm:=Qv hm aL
 refine wF Z Q5g (wD 1 5 Z Q7R Q7P Z (wP Z (wP Z (Q4 ?_))))
 have hE:=(Zi hm).symm
 refine Qd (a5==11) hE [5,2,1,6,68] Z (asK [0] Z) Z
 rintro s hE
 try dsimp only
 have hm:=hLj_4
 try rw [hE] at hm
 refine Qm Z (fun aM=>?_) (fun aM=>?_)
 replace hm:=Qw hm aM
 refine Q2 [5,2,1] (S':=V3 ..) Z (Q1 (wP Z (Q4 ?_)))
 have hE:=(Zi hm).symm
 refine Qd 1 hE [5,2,1,6] Z (asK [0] Z) Z
 replace hm:=Qv hm aM
 refine Q2 [5,2,1,6] (S':=V4 ..) Z (Qt ?_)
 have hE:=(Zi hm).symm
 refine Qd 2 hE [5,2,1,6] Z (asK [0] Z) Z
 rintro h hE
 try dsimp only
 have hm:=hLj_3
 try rw [hE] at hm
 refine Q5 ?_
 obtain ⟨b5,hm,hLj_5⟩:=Q7 hm
 unfold Q5A at hm
 refine QF (σ:=Bool) (fun a6=>b5=a6) (fun a6=>[(4,.bool a6)]) (fun a6=>[]) (fun a6=>[]) ?_ ?_
 refine Q1 (wF Z Q92 (QM 1 1 Z Z Z Zq Z Z Z (cs:=V3 ..) Z QB Q1b Z Z (QM 0 0 Z Z Z Zq Z Z Z (cs:=V3 ..) Z QB Q1b Z Z (Q65 Z Z Z Zq Z Z Z (eqlV _ _ (⟨a1,a2,a3⟩ : V) (⟨0,0,(⟨#[]⟩ : ByteArray)⟩ : V)) (wP Z ?_)))))
 refine Qr (d:=73) (S':=V8 ..) Z Z (fun aN=>?_) (fun aN=>?_)
 replace hm:=Qw hm aN
 refine wF Z Q5t (wD 1 4 Z QZ Q15 Z (wP Z (wP Z (wP Z ?_))))
 refine Qr (d:=78) (S':=V13 ..) Z Z (fun aO=>?_) (fun aO=>?_)
 replace hm:=Qw hm aO
 refine wF Z Q5g (wD 1 5 Z Q7R Q7P Z (wP Z (wP Z (wP Z ?_))))
 refine Qr (d:=83) (S':=V18 ..) Z Z (fun aP=>?_) (fun aP=>?_)
 replace hm:=Qw hm aP
 refine wF Z Q5g (wD 1 5 Z Q7R Q7P Z (wP Z (wP Z (wP Z ?_))))
 refine Qr (d:=88) (S':=V23 ..) Z Z (fun aQ=>?_) (fun aQ=>?_)
 replace hm:=Qw hm aQ
 refine wF Z Q5S (wD 1 6 Z Q51 Q50 Z (wN Z Q4r (wP Z (wP Z (QD (d:=93) (v':=.bool (l6.length==h)) (S':=V28 ..) Z Z (Q6W (a:=l6.length) (b:=h)) (wP Z (wP Z ?_)))))))
 refine Qr (d:=95) (S':=V30 ..) Z Z (fun aR=>?_) (fun aR=>?_)
 replace hm:=Qw hm aR
 refine wF Z Q5S (wD 1 6 Z Q51 Q50 Z (wP Z ?_))
 obtain ⟨b9,b6,hm⟩:=Q7 hm
 refine wC [] [0,1] Z fn_112 Z (Q8E N rc ih a8 a9 l6 a7 _ b6) (asK [0] Z) Z (H':=[_,_]) Z ?_
 rintro _ _ _ ⟨rfl,rfl,rfl⟩
 refine wP Z (wP Z (Q4 ?_))
 have hE:=(Zi hm).symm
 refine Qu [] Z (H':=[]) Z ?_
 refine Qd b9 hE [4] Z (asK [] Z) Z
 replace hm:=Qv hm aR
 refine wO Z (wO Z (wO Z (wO Z (wP Z (wP Z (Q4 ?_))))))
 have hE:=(Zi hm).symm
 refine Qu [] Z (H':=[]) Z ?_
 refine Qd false hE [4] Z (asK [] Z) Z
 replace hm:=Qv hm aQ
 refine wO Z (wO Z (wO Z (wO Z (wO Z (wP Z (wP Z (wO Z (wO Z (wO Z (wO Z (wP Z (wP Z (Q4 ?_)))))))))))))
 have hE:=(Zi hm).symm
 refine Qu [] Z (H':=[]) Z ?_
 refine Qd false hE [4] Z (asK [] Z) Z
 replace hm:=Qv hm aP
 refine wO Z (wO Z (wO Z (wP Z (wP Z (wO Z (wO Z (wO Z (wO Z (wO Z (wP Z (wP Z (wO Z (wO Z ?_)))))))))))))
 refine wO Z (wO Z (wP Z (wP Z (Q4 ?_))))
 have hE:=(Zi hm).symm
 refine Qu [] Z (H':=[]) Z ?_
 refine Qd false hE [4] Z (asK [] Z) Z
 replace hm:=Qv hm aO
 refine wO Z (wO Z (wO Z (wP Z (wP Z (wO Z (wO Z (wO Z (wP Z (wP Z (wO Z (wO Z (wO Z (wO Z ?_)))))))))))))
 refine wO Z (wP Z (wP Z (wO Z (wO Z (wO Z (wO Z (wP Z (wP Z (Q4 ?_)))))))))
 have hE:=(Zi hm).symm
 refine Qu [] Z (H':=[]) Z ?_
 refine Qd false hE [4] Z (asK [] Z) Z
 replace hm:=Qv hm aN
 refine wO Z (wO Z (wO Z (wP Z (wP Z (wO Z (wO Z (wO Z (wP Z (wP Z (wO Z (wO Z (wO Z (wP Z ?_)))))))))))))
 refine wP Z (wO Z (wO Z (wO Z (wO Z (wO Z (wP Z (wP Z (wO Z (wO Z (wO Z (wO Z (wP Z (wP Z ?_)))))))))))))
 refine Q4 ?_
 have hE:=(Zi hm).symm
 refine Qu [] Z (H':=[]) Z ?_
 refine Qd false hE [4] Z (asK [] Z) Z
 rintro a6 hE
 try dsimp only
 have hm:=hLj_5
 try rw [hE] at hm
 refine Qk (Qa (Q8 ?_))
 have hE:=(Zi hm).symm
 replace hE:=hE.symm
 subst hE
 refine Qq (Hr:=[]) [] Tryz.results111 (Qb Z) ⟨Z,Z,Z⟩ (asK [] Z) Z Z (.inl Z)
 replace hm:=Qv hm aK
 refine Q2 [] (S':=[]) Z (Qt (Qf (Q3 (Q5 (Q1 (wP Z (Q4 (Q3 (Qk ?_)))))))))
 have hE:=(Zi hm).symm
 replace hE:=hE.symm
 subst hE
 refine Qq (Hr:=[]) [] Tryz.results111 (Qb Z) ⟨Z,Z,Z⟩ (asK [] Z) Z Z (.inl Z)
theorem Q7o : ∀ (N:Nat),∀ (a0:Int)(a1:Int)(a2:Int)(a3:ByteArray)(a4:Int)(a5:Int)(qp0:OA)(qc1:Nat)(l6:List Qe)(a7:Int)(o0:Bool),Q2c N a0 a1 a2 a3 a4 a5 l6 a7=some o0→Q1d Tryz.prog 111 [.agg #[.int .u8 a0,.int .u8 a1,.int .i64 a2,.string a3,.int .i64 a4,.int .u8 a5,.slice qp0 l6.length qc1],.int .i64 a7] [.sli 7 Qs qp0 qc1 l6] [] (fun v Φr Hr=>v=.bool o0∧Φr=[]∧Hr=[]):=by
 intro N
 induction N with
 | zero=>intro a0 a1 a2 a3 a4 a5 qp0 qc1 l6 a7 o0 hm;cases hm
 | succ N ih=>intro a0 a1 a2 a3 a4 a5 qp0 qc1 l6 a7 o0 hm;exact Q9f N (Q2c N) ih a0 a1 a2 a3 a4 a5 qp0 qc1 l6 a7 o0 hm
theorem Q72 (N:Nat)(a2:OA)(a3:Nat)(l0:List Qe)(a1:Int)(o0:Bool)(hm:Q35 N l0 a1=some o0):Q1d Tryz.prog 112 [.slice a2 l0.length a3,.int .i64 a1] [.sli 7 Qs a2 a3 l0] [] (fun v Φr Hr=>v=.bool o0∧Φr=[]∧Hr=[]):=by
 unfold Q35 at hm
 refine QI Tryz.func112 Z Tryz.ntmps112 Z (S:=[_,_]) Z (fun C=>(Q5 (Q1 (wP Z (Q4 (Q3 (Q2 [0,1] (S':=[_,_]) Z (Q5 ?_))))))))
 obtain ⟨a5,hm,hLj_1⟩:=QN hm
 refine QF (σ:=Unit) (fun _=>a5=.inl ()) (fun _=>[]) (fun _=>[]) (fun _=>[]) ?_ ?_
 refine Q5 (Q1 (wP Z (Q4 (Q3 (Qx (Q1o (σ:=Nat×Nat) (fun (y,h)=>Q19 (Q3b N l0 a1) y h=some a5) (fun (y,h)=>y) (fun (y,h)=>[(5,.int .i64 ((h:Nat):Int)),(0,.slice a2 l0.length a3),(1,.int .i64 a1)]) (fun (y,h)=>[.sli 7 Qs a2 a3 l0]) (fun (y,h)=>[]) (N,0) hm [5,0,1] Z (asK [0] Z) Z (fun s_ hm=>?_)))))))
 obtain ⟨y,h⟩:=s_
 try dsimp only at hm ⊢
 obtain ⟨aH,aI,a8,hq,hLu1⟩:=Q10 hm
 clear hm
 subst a8
 replace hm:=hq
 clear hq
 unfold Q3b at hm
 try dsimp only at hm
 refine Q5 (Q5 (Q1 (wP Z (wP Z (wN Z Q4r (wP Z (QD (d:=9) (v':=.bool (decide (h < l0.length))) (S':=V6 ..) Z Z (Q2E (a:=h) (b:=l0.length)) (Q4 (Q3 (Q2 [9,5,0,1] (S':=V4 ..) Z ?_))))))))))
 refine Qm Z (fun a6=>?_) (fun a6=>?_)
 replace hm:=Qw hm a6
 refine Q2 [5,0,1] (S':=V3 ..) Z (Qt (Q3 (Q5 (Qx (Q5 (Q1 (wP Z (wP Z ?_))))))))
 obtain ⟨z,a9,hm⟩:=Q7 hm
 refine QT 0 h Z Z Z Zq Z Z Z Z Z a9 Q4r Q52 (fun aJ aK aG aE=>(Q1h Q30 1 Z (fun aA aB _=>?_)))
 subst aB
 refine Q1g 1 0 Z Z Z Zq Z Z Z (cs:=V7 ..) Z Q52 Q6E Z Z (wP Z ?_)
 obtain ⟨aL,aC,hm⟩:=Q7 hm
 refine wC [] [] Z fn_111 Z (Q7o N z.kind z.value.k z.value.n z.value.s z.var z.op aA.1 aA.2 z.kids a1 _ aC) (asK [0] Z) Z (H':=[]) Z ?_
 rintro _ _ _ ⟨rfl,rfl,rfl⟩
 refine wP Z (Q4 (Q3 (Q2 [18,5,0,1] (S':=V4 ..) Z ?_)))
 refine Qm Z (fun a0=>?_) (fun a0=>?_)
 replace hm:=Qw hm a0
 refine Q2 [] (S':=[]) Z (Q5 (Q1 (wP Z (Q4 (Q3 (Qk (Qa (Q8 (Q8 (Qa (Q8 ?_)))))))))))
 have hE:=(Zi hm).symm
 replace hE:=Qn hLu1 hE
 replace hE:=Qn hLj_1 hE
 replace hE:=hE.symm
 subst hE
 refine Qq (Hr:=[]) [] Tryz.results112 (Qb Z) ⟨Z,Z,Z⟩ (asK [] Z) Z Z (.inl Z)
 replace hm:=Qv hm a0
 refine Q2 [5,0,1] (S':=V3 ..) Z (Qt (Qf (Q3 (Q1 (wP Z (wP Z ?_))))))
 obtain ⟨aD,hm⟩:=Qz hm
 refine QD (d:=11) (v':=.int .i64 ((h+1:Nat):Int)) (S':=V4 ..) Z Z (Q1f (a:=h) (b:=1) aD) (QS (S':=V4 ..) Z Z Z Z Z (Q4 ?_))
 have hE:=(Zi hm).symm
 replace hE:=QA hLu1 hE
 refine QY (_,h+1) (Nat.lt_succ_self _) hE [5,0,1] Z (asK [3] Z) Z
 replace hm:=Qv hm a6
 refine Q2 [] (S':=[]) Z (Q1k (Qo (Qo (QG ?_))))
 have hE:=(Zi hm).symm
 replace hE:=Qn hLu1 hE
 refine Qd () hE [] Z (asK [] Z) Z
 rintro _ hE
 try dsimp only
 have hm:=QA hLj_1 hE
 try dsimp only at hm
 refine Q5 (Q1 (wP Z (Q4 (Q3 (Qk ?_)))))
 have hE:=(Zi hm).symm
 replace hE:=hE.symm
 subst hE
 refine Qq (Hr:=[]) [] Tryz.results112 (Qb Z) ⟨Z,Z,Z⟩ (asK [] Z) Z Z (.inl Z)
theorem Q9Y (N:Nat)(a5:OA)(a6:Nat)(l0:List Qg)(a1:ByteArray)(a2:Int)(a3:Int)(a7:OA)(a8:Nat)(l4:List QE)(a9:OA)(aA:Nat)(l5:List Q20)(o0:Bool)(hm:Q4a N l0 a1 a2 a3 l4 l5=some o0):Q1d Tryz.prog 71 [.slice a5 l0.length a6,.agg #[.string a1,.int .i64 a2,.int .i64 a3,.slice a7 l4.length a8,.slice a9 l5.length aA]] [.sli 2 Qh a5 a6 l0,.sli 10 Q11 a7 a8 l4,.sli 4 Q1c a9 aA l5] [] (fun v Φr Hr=>v=.bool o0∧Φr=[]∧Hr=[]):=by
 unfold Q4a at hm
 refine QI Tryz.func71 Z Tryz.ntmps71 Z (S:=[_,_]) Z (fun C=>(Q5 (Q1 (wB Z (fun g3=>(wP Z (Q4 (Q3 (Q2 [3,0] (S':=[_,_]) Z (Q5 (Q5 ?_)))))))))))
 obtain ⟨cA,hm,hLj_1⟩:=Q7 hm
 unfold Q4i at hm
 refine QF (σ:=Bool) (fun aI=>cA=aI) (fun aI=>[(3,.pointer (some ⟨g3,0,none⟩)),(0,.slice a5 l0.length a6),(40,.bool aI)]) (fun aI=>[.sli 10 Q11 a7 a8 l4,.sli 4 Q1c a9 aA l5,.sli 2 Qh a5 a6 l0]) (fun aI=>[.blk g3 [.string a1,.int .i64 a2,.int .i64 a3,.slice a7 l4.length a8,.slice a9 l5.length aA] 52]) ?_ ?_
 refine Q1 (wF Z Q9S (wD 0 0 Z tS_9 tA_9 Z ?_))
 obtain ⟨d9,cB,hm⟩:=Q7 hm
 refine wC [] [0] Z fn_70 Z (Q5H N a1 _ cB) (asK [] Z) Z (H':=[_]) Z ?_
 rintro _ _ _ ⟨rfl,rfl,rfl⟩
 refine wP Z (wP Z ?_)
 refine Qr (d:=19) (S':=V6 ..) Z Z (fun bM=>?_) (fun bM=>?_)
 replace hm:=Qw hm bM
 refine wO Z (wO Z (wO Z (wP Z (wP Z (wO Z (wO Z (wO Z (wP Z (wP Z (wO Z (wO Z (wO Z (wO Z ?_)))))))))))))
 refine wP Z (wP Z (wO Z (wO Z (wO Z (wO Z (wP Z (Q4 ?_)))))))
 have hE:=(Zi hm).symm
 refine Qd true hE [3,0,40] Z (asK [1,2,0] Z) Z
 replace hm:=Qv hm bM
 refine wF Z tF_52_1 (wD 0 1 Z QZ Q15 Z (wP Z (wP Z (wP Z ?_))))
 refine Qr (d:=24) (S':=V11 ..) Z Z (fun bN=>?_) (fun bN=>?_)
 replace hm:=Qw hm bN
 refine wO Z (wO Z (wO Z (wP Z (wP Z (wO Z (wO Z (wO Z (wO Z (wP Z (wP Z (wO Z (wO Z (wO Z ?_)))))))))))))
 refine wO Z (wP Z (Q4 ?_))
 have hE:=(Zi hm).symm
 refine Qd true hE [3,0,40] Z (asK [1,2,0] Z) Z
 replace hm:=Qv hm bN
 refine wF Z tF_52_1 (wD 0 1 Z QZ Q15 Z (wP Z (wP Z (wP Z ?_))))
 refine Qr (d:=29) (S':=V16 ..) Z Z (fun bO=>?_) (fun bO=>?_)
 replace hm:=Qw hm bO
 refine wO Z (wO Z (wO Z (wO Z (wP Z (wP Z (wO Z (wO Z (wO Z (wO Z (wP Z (Q4 ?_)))))))))))
 have hE:=(Zi hm).symm
 refine Qd true hE [3,0,40] Z (asK [1,2,0] Z) Z
 replace hm:=Qv hm bO
 refine wF Z Q67 (wD 0 3 Z Q94 Q8X Z (wN Z Q86 (wP Z (QD (d:=33) (v':=.bool (decide (8 < l4.length))) (S':=V20 ..) Z Z (Q8r (a:=l4.length) (b:=8)) (wP Z (wP Z ?_))))))
 refine Qr (d:=35) (S':=V22 ..) Z Z (fun bP=>?_) (fun bP=>?_)
 replace hm:=Qw hm bP
 refine wO Z (wO Z (wO Z (wO Z (wP Z (Q4 ?_)))))
 have hE:=(Zi hm).symm
 refine Qd true hE [3,0,40] Z (asK [1,2,0] Z) Z
 replace hm:=Qv hm bP
 refine wF Z Q90 (wD 0 4 Z tS_50 tA_50 Z (wN Z tE_50 (wP Z (QD (d:=39) (v':=.bool (decide (8 < l5.length))) (S':=V26 ..) Z Z (Q8r (a:=l5.length) (b:=8)) (wP Z (Q4 ?_))))))
 have hE:=(Zi hm).symm
 refine Qd (decide (8 < l5.length)) hE [3,0,40] Z (asK [1,2,0] Z) Z
 rintro aI hE
 try dsimp only
 have hm:=hLj_1
 try rw [hE] at hm
 refine Qm Z (fun bQ=>?_) (fun bQ=>?_)
 replace hm:=Qw hm bQ
 refine Q2 [] (S':=[]) Z (Q5 (Q1 (wP Z (Q4 (Q3 (Qk (Q8 ?_)))))))
 have hE:=(Zi hm).symm
 replace hE:=hE.symm
 subst hE
 refine Qq (Hr:=[]) [] Tryz.results71 (Qb Z) ⟨Z,Z,Z⟩ (asK [] Z) Z Z (.inl Z)
 replace hm:=Qv hm bQ
 refine Q2 [3,0] (S':=[_,_]) Z (Qt (Q3 (Q5 (Q1 (wP Z (wP Z (Q4 (Q3 (Q5 ?_)))))))))
 obtain ⟨bY,hm,hLj_2⟩:=QN hm
 refine QF (σ:=Int×Nat) (fun (aB,aD)=>bY=.inl (aB,aD)) (fun (aB,aD)=>[(3,.pointer (some ⟨g3,0,none⟩)),(0,.slice a5 l0.length a6),(5,.int .i64 aB),(6,.int .i64 ((aD:Nat):Int))]) (fun (aB,aD)=>[.sli 10 Q11 a7 a8 l4,.sli 4 Q1c a9 aA l5,.sli 2 Qh a5 a6 l0]) (fun (aB,aD)=>[.blk g3 [.string a1,.int .i64 a2,.int .i64 a3,.slice a7 l4.length a8,.slice a9 l5.length aA] 52]) ?_ ?_
 refine Q5 (Q1 (wP Z (Q4 (Q3 (Qx (Q1o (σ:=Nat×Nat×Nat×Int) (fun (aV,z,a4,aC)=>Q19 (Q23 N l4 l0) aV (z,a4,aC)=some bY) (fun (aV,z,a4,aC)=>aV) (fun (aV,z,a4,aC)=>[(7,.int .i64 ((z:Nat):Int)),(6,.int .i64 ((a4:Nat):Int)),(5,.int .i64 aC),(3,.pointer (some ⟨g3,0,none⟩)),(0,.slice a5 l0.length a6)]) (fun (aV,z,a4,aC)=>[.sli 10 Q11 a7 a8 l4,.sli 4 Q1c a9 aA l5,.sli 2 Qh a5 a6 l0]) (fun (aV,z,a4,aC)=>[.blk g3 [.string a1,.int .i64 a2,.int .i64 a3,.slice a7 l4.length a8,.slice a9 l5.length aA] 52]) (N,0,0,0) hm [7,6,5,3,0] Z (asK [0,1,2] Z) Z (fun s_ hm=>?_)))))))
 obtain ⟨aV,z,a4,aC⟩:=s_
 try dsimp only at hm ⊢
 obtain ⟨dA,dB,cC,hq,hLu1⟩:=Q10 hm
 clear hm
 subst cC
 replace hm:=hq
 clear hq
 unfold Q23 at hm
 try dsimp only at hm
 refine Q5 (Q5 (Q1 (wP Z (wF Z Q67 (wD 0 3 Z Q94 Q8X Z (wN Z Q86 (wP Z (QD (d:=45) (v':=.bool (decide (z < l4.length))) (S':=V9 ..) Z Z (Q2E (a:=z) (b:=l4.length)) (Q4 (Q3 (Q2 [45,7,6,5,3,0] (S':=V6 ..) Z ?_)))))))))))
 refine Qm Z (fun bR=>?_) (fun bR=>?_)
 replace hm:=Qw hm bR
 refine Q2 [7,6,5,3,0] (S':=V5 ..) Z (Qt (Q3 (Q5 ?_)))
 obtain ⟨cD,hm,hLj_3⟩:=QN hm
 unfold Q4j at hm
 refine QF (σ:=Nat×Int) (fun (aO,aP)=>cD=.inl (aO,aP)) (fun (aO,aP)=>[(7,.int .i64 ((z:Nat):Int)),(6,.int .i64 ((aO:Nat):Int)),(5,.int .i64 aP),(3,.pointer (some ⟨g3,0,none⟩)),(0,.slice a5 l0.length a6)]) (fun (aO,aP)=>[.sli 10 Q11 a7 a8 l4,.sli 4 Q1c a9 aA l5,.sli 2 Qh a5 a6 l0]) (fun (aO,aP)=>[.blk g3 [.string a1,.int .i64 a2,.int .i64 a3,.slice a7 l4.length a8,.slice a9 l5.length aA] 52]) ?_ ?_
 refine Qx (Q5 (Q1 (wF Z Q67 (wD 0 3 Z Q94 Q8X Z (wP Z ?_)))))
 obtain ⟨h,cE,hm⟩:=Q7 hm
 refine QT 0 z Z Z Z Zq Z Z Z Z Z cE Q86 Q6t (fun dC dD d4 cY=>(Q1h Q3v 1 Z (fun y cF _=>?_)))
 subst cF
 refine Q1g 2 0 Z Z Z Zq Z Z Z (cs:=V10 ..) Z Q6t tA_67 Z Z (Q13 Z Z Z Zq Z tZ_67 Z (fun g8=>(wS 0 0 Z Q6t (all':=V10 ..) Z (H':=[_,_]) Z (Q4 (Q3 (Q2 [8,7,6,5,3,0] (S':=V6 ..) Z (Q5 (Q1 (wF Z Q6o (wD 0 0 Z tS_53 tA_53 Z (Q4 (Q3 (Q2 [54,8,7,6,5,3,0] (S':=V7 ..) Z (Qx ?_))))))))))))))
 refine Q5 ?_
 obtain ⟨cG,hm,hLj_4⟩:=Q7 hm
 refine QF (σ:=Bool) (fun aJ=>cG=aJ) (fun aJ=>[(54,.int .u8 (h.kind)),(8,.pointer (some ⟨g8,0,none⟩)),(7,.int .i64 ((z:Nat):Int)),(6,.int .i64 ((a4:Nat):Int)),(5,.int .i64 aC),(3,.pointer (some ⟨g3,0,none⟩)),(0,.slice a5 l0.length a6),(55,.bool aJ)]) (fun aJ=>[.sli 5 Q2w y.1.1 y.1.2 h.args,.sli 7 Qs y.2.1 y.2.2 h.test.kids,.sli 10 Q11 a7 a8 l4,.sli 4 Q1c a9 aA l5,.sli 2 Qh a5 a6 l0]) (fun aJ=>[.blk g8 [.int .u8 (h.kind),.int .i64 (h.type),.slice y.1.1 h.args.length y.1.2,.int .u8 (h.test.kind),.int .u8 (h.test.value.k),.int .i64 (h.test.value.n),.string h.test.value.s,.int .i64 (h.test.var),.int .u8 (h.test.op),.slice y.2.1 h.test.kids.length y.2.2] 67,.blk g3 [.string a1,.int .i64 a2,.int .i64 a3,.slice a7 l4.length a8,.slice a9 l5.length aA] 52]) ?_ ?_
 refine Q5 (Q1 (wP Z (wP Z (Q4 (Q3 (Q2 [55,54,8,7,6,5,3,0] (S':=V8 ..) Z ?_))))))
 refine Qm Z (fun aT=>?_) (fun aT=>?_)
 replace hm:=Qw hm aT
 refine Qt ?_
 have hE:=(Zi hm).symm
 refine Qd (h.kind==1) hE [54,8,7,6,5,3,0,55] Z (asK [0,1,4,5,6] Z) Z
 replace hm:=Qv hm aT
 refine Q2 [54,8,7,6,5,3,0] (S':=V7 ..) Z (Q1 (wP Z (wP Z (Q4 ?_))))
 have hE:=(Zi hm).symm
 refine Qd (h.kind==2) hE [54,8,7,6,5,3,0,55] Z (asK [0,1,4,5,6] Z) Z
 rintro aJ hE
 try dsimp only
 have hm:=hLj_4
 try rw [hE] at hm
 refine Qm Z (fun aT=>?_) (fun aT=>?_)
 replace hm:=Qw hm aT
 refine Q2 [8,7,6,5,3,0] (S':=V6 ..) Z (Q5 (Q5 ?_))
 obtain ⟨cH,hm,hLj_5⟩:=Q7 hm
 refine QF (σ:=Bool) (fun aK=>cH=aK) (fun aK=>[(8,.pointer (some ⟨g8,0,none⟩)),(7,.int .i64 ((z:Nat):Int)),(6,.int .i64 ((a4:Nat):Int)),(5,.int .i64 aC),(3,.pointer (some ⟨g3,0,none⟩)),(0,.slice a5 l0.length a6),(71,.bool aK)]) (fun aK=>[.sli 5 Q2w y.1.1 y.1.2 h.args,.sli 7 Qs y.2.1 y.2.2 h.test.kids,.sli 10 Q11 a7 a8 l4,.sli 4 Q1c a9 aA l5,.sli 2 Qh a5 a6 l0]) (fun aK=>[.blk g8 [.int .u8 (h.kind),.int .i64 (h.type),.slice y.1.1 h.args.length y.1.2,.int .u8 (h.test.kind),.int .u8 (h.test.value.k),.int .i64 (h.test.value.n),.string h.test.value.s,.int .i64 (h.test.var),.int .u8 (h.test.op),.slice y.2.1 h.test.kids.length y.2.2] 67,.blk g3 [.string a1,.int .i64 a2,.int .i64 a3,.slice a7 l4.length a8,.slice a9 l5.length aA] 52]) ?_ ?_
 refine Q1 (wP Z (wF Z tF_67_1 (wD 0 1 Z QZ Q15 Z (wF Z Q6J (wD 0 2 Z tS_60 tA_60 Z (wN Z Q8Y ?_))))))
 obtain ⟨dE,cI,hm⟩:=Q7 hm
 refine wC [] [0,1] Z fn_108 Z (Q6G N a5 a6 l0 h.type ((h.args.length:Nat):Int) _ cI) (asK [4] Z) Z (H':=[_,_]) Z ?_
 rintro _ _ _ ⟨rfl,rfl,rfl⟩
 refine wP Z (wP Z ?_)
 refine Qr (d:=66) (S':=V14 ..) Z Z (fun bS=>?_) (fun bS=>?_)
 replace hm:=Qw hm bS
 refine wO Z (wO Z (wO Z (wO Z (wP Z (Q4 ?_)))))
 have hE:=(Zi hm).symm
 refine Qd true hE [8,7,6,5,3,0,71] Z (asK [0,1,2,3,4] Z) Z
 replace hm:=Qv hm bS
 refine wF Z Q93 (QM 0 3 Z Z Z Zq Z Z Z (cs:=V7 ..) Z Q52 Q6E Z Z ?_)
 obtain ⟨cZ,cJ,hm⟩:=Q7 hm
 refine wC [] [0,1] Z fn_109 Z (Q9Z N h.test.kind h.test.value.k h.test.value.n h.test.value.s h.test.var h.test.op y.2.1 y.2.2 h.test.kids _ cJ) (asK [1] Z) Z (H':=[_,_]) Z ?_
 rintro _ _ _ ⟨rfl,rfl,rfl⟩
 refine wP Z (wP Z (Q4 ?_))
 have hE:=(Zi hm).symm
 refine Qd (!cZ) hE [8,7,6,5,3,0,71] Z (asK [0,1,2,3,4] Z) Z
 rintro aK hE
 try dsimp only
 have hm:=hLj_5
 try rw [hE] at hm
 refine Qm Z (fun bT=>?_) (fun bT=>?_)
 replace hm:=Qw hm bT
 refine Q2 [] (S':=[]) Z (Q5 (Q1 (wP Z (Q4 (Q3 (Qk (Q8 (Qa (Qa (Q8 (Q8 (Qa (Q8 ?_)))))))))))))
 have hE:=(Zi hm).symm
 replace hE:=Qn hLj_3 hE
 replace hE:=Qn hLu1 hE
 replace hE:=Qn hLj_2 hE
 replace hE:=hE.symm
 subst hE
 refine Qq (Hr:=[]) [] Tryz.results71 (Qb Z) ⟨Z,Z,Z⟩ (asK [] Z) Z Z (.inl Z)
 replace hm:=Qv hm bT
 refine Q2 [8,7,6,5,3,0] (S':=V6 ..) Z (Qt (Q3 (Q5 ?_)))
 obtain ⟨c0,hm,hLj_6⟩:=QN hm
 refine QF (σ:=Int) (fun aH=>c0=.inl aH) (fun aH=>[(8,.pointer (some ⟨g8,0,none⟩)),(7,.int .i64 ((z:Nat):Int)),(6,.int .i64 ((a4:Nat):Int)),(5,.int .i64 aH),(3,.pointer (some ⟨g3,0,none⟩)),(0,.slice a5 l0.length a6)]) (fun aH=>[.sli 5 Q2w y.1.1 y.1.2 h.args,.sli 7 Qs y.2.1 y.2.2 h.test.kids,.sli 10 Q11 a7 a8 l4,.sli 4 Q1c a9 aA l5,.sli 2 Qh a5 a6 l0]) (fun aH=>[.blk g8 [.int .u8 (h.kind),.int .i64 (h.type),.slice y.1.1 h.args.length y.1.2,.int .u8 (h.test.kind),.int .u8 (h.test.value.k),.int .i64 (h.test.value.n),.string h.test.value.s,.int .i64 (h.test.var),.int .u8 (h.test.op),.slice y.2.1 h.test.kids.length y.2.2] 67,.blk g3 [.string a1,.int .i64 a2,.int .i64 a3,.slice a7 l4.length a8,.slice a9 l5.length aA] 52]) ?_ ?_
 refine Q5 (Q1 (wP Z (Q4 (Q3 (Qx (Q1o (σ:=Nat×Nat×Int) (fun (aW,aE,aR)=>Q19 (Q24 N h) aW (aE,aR)=some c0) (fun (aW,aE,aR)=>aW) (fun (aW,aE,aR)=>[(9,.int .i64 ((aE:Nat):Int)),(8,.pointer (some ⟨g8,0,none⟩)),(7,.int .i64 ((z:Nat):Int)),(6,.int .i64 ((a4:Nat):Int)),(5,.int .i64 aR),(3,.pointer (some ⟨g3,0,none⟩)),(0,.slice a5 l0.length a6)]) (fun (aW,aE,aR)=>[.sli 5 Q2w y.1.1 y.1.2 h.args,.sli 7 Qs y.2.1 y.2.2 h.test.kids,.sli 10 Q11 a7 a8 l4,.sli 4 Q1c a9 aA l5,.sli 2 Qh a5 a6 l0]) (fun (aW,aE,aR)=>[.blk g8 [.int .u8 (h.kind),.int .i64 (h.type),.slice y.1.1 h.args.length y.1.2,.int .u8 (h.test.kind),.int .u8 (h.test.value.k),.int .i64 (h.test.value.n),.string h.test.value.s,.int .i64 (h.test.var),.int .u8 (h.test.op),.slice y.2.1 h.test.kids.length y.2.2] 67,.blk g3 [.string a1,.int .i64 a2,.int .i64 a3,.slice a7 l4.length a8,.slice a9 l5.length aA] 52]) (N,0,aC) hm [9,8,7,6,5,3,0] Z (asK [0,1,2,3,4] Z) Z (fun s_ hm=>?_)))))))
 obtain ⟨aW,aE,aR⟩:=s_
 try dsimp only at hm ⊢
 obtain ⟨dF,dG,cK,hq,hLu2⟩:=Q10 hm
 clear hm
 subst cK
 replace hm:=hq
 clear hq
 unfold Q24 at hm
 try dsimp only at hm
 refine Q5 (Q5 (Q1 (wP Z (wF Z Q6J (wD 0 2 Z tS_60 tA_60 Z (wN Z Q8Y (wP Z (QD (d:=76) (v':=.bool (decide (aE < h.args.length))) (S':=V11 ..) Z Z (Q2E (a:=aE) (b:=h.args.length)) (Q4 (Q3 (Q2 [76,9,8,7,6,5,3,0] (S':=V8 ..) Z ?_)))))))))))
 refine Qm Z (fun bU=>?_) (fun bU=>?_)
 replace hm:=Qw hm bU
 refine Q2 [9,8,7,6,5,3,0] (S':=V7 ..) Z (Qt (Q3 (Q5 (Qx (Q5 ?_)))))
 obtain ⟨bV,cL,hm⟩:=Q7 hm
 obtain ⟨⟨c2,d0⟩,cM,hm⟩:=Q7 hm
 try dsimp only at hm
 refine QR [0,1,2,3,4,5,6,7,8,10,11,12] Z Z (fun hok=>(Q9 hok 0 Z Z Z Zq Z Z Z Q6J (Ql hok 1 0 2 Z Z Z Zq Z Z Z Z (cs:=[_]) Z tS_60 tA_60 Z Z (xP hok 2 Z (Q1B hok 3 0 aE Z Z Z Zq Z Z Z Z Z Z cL Q8Y tS_59 (fun dH dI d5 d1=>(Q1X Q89 1 Z (fun dJ cN _=>?_))))))))
 subst cN
 refine Q2J hok 4 0 0 Z Z Z Zq Z Z Z Z (cs:=V5 ..) Z tS_59 tA_59 Z Z (xP hok 5 Z (Q9 hok 6 Z Z Z Zq Z Z Z Q6o (Ql hok 7 0 0 Z Z Z Zq Z Z Z Z (cs:=[_]) Z tS_53 tA_53 Z Z (xP hok 8 Z (xS hok 9 Z (wC [] [0,1] Z fn_110 Z (Qab N bV.k bV.var bV.v.k bV.v.n bV.v.s aR (h.kind==1) _ _ cM) (asK [] Z) Z (H':=[_,_]) Z ?_))))))
 rintro _ _ _ ⟨rfl,rfl,rfl⟩
 refine Q4 (Q12 [0,1,2,3,4,5,6] [0,0] Z Z (xP hok 10 Z (xP hok 11 Z (xP hok 12 Z (xS hok 13 Z (wP Z (Q4 (Q12 [0,1,2,3,4,5,6] [] Z Z (xS hok 14 Z (wP Z (Q4 (Q12 [0,1,2,3,4,5,6] [] Z Z (QO hok Z ?_)))))))))))))
 refine Q3 (Q2 [11,10,9,8,7,6,3,0] (S':=V8 ..) Z (Q5 (Q5 (Q1 (wP Z (wP Z (Q4 (Q3 (Q2 [93,10,9,8,7,6,3,0] (S':=V8 ..) Z ?_)))))))))
 refine Qm Z (fun bW=>?_) (fun bW=>?_)
 replace hm:=Qw hm bW
 refine Q2 [] (S':=[]) Z (Q5 (Q1 (wP Z (Q4 (Q3 (Qk (Q8 (Qa (Q8 (Q8 (Qa (Q8 (Qa ?_)))))))))))))
 refine Qa (Q8 (Q8 (Qa (Q8 ?_))))
 have hE:=(Zi hm).symm
 replace hE:=Qn hLu2 hE
 replace hE:=Qn hLj_6 hE
 replace hE:=Qn hLj_3 hE
 replace hE:=Qn hLu1 hE
 replace hE:=Qn hLj_2 hE
 replace hE:=hE.symm
 subst hE
 refine Qq (Hr:=[]) [] Tryz.results71 (Qb Z) ⟨Z,Z,Z⟩ (asK [] Z) Z Z (.inl Z)
 replace hm:=Qv hm bW
 refine Q2 [10,9,8,7,6,3,0] (S':=V7 ..) Z (Qt (Q3 (Q1 (wP Z (wP Z (Q4 (Qf (Q3 (Q2 [5,9,8,7,6,3,0] (S':=V7 ..) Z (Q1 (wP Z (wP Z ?_))))))))))))
 obtain ⟨cO,hm⟩:=Qz hm
 refine QD (d:=78) (v':=.int .i64 ((aE+1:Nat):Int)) (S':=V8 ..) Z Z (Q1f (a:=aE) (b:=1) cO) (QS (S':=V8 ..) Z Z Z Z Z (Q4 ?_))
 have hE:=(Zi hm).symm
 replace hE:=QA hLu2 hE
 refine QY (_,aE+1,c2) (Nat.lt_succ_self _) hE [9,8,7,6,5,3,0] Z (asK [2,3,4,5,6] Z) Z
 replace hm:=Qv hm bU
 refine Q2 [8,7,6,5,3,0] (S':=V6 ..) Z (Q1k (Qo (Qo (QG ?_))))
 have hE:=(Zi hm).symm
 replace hE:=Qn hLu2 hE
 refine Qd aR hE [8,7,6,5,3,0] Z (asK [0,1,2,3,4] Z) Z
 rintro aH hE
 try dsimp only
 have hm:=QA hLj_6 hE
 refine Q5 (Q1 (wF Z Q6o (wD 0 0 Z tS_53 tA_53 Z (wP Z (Q4 (Q3 (Q2 [97,7,6,5,3,0] (S':=V6 ..) Z ?_)))))))
 refine Qm Z (fun bX=>?_) (fun bX=>?_)
 replace hm:=Qw hm bX
 refine Q2 [7,6,5,3,0] (S':=V5 ..) Z (Q1 (wP Z (wP Z ?_)))
 obtain ⟨cP,hm⟩:=Qz hm
 refine QD (d:=99) (v':=.int .i64 ((a4+1:Nat):Int)) (S':=V6 ..) Z Z (Q1f (a:=a4) (b:=1) cP) (QS (S':=V6 ..) Z Z Z Z Z (Q4 (Qf (Qf ?_))))
 have hE:=(Zi hm).symm
 refine Qu [1] Z (H':=[_]) Z ?_
 refine Qd (a4+1,aH) hE [7,6,5,3,0] Z (asK [2,3,4] Z) Z
 replace hm:=Qv hm bX
 refine Q2 [7,6,5,3,0] (S':=V5 ..) Z (Qt (Qf (Qf ?_)))
 have hE:=(Zi hm).symm
 refine Qu [1] Z (H':=[_]) Z ?_
 refine Qd (a4,aH) hE [7,6,5,3,0] Z (asK [2,3,4] Z) Z
 replace hm:=Qv hm aT
 refine Q2 [54,8,7,6,5,3,0] (S':=V7 ..) Z (Q5 (Q1 (wP Z (wP Z (Q4 (Q3 (Q2 [100,8,7,6,5,3,0] (S':=V7 ..) Z ?_)))))))
 refine Qm Z (fun aX=>?_) (fun aX=>?_)
 replace hm:=Qw hm aX
 refine Q2 [8,7,6,5,3,0] (S':=V6 ..) Z (Q5 ?_)
 obtain ⟨cQ,hm,hLj_7⟩:=Q7 hm
 unfold Q4k at hm
 refine QF (σ:=Bool) (fun aF=>cQ=aF) (fun aF=>[(7,.int .i64 ((z:Nat):Int)),(6,.int .i64 ((a4:Nat):Int)),(5,.int .i64 aC),(3,.pointer (some ⟨g3,0,none⟩)),(0,.slice a5 l0.length a6),(117,.bool aF)]) (fun aF=>[.sli 10 Q11 a7 a8 l4,.sli 4 Q1c a9 aA l5,.sli 2 Qh a5 a6 l0]) (fun aF=>[.blk g3 [.string a1,.int .i64 a2,.int .i64 a3,.slice a7 l4.length a8,.slice a9 l5.length aA] 52]) ?_ ?_
 refine Q1 (wF Z tF_67_1 (wD 0 1 Z QZ Q15 Z (wP Z (wP Z ?_))))
 refine Qr (d:=105) (S':=V9 ..) Z Z (fun aY=>?_) (fun aY=>?_)
 replace hm:=Qw hm aY
 refine wO Z (wO Z (wO Z (wO Z (wP Z (wP Z (wO Z (wO Z (wO Z (wO Z (wO Z (wP Z (Q4 ?_))))))))))))
 have hE:=(Zi hm).symm
 refine Qu [1] Z (H':=[_]) Z ?_
 refine Qd true hE [7,6,5,3,0,117] Z (asK [2,3,4] Z) Z
 replace hm:=Qv hm aY
 refine wF Z Q6J (wD 0 2 Z tS_60 tA_60 Z (wN Z Q8Y (wP Z (QD (d:=109) (v':=.bool (h.args.length !=0)) (S':=V13 ..) Z Z (natne (a:=h.args.length) (b:=0)) (wP Z (wP Z ?_))))))
 refine Qr (d:=111) (S':=V15 ..) Z Z (fun aZ=>?_) (fun aZ=>?_)
 replace hm:=Qw hm aZ
 refine wO Z (wO Z (wO Z (wO Z (wO Z (wP Z (Q4 ?_))))))
 have hE:=(Zi hm).symm
 refine Qu [1] Z (H':=[_]) Z ?_
 refine Qd true hE [7,6,5,3,0,117] Z (asK [2,3,4] Z) Z
 replace hm:=Qv hm aZ
 refine wF Z Q93 (QM 0 3 Z Z Z Zq Z Z Z (cs:=V7 ..) Z Q52 Q6E Z Z (wP Z ?_))
 obtain ⟨cR,c3,hm⟩:=Q7 hm
 refine wC [] [0,1] Z fn_111 Z (Q7o N h.test.kind h.test.value.k h.test.value.n h.test.value.s h.test.var h.test.op y.2.1 y.2.2 h.test.kids aC _ c3) (asK [1] Z) Z (H':=[_,_]) Z ?_
 rintro _ _ _ ⟨rfl,rfl,rfl⟩
 refine wP Z (wP Z (Q4 ?_))
 have hE:=(Zi hm).symm
 refine Qu [1] Z (H':=[_]) Z ?_
 refine Qd (!cR) hE [7,6,5,3,0,117] Z (asK [2,3,4] Z) Z
 rintro aF hE
 try dsimp only
 have hm:=hLj_7
 try rw [hE] at hm
 refine Qm Z (fun b0=>?_) (fun b0=>?_)
 replace hm:=Qw hm b0
 refine Q2 [] (S':=[]) Z (Q5 (Q1 (wP Z (Q4 (Q3 (Qk (Qa (Qa (Q8 (Q8 (Qa (Q8 ?_))))))))))))
 have hE:=(Zi hm).symm
 replace hE:=Qn hLj_3 hE
 replace hE:=Qn hLu1 hE
 replace hE:=Qn hLj_2 hE
 replace hE:=hE.symm
 subst hE
 refine Qq (Hr:=[]) [] Tryz.results71 (Qb Z) ⟨Z,Z,Z⟩ (asK [] Z) Z Z (.inl Z)
 replace hm:=Qv hm b0
 refine Q2 [7,6,5,3,0] (S':=V5 ..) Z (Qt (Qf (Qf ?_)))
 have hE:=(Zi hm).symm
 refine Qd (a4,aC) hE [7,6,5,3,0] Z (asK [0,1,2] Z) Z
 replace hm:=Qv hm aX
 refine Q2 [] (S':=[]) Z (Q5 (Q1 (wP Z (Q4 (Q3 (Qk (Qa (Qa (Q8 (Q8 (Qa (Q8 ?_))))))))))))
 have hE:=(Zi hm).symm
 replace hE:=Qn hLj_3 hE
 replace hE:=Qn hLu1 hE
 replace hE:=Qn hLj_2 hE
 replace hE:=hE.symm
 subst hE
 refine Qq (Hr:=[]) [] Tryz.results71 (Qb Z) ⟨Z,Z,Z⟩ (asK [] Z) Z Z (.inl Z)
 rintro ⟨aO,aP⟩ hE
 try dsimp only
 have hm:=QA hLj_3 hE
 try dsimp only at hm
 refine Q1 (wP Z (wP Z ?_))
 obtain ⟨cS,hm⟩:=Qz hm
 refine QD (d:=47) (v':=.int .i64 ((z+1:Nat):Int)) (S':=V6 ..) Z Z (Q1f (a:=z) (b:=1) cS) (QS (S':=V6 ..) Z Z Z Z Z (Q4 ?_))
 have hE:=(Zi hm).symm
 replace hE:=QA hLu1 hE
 refine QY (_,z+1,aO,aP) (Nat.lt_succ_self _) hE [7,6,5,3,0] Z (asK [0,1,2] Z) Z
 replace hm:=Qv hm bR
 refine Q2 [6,5,3,0] (S':=V4 ..) Z (Q1k (Qo (Qo (QG ?_))))
 have hE:=(Zi hm).symm
 replace hE:=Qn hLu1 hE
 refine Qd (aC,a4) hE [3,0,5,6] Z (asK [0,1,2] Z) Z
 rintro ⟨aB,aD⟩ hE
 try dsimp only
 have hm:=QA hLj_2 hE
 try dsimp only at hm
 refine Q5 ?_
 obtain ⟨c1,hm,hLj_8⟩:=QN hm
 refine QF (σ:=Unit) (fun _=>c1=.inl ()) (fun _=>[(3,.pointer (some ⟨g3,0,none⟩)),(5,.int .i64 aB)]) (fun _=>[.sli 10 Q11 a7 a8 l4,.sli 4 Q1c a9 aA l5]) (fun _=>[.blk g3 [.string a1,.int .i64 a2,.int .i64 a3,.slice a7 l4.length a8,.slice a9 l5.length aA] 52]) ?_ ?_
 refine Q5 (Q1 (wP Z (Q4 (Q3 (Qx (Q1o (σ:=Nat×Nat) (fun (b1,a0)=>Q19 (Q3n N l5 l0 aB aD) b1 a0=some c1) (fun (b1,a0)=>b1) (fun (b1,a0)=>[(12,.int .i64 ((a0:Nat):Int)),(3,.pointer (some ⟨g3,0,none⟩)),(0,.slice a5 l0.length a6),(5,.int .i64 aB),(6,.int .i64 ((aD:Nat):Int))]) (fun (b1,a0)=>[.sli 10 Q11 a7 a8 l4,.sli 4 Q1c a9 aA l5,.sli 2 Qh a5 a6 l0]) (fun (b1,a0)=>[.blk g3 [.string a1,.int .i64 a2,.int .i64 a3,.slice a7 l4.length a8,.slice a9 l5.length aA] 52]) (N,0) hm [12,3,0,5,6] Z (asK [0,1,2] Z) Z (fun s_ hm=>?_)))))))
 obtain ⟨b1,a0⟩:=s_
 try dsimp only at hm ⊢
 obtain ⟨dK,dL,cT,hq,hLu3⟩:=Q10 hm
 clear hm
 subst cT
 replace hm:=hq
 clear hq
 unfold Q3n at hm
 try dsimp only at hm
 refine Q5 (Q5 (Q1 (wP Z (wF Z Q90 (wD 0 4 Z tS_50 tA_50 Z (wN Z tE_50 (wP Z (QD (d:=122) (v':=.bool (decide (a0 < l5.length))) (S':=V9 ..) Z Z (Q2E (a:=a0) (b:=l5.length)) (Q4 (Q3 (Q2 [122,12,3,0,5,6] (S':=V6 ..) Z ?_)))))))))))
 refine Qm Z (fun b2=>?_) (fun b2=>?_)
 replace hm:=Qw hm b2
 refine Q2 [12,3,0,5,6] (S':=V5 ..) Z (Qt (Q3 (Q5 (Qx (Q5 (Q1 (wF Z Q90 (wD 0 4 Z tS_50 tA_50 Z (wP Z ?_)))))))))
 obtain ⟨aG,c4,hm⟩:=Q7 hm
 refine QT 1 a0 Z Z Z Zq Z Z Z Z Z c4 tE_50 tS_81 (fun d6 d7 d2 cX=>(Q1h Q7w 1 Z (fun bL c5 _=>?_)))
 subst c5
 refine Q1g 1 0 Z Z Z Zq Z Z Z (cs:=V4 ..) Z tS_81 tA_81 Z Z (Q13 Z Z Z Zq Z tZ_81 Z (fun dM=>(wS 0 0 Z tS_81 (all':=V4 ..) Z (H':=[_,_]) Z (Q4 (Q3 (Q2 [13,12,3,0,5,6] (S':=V6 ..) Z (Q5 (Q1 (wP Z (Q4 (Q3 (Q5 ?_))))))))))))
 obtain ⟨cU,hm,hLj_9⟩:=Q7 hm
 unfold Q4l at hm
 refine QF (σ:=Bool) (fun aL=>cU=aL) (fun aL=>[(12,.int .i64 ((a0:Nat):Int)),(3,.pointer (some ⟨g3,0,none⟩)),(0,.slice a5 l0.length a6),(5,.int .i64 aB),(6,.int .i64 ((aD:Nat):Int)),(14,.bool aL)]) (fun aL=>[.sli 10 Q11 a7 a8 l4,.sli 4 Q1c a9 aA l5,.sli 2 Qh a5 a6 l0]) (fun aL=>[.blk g3 [.string a1,.int .i64 a2,.int .i64 a3,.slice a7 l4.length a8,.slice a9 l5.length aA] 52]) ?_ ?_
 refine Q5 (Q1 (wF Z tF_81_0 (wD 0 0 Z tS_79 tA_79 Z (Q4 (Q3 (Q2 [131,14,13,12,3,0,5,6] (S':=V8 ..) Z (Qx (Q5 (Q1 (wP Z (wP Z (Q4 (Q3 ?_)))))))))))))
 refine Q2 [132,131,14,13,12,3,0,5,6] (S':=V9 ..) Z ?_
 refine Qm Z (fun b3=>?_) (fun b3=>?_)
 replace hm:=Qw hm b3
 refine Q2 [13,12,3,0,5,6] (S':=V6 ..) Z (Q1 (wF Z Q7k (wD 0 2 Z QZ Q15 Z (wP Z (wP Z ?_)))))
 refine Qr (d:=137) (S':=V9 ..) Z Z (fun b4=>?_) (fun b4=>?_)
 replace hm:=Qw hm b4
 refine wP Z (wF Z Q7j (wD 0 1 Z QZ Q15 Z (wF Z Q5T (wD 0 3 Z Q51 Q50 Z (wN Z Q4r ?_)))))
 obtain ⟨d8,c6,hm⟩:=Q7 hm
 refine wC [] [0,1] Z fn_108 Z (Q6G N a5 a6 l0 aG.type ((aG.exprs.length:Nat):Int) _ c6) (asK [5] Z) Z (H':=[_,_]) Z ?_
 rintro _ _ _ ⟨rfl,rfl,rfl⟩
 refine wP Z (wP Z ?_)
 refine Qr (d:=146) (S':=V18 ..) Z Z (fun b5=>?_) (fun b5=>?_)
 replace hm:=Qw hm b5
 refine wF Z Q5T (wD 0 3 Z Q51 Q50 Z (wP Z ?_))
 obtain ⟨cV,c7,hm⟩:=Q7 hm
 refine wC [] [0,1] Z fn_112 Z (Q72 N bL.1 bL.2 aG.exprs aB _ c7) (asK [0] Z) Z (H':=[_,_]) Z ?_
 rintro _ _ _ ⟨rfl,rfl,rfl⟩
 refine wP Z (wP Z (Q4 (Qf ?_)))
 have hE:=(Zi hm).symm
 refine Qu [1] Z (H':=[_]) Z ?_
 refine Qd cV hE [12,3,0,5,6,14] Z (asK [3,4,5] Z) Z
 replace hm:=Qv hm b5
 refine wO Z (wO Z (wO Z (wO Z (wP Z (wP Z (Q4 (Qf ?_)))))))
 have hE:=(Zi hm).symm
 refine Qu [1] Z (H':=[_]) Z ?_
 refine Qd false hE [12,3,0,5,6,14] Z (asK [3,4,5] Z) Z
 replace hm:=Qv hm b4
 refine wO Z (wO Z (wO Z (wO Z (wO Z (wO Z (wO Z (wP Z (wP Z (wO Z (wO Z (wO Z (wO Z (wP Z ?_)))))))))))))
 refine wP Z (Q4 (Qf ?_))
 have hE:=(Zi hm).symm
 refine Qu [1] Z (H':=[_]) Z ?_
 refine Qd false hE [12,3,0,5,6,14] Z (asK [3,4,5] Z) Z
 replace hm:=Qv hm b3
 refine Q2 [131,14,13,12,3,0,5,6] (S':=V8 ..) Z (Q5 (Q1 (wP Z (wP Z (Q4 (Q3 (Q2 [152,131,14,13,12,3,0,5,6] (S':=V9 ..) Z ?_)))))))
 refine Qm Z (fun b6=>?_) (fun b6=>?_)
 replace hm:=Qw hm b6
 refine Q2 [13,12,3,0,5,6] (S':=V6 ..) Z (Q1 (wF Z Q7j (wD 0 1 Z QZ Q15 Z (wP Z (wP Z ?_)))))
 refine Qr (d:=157) (S':=V9 ..) Z Z (fun b7=>?_) (fun b7=>?_)
 replace hm:=Qw hm b7
 refine wF Z Q5T (wD 0 3 Z Q51 Q50 Z (wN Z Q4r (wP Z (QD (d:=161) (v':=.bool (aG.exprs.length==0)) (S':=V13 ..) Z Z (Q6W (a:=aG.exprs.length) (b:=0)) (wP Z (wP Z ?_))))))
 refine Qr (d:=163) (S':=V15 ..) Z Z (fun b8=>?_) (fun b8=>?_)
 replace hm:=Qw hm b8
 refine wF Z Q7k (wD 0 2 Z QZ Q15 Z (wP Z (wP Z (wP Z ?_))))
 refine Qr (d:=168) (S':=V20 ..) Z Z (fun b9=>?_) (fun b9=>?_)
 replace hm:=Qw hm b9
 refine wF Z Q7k (wD 0 2 Z QZ Q15 Z (wP Z (wP Z (wP Z (wP Z (Q4 (Qf ?_)))))))
 have hE:=(Zi hm).symm
 refine Qu [1] Z (H':=[_]) Z ?_
 refine Qd (decide (aG.which < ((aD:Nat):Int))) hE [12,3,0,5,6,14] Z (asK [3,4,5] Z) Z
 replace hm:=Qv hm b9
 refine wO Z (wO Z (wO Z (wO Z (wP Z (wP Z (Q4 (Qf ?_)))))))
 have hE:=(Zi hm).symm
 refine Qu [1] Z (H':=[_]) Z ?_
 refine Qd false hE [12,3,0,5,6,14] Z (asK [3,4,5] Z) Z
 replace hm:=Qv hm b8
 refine wO Z (wO Z (wO Z (wP Z (wP Z (wO Z (wO Z (wO Z (wO Z (wP Z (wP Z (Q4 (Qf ?_))))))))))))
 have hE:=(Zi hm).symm
 refine Qu [1] Z (H':=[_]) Z ?_
 refine Qd false hE [12,3,0,5,6,14] Z (asK [3,4,5] Z) Z
 replace hm:=Qv hm b7
 refine wO Z (wO Z (wO Z (wO Z (wP Z (wP Z (wO Z (wO Z (wO Z (wP Z (wP Z (wO Z (wO Z (wO Z ?_)))))))))))))
 refine wO Z (wP Z (wP Z (Q4 (Qf ?_))))
 have hE:=(Zi hm).symm
 refine Qu [1] Z (H':=[_]) Z ?_
 refine Qd false hE [12,3,0,5,6,14] Z (asK [3,4,5] Z) Z
 replace hm:=Qv hm b6
 refine Q2 [131,14,13,12,3,0,5,6] (S':=V8 ..) Z (Q5 (Q1 (wP Z (wP Z (Q4 (Q3 (Q2 [174,131,14,13,12,3,0,5,6] (S':=V9 ..) Z ?_)))))))
 refine Qm Z (fun bA=>?_) (fun bA=>?_)
 replace hm:=Qw hm bA
 refine Q2 [13,12,3,0,5,6] (S':=V6 ..) Z (Q1 (wF Z Q7j (wD 0 1 Z QZ Q15 Z (wP Z (wP Z ?_)))))
 refine Qr (d:=179) (S':=V9 ..) Z Z (fun bB=>?_) (fun bB=>?_)
 replace hm:=Qw hm bB
 refine wF Z Q7k (wD 0 2 Z QZ Q15 Z (wP Z (wP Z (wP Z ?_))))
 refine Qr (d:=184) (S':=V14 ..) Z Z (fun bC=>?_) (fun bC=>?_)
 replace hm:=Qw hm bC
 refine wF Z Q5T (wD 0 3 Z Q51 Q50 Z (wN Z Q4r (wP Z (QD (d:=188) (v':=.bool (decide (0 < aG.exprs.length))) (S':=V18 ..) Z Z (Q8r (a:=aG.exprs.length) (b:=0)) (wP Z (wP Z ?_))))))
 refine Qr (d:=190) (S':=V20 ..) Z Z (fun bD=>?_) (fun bD=>?_)
 replace hm:=Qw hm bD
 refine wF Z Q5T (wD 0 3 Z Q51 Q50 Z (wP Z ?_))
 obtain ⟨cW,c8,hm⟩:=Q7 hm
 refine wC [] [0,1] Z fn_112 Z (Q72 N bL.1 bL.2 aG.exprs aB _ c8) (asK [0] Z) Z (H':=[_,_]) Z ?_
 rintro _ _ _ ⟨rfl,rfl,rfl⟩
 refine wP Z (wP Z (Q4 (Qf ?_)))
 have hE:=(Zi hm).symm
 refine Qu [1] Z (H':=[_]) Z ?_
 refine Qd cW hE [12,3,0,5,6,14] Z (asK [3,4,5] Z) Z
 replace hm:=Qv hm bD
 refine wO Z (wO Z (wO Z (wO Z (wP Z (wP Z (Q4 (Qf ?_)))))))
 have hE:=(Zi hm).symm
 refine Qu [1] Z (H':=[_]) Z ?_
 refine Qd false hE [12,3,0,5,6,14] Z (asK [3,4,5] Z) Z
 replace hm:=Qv hm bC
 refine wO Z (wO Z (wO Z (wO Z (wP Z (wP Z (wO Z (wO Z (wO Z (wO Z (wP Z (wP Z (Q4 (Qf ?_)))))))))))))
 have hE:=(Zi hm).symm
 refine Qu [1] Z (H':=[_]) Z ?_
 refine Qd false hE [12,3,0,5,6,14] Z (asK [3,4,5] Z) Z
 replace hm:=Qv hm bB
 refine wO Z (wO Z (wO Z (wP Z (wP Z (wO Z (wO Z (wO Z (wO Z (wP Z (wP Z (wO Z (wO Z (wO Z ?_)))))))))))))
 refine wO Z (wP Z (wP Z (Q4 (Qf ?_))))
 have hE:=(Zi hm).symm
 refine Qu [1] Z (H':=[_]) Z ?_
 refine Qd false hE [12,3,0,5,6,14] Z (asK [3,4,5] Z) Z
 replace hm:=Qv hm bA
 refine Q2 [131,14,13,12,3,0,5,6] (S':=V8 ..) Z (Q5 (Q1 (wP Z (wP Z (Q4 (Q3 (Q2 [196,14,13,12,3,0,5,6] (S':=V8 ..) Z ?_)))))))
 refine Qm Z (fun bE=>?_) (fun bE=>?_)
 replace hm:=Qw hm bE
 refine Q2 [13,12,3,0,5,6] (S':=V6 ..) Z (Q1 (wF Z Q7j (wD 0 1 Z QZ Q15 Z (wP Z (wP Z ?_)))))
 refine Qr (d:=201) (S':=V9 ..) Z Z (fun bF=>?_) (fun bF=>?_)
 replace hm:=Qw hm bF
 refine wF Z Q7k (wD 0 2 Z QZ Q15 Z (wP Z (wP Z (wP Z ?_))))
 refine Qr (d:=206) (S':=V14 ..) Z Z (fun bG=>?_) (fun bG=>?_)
 replace hm:=Qw hm bG
 refine wF Z Q5T (wD 0 3 Z Q51 Q50 Z (wN Z Q4r (wP Z (QD (d:=210) (v':=.bool (aG.exprs.length==0)) (S':=V18 ..) Z Z (Q6W (a:=aG.exprs.length) (b:=0)) (wP Z (wP Z (Q4 (Qf ?_))))))))
 have hE:=(Zi hm).symm
 refine Qu [1] Z (H':=[_]) Z ?_
 refine Qd (aG.exprs.length==0) hE [12,3,0,5,6,14] Z (asK [3,4,5] Z) Z
 replace hm:=Qv hm bG
 refine wO Z (wO Z (wO Z (wO Z (wP Z (wP Z (Q4 (Qf ?_)))))))
 have hE:=(Zi hm).symm
 refine Qu [1] Z (H':=[_]) Z ?_
 refine Qd false hE [12,3,0,5,6,14] Z (asK [3,4,5] Z) Z
 replace hm:=Qv hm bF
 refine wO Z (wO Z (wO Z (wP Z (wP Z (wO Z (wO Z (wO Z (wO Z (wP Z (wP Z (Q4 (Qf ?_))))))))))))
 have hE:=(Zi hm).symm
 refine Qu [1] Z (H':=[_]) Z ?_
 refine Qd false hE [12,3,0,5,6,14] Z (asK [3,4,5] Z) Z
 replace hm:=Qv hm bE
 refine Q2 [14,12,3,0,5,6] (S':=V6 ..) Z (Qt (Qf ?_))
 have hE:=(Zi hm).symm
 refine Qu [1] Z (H':=[_]) Z ?_
 refine Qd false hE [12,3,0,5,6,14] Z (asK [3,4,5] Z) Z
 rintro aL hE
 try dsimp only
 have hm:=hLj_9
 try rw [hE] at hm
 refine Q5 (Q1 (wP Z (wP Z (Q4 (Q3 (Q2 [213,12,3,0,5,6] (S':=V6 ..) Z ?_))))))
 refine Qm Z (fun bH=>?_) (fun bH=>?_)
 replace hm:=Qw hm bH
 refine Q2 [] (S':=[]) Z (Q5 (Q1 (wP Z (Q4 (Q3 (Qk (Qa (Q8 (Q8 (Qa (Q8 ?_)))))))))))
 have hE:=(Zi hm).symm
 replace hE:=Qn hLu3 hE
 replace hE:=Qn hLj_8 hE
 replace hE:=hE.symm
 subst hE
 refine Qq (Hr:=[]) [] Tryz.results71 (Qb Z) ⟨Z,Z,Z⟩ (asK [] Z) Z Z (.inl Z)
 replace hm:=Qv hm bH
 refine Q2 [12,3,0,5,6] (S':=V5 ..) Z (Qt (Qf (Q3 (Q1 (wP Z (wP Z ?_))))))
 obtain ⟨c9,hm⟩:=Qz hm
 refine QD (d:=124) (v':=.int .i64 ((a0+1:Nat):Int)) (S':=V6 ..) Z Z (Q1f (a:=a0) (b:=1) c9) (QS (S':=V6 ..) Z Z Z Z Z (Q4 ?_))
 have hE:=(Zi hm).symm
 replace hE:=QA hLu3 hE
 refine QY (_,a0+1) (Nat.lt_succ_self _) hE [12,3,0,5,6] Z (asK [0,1,2] Z) Z
 replace hm:=Qv hm b2
 refine Q2 [3,5] (S':=[_,_]) Z (Q1k (Qo (Qo (QG ?_))))
 have hE:=(Zi hm).symm
 replace hE:=Qn hLu3 hE
 refine Qd () hE [3,5] Z (asK [0,1] Z) Z
 rintro _ hE
 try dsimp only
 have hm:=QA hLj_8 hE
 try dsimp only at hm
 refine Q5 (Q1 (wF Z tF_52_2 (wD 0 2 Z QZ Q15 Z (wP Z (wP Z (wP Z ?_))))))
 refine Qr (d:=218) (S':=V6 ..) Z Z (fun bI=>?_) (fun bI=>?_)
 replace hm:=Qw hm bI
 refine wP Z (wP Z (wP Z (wP Z (Q4 (Q3 (Q2 [4] (S':=[_]) Z (Qk ?_)))))))
 have hE:=(Zi hm).symm
 replace hE:=hE.symm
 subst hE
 refine Qq (Hr:=[]) [] Tryz.results71 (Qb Z) ⟨Z,Z,Z⟩ (asK [] Z) Z Z (.inl Z)
 replace hm:=Qv hm bI
 refine wO Z (wO Z (wP Z (wP Z (Q4 (Q3 (Q2 [4] (S':=[_]) Z (Qk ?_)))))))
 have hE:=(Zi hm).symm
 replace hE:=hE.symm
 subst hE
 refine Qq (Hr:=[]) [] Tryz.results71 (Qb Z) ⟨Z,Z,Z⟩ (asK [] Z) Z Z (.inl Z)
end Go.Proofs.YtbgodclhmgmcgaaGreatDoor
