import Derived.Test.YtbgodclhmgmcgaaGreatDoorXW2
namespace Go.Proofs.YtbgodclhmgmcgaaGreatDoor
open Go.RowKit
set_option maxRecDepth 100000
set_option maxHeartbeats 4000000
theorem Q7V (N:Nat)(a0:Int)(a1:Int)(b0:OA)(b1:Nat)(l2:List Q3S)(a3:Int)(a4:Int)(a5:Int)(a6:ByteArray)(a7:Int)(a8:Int)(aW:OA)(aX:Nat)(l9:List Qe)(aR:OA)(aS:Nat)(s:List Int)(aP:OA)(aQ:Nat)(aK:List V)(b6:OA)(b7:Nat)(aY:List QP)(o2:List Qc)(hm:Q3X N a0 a1 l2 a3 a4 a5 a6 a7 a8 l9 s aK aY=some o2):Q1d Tryz.prog 50 [.agg #[.int .u8 a0,.int .i64 a1,.slice b0 l2.length b1,.int .u8 a3,.int .u8 a4,.int .i64 a5,.string a6,.int .i64 a7,.int .u8 a8,.slice aW l9.length aX],.agg #[.slice aR s.length aS,.slice aP aK.length aQ],.slice b6 aY.length b7] [.sli 5 Q2w b0 b1 l2,.sli 7 Qs aW aX l9,.sli 1 Q2v aR aS s,.sli 3 R_V aP aQ aK,.sli 3 QW b6 b7 aY] [] (fun v Φr Hr=>∃ (o0:OA)(o1:Nat),v=.slice o0 o2.length o1∧Φr=[.sli 2 QK o0 o1 o2]∧Hr=[]):=by
 unfold Q3X at hm
 refine QI Tryz.func50 Z Tryz.ntmps50 Z (S:=V3 ..) Z (fun C=>(Q5 (Q1 (wB Z (fun g3=>(wB Z (fun g4=>(wP Z (Q4 (Q3 (Q2 [4,3,2] (S':=V3 ..) Z (Q5 (Q5 (Q1 (wF Z Q6o (wD 1 0 Z tS_53 tA_53 Z ?_))))))))))))))))
 refine wP Z (Q4 (Q3 (Q2 [15,4,3,2] (S':=V4 ..) Z ?_)))
 refine Qm Z (fun bC=>?_) (fun bC=>?_)
 replace hm:=Qw hm bC
 refine Q2 [4,3] (S':=[_,_]) Z (Q5 (Q1 (wF Z Q93 (QM 1 3 Z Z Z Zq Z Z Z (cs:=V7 ..) Z Q52 Q6E Z Z (wF Z tF_93_1 (wD 0 1 Z Q5i Q5f Z ?_))))))
 obtain ⟨⟨cK,bZ,cL,bD⟩,c3,hm⟩:=Q7 hm
 try dsimp only at hm
 refine wC [] [0,1] Z fn_91 Z (Qa0 N a3 a4 a5 a6 a7 a8 aW aX l9 aP aQ aK _ _ _ _ c3) (asK [1,3] Z) Z (H':=[_,_]) Z ?_
 rintro _ _ _ ⟨rfl,rfl,rfl⟩
 refine wP Z (wP Z (wP Z (Q13 Z Z Z Zq Z Q1Q Z (fun g7=>(wS 0 0 Z QB (all':=V3 ..) Z (H':=V3 ..) Z (wP Z (Q4 (Q3 (Q2 [8,7,4] (S':=V3 ..) Z (Q5 (Q5 ?_)))))))))))
 obtain ⟨c4,hm,hLj_1⟩:=Q7 hm
 refine QF (σ:=Bool) (fun aO=>c4=aO) (fun aO=>[(4,.pointer (some ⟨g4,0,none⟩)),(35,.bool aO)]) (fun aO=>[.sli 1 Q2v aR aS s,.sli 3 R_V aP aQ aK]) (fun aO=>[.blk g4 [.slice aR s.length aS,.slice aP aK.length aQ] 93]) ?_ ?_
 refine Q1 (wP Z (wP Z (QD (d:=25) (v':=.bool (bD==0)) (S':=V4 ..) Z Z (Q6W (a:=bD) (b:=0)) (wP Z ?_))))
 refine Qr (d:=26) (S':=V5 ..) Z Z (fun bE=>?_) (fun bE=>?_)
 replace hm:=Qw hm bE
 refine wF Z Q9T (wD 0 0 Z tS_55 tA_55 Z (wP Z (wP Z (wP Z ?_))))
 refine Qr (d:=31) (S':=V10 ..) Z Z (fun bF=>?_) (fun bF=>?_)
 replace hm:=Qw hm bF
 refine wF Z Q1Z (wD 0 1 Z Q6p Q6n Z (wP Z (wP Z (Q4 ?_))))
 have hE:=(Zi hm).symm
 refine Qu [1] Z (H':=[_]) Z ?_
 refine Qd (bZ !=0) hE [4,35] Z (asK [2,3] Z) Z
 replace hm:=Qv hm bF
 refine wO Z (wO Z (wO Z (wP Z (Q4 ?_))))
 have hE:=(Zi hm).symm
 refine Qu [1] Z (H':=[_]) Z ?_
 refine Qd false hE [4,35] Z (asK [2,3] Z) Z
 replace hm:=Qv hm bE
 refine wO Z (wO Z (wO Z (wP Z (wP Z (wO Z (wO Z (wO Z (wP Z (Q4 ?_)))))))))
 have hE:=(Zi hm).symm
 refine Qu [1] Z (H':=[_]) Z ?_
 refine Qd false hE [4,35] Z (asK [2,3] Z) Z
 rintro aO hE
 try dsimp only
 have hm:=hLj_1
 try rw [hE] at hm
 refine Qm Z (fun bG=>?_) (fun bG=>?_)
 replace hm:=Qw hm bG
 refine Q2 [4] (S':=[_]) Z (Q5 (Q1 (QM 0 0 Z Z Z Zq Z Z Z (cs:=[_,_]) Z Q96 tA_93 Z Z (Q1y Z Z Z Zq Z Q8Z Q96 tZ_93 Z (zs:=[V1,V1]) (by kernel_rfl) Z (out:=[_,_]) Z (fun c5=>(wP Z (Q4 (Q3 (Q2 [6] (S':=[_]) Z (Qk (Q8 (Q8 (we_row (sz:=2) (m:=1) QK ([(⟨s,aK⟩ : Qc)]) 0 Z (fun F w hφ=>⟨[.slice aR s.length aS,.slice aP aK.length aQ],[],Z,Z,⟨((aR,aS),(aP,aQ)),Z,(Q1j (hφ _ (Q1W (k:=0) Z)) (Q1j (hφ _ (Q1W (k:=1) Z)) Q1n))⟩,Z⟩) Z (by decide) (H':=[_,_]) Z (Q9z 0 Z (H':=[_]) Z ?_))))))))))))))
 refine Q7J (.sli 2 QK (some ⟨c5,0,none⟩) 1 ([(⟨s,aK⟩ : Qc)])) (fun F w hφ=>Q5R (hφ _ (Q1W (k:=0) Z))) ?_
 have hE:=(Zi hm).symm
 replace hE:=hE.symm
 subst hE
 refine Qq (Hr:=[]) [] Tryz.results50 (Qb Z) ⟨some ⟨c5,0,none⟩,1,Z,Z,Z⟩ (asK [0] Z) Z Z (.inl Z)
 replace hm:=Qv hm bG
 refine Q2 [] (S':=[]) Z (Qt (Q3 (Q5 (Q1 (wP Z (Q4 (Q3 (Qk (Q8 ?_)))))))))
 have hE:=(Zi hm).symm
 replace hE:=hE.symm
 subst hE
 refine Q7J (.sli 2 QK none 0 ([] : List Qc)) (fun _ _ _=>Q7O) ?_
 refine Qq (Hr:=[]) [] Tryz.results50 (Qb Z) ⟨none,0,Z,Z,Z⟩ (asK [0] Z) Z Z (.inl Z)
 replace hm:=Qv hm bC
 refine Q2 [4,3,2] (S':=V3 ..) Z (Qt (Q3 (Q5 (Q1 (wP Z (Q4 (Q3 (Q5 ?_))))))))
 obtain ⟨bW,hm,hLj_2⟩:=QN hm
 refine QF (σ:=(List Qc)×OA×Nat×Nat) (fun (aF,a9,aA,aL)=>bW=.inl aF) (fun (aF,a9,aA,aL)=>[(4,.pointer (some ⟨g4,0,none⟩)),(3,.pointer (some ⟨g3,0,none⟩)),(9,.slice a9 aL aA)]) (fun (aF,a9,aA,aL)=>[.sli 1 Q2v aR aS s,.sli 3 R_V aP aQ aK,.sli 5 Q2w b0 b1 l2,.sli 7 Qs aW aX l9]) (fun (aF,a9,aA,aL)=>[.blk g4 [.slice aR s.length aS,.slice aP aK.length aQ] 93,.blk g3 [.int .u8 a0,.int .i64 a1,.slice b0 l2.length b1,.int .u8 a3,.int .u8 a4,.int .i64 a5,.string a6,.int .i64 a7,.int .u8 a8,.slice aW l9.length aX] 67,Q6F QQ 93 2 (.slice a9 aL aA) aF]) ?_ ?_
 refine Q5 (Q1 (wP Z (Q4 (Q3 (Qx (wc_sh [Q6F QQ 93 2 (V1) [],_,_] (fun _ h=>h.treeNil QQ 93 2) (Q1o (σ:=Nat×Nat×(List Qc)×OA×Nat×Nat) (fun (b4,a2,y,aC,aD,aE)=>Q19 (Q2z N aY a0 a1 l2 a3 a4 a5 a6 a7 a8 l9 aK s) b4 (a2,y)=some bW) (fun (b4,a2,y,aC,aD,aE)=>b4) (fun (b4,a2,y,aC,aD,aE)=>[(10,.int .i64 ((a2:Nat):Int)),(9,.slice aC aE aD),(4,.pointer (some ⟨g4,0,none⟩)),(3,.pointer (some ⟨g3,0,none⟩)),(2,.slice b6 aY.length b7)]) (fun (b4,a2,y,aC,aD,aE)=>[.sli 1 Q2v aR aS s,.sli 3 R_V aP aQ aK,.sli 5 Q2w b0 b1 l2,.sli 7 Qs aW aX l9,.sli 3 QW b6 b7 aY]) (fun (b4,a2,y,aC,aD,aE)=>[Q6F QQ 93 2 (.slice aC aE aD) y,.blk g4 [.slice aR s.length aS,.slice aP aK.length aQ] 93,.blk g3 [.int .u8 a0,.int .i64 a1,.slice b0 l2.length b1,.int .u8 a3,.int .u8 a4,.int .i64 a5,.string a6,.int .i64 a7,.int .u8 a8,.slice aW l9.length aX] 67]) (N,0,[],none,0,0) hm [10,9,4,3,2] Z (asK [2,3,0,1,4] Z) Z (fun s_ hm=>?_))))))))
 obtain ⟨b4,a2,y,aC,aD,aE⟩:=s_
 try dsimp only at hm ⊢
 obtain ⟨cV,cW,c6,hq,hLu1⟩:=Q10 hm
 clear hm
 subst c6
 replace hm:=hq
 clear hq
 unfold Q2z at hm
 try dsimp only at hm
 refine Q5 (Q5 (Q1 (wP Z (wP Z (wN Z Q6s (wP Z (QD (d:=41) (v':=.bool (decide (a2 < aY.length))) (S':=V8 ..) Z Z (Q2E (a:=a2) (b:=aY.length)) (Q4 (Q3 (Q2 [41,10,9,4,3,2] (S':=V6 ..) Z ?_))))))))))
 refine Qm Z (fun bH=>?_) (fun bH=>?_)
 replace hm:=Qw hm bH
 refine Q2 [10,9,4,3,2] (S':=V5 ..) Z (Qt (Q3 (Q5 ?_)))
 obtain ⟨c7,hm,hLj_3⟩:=QN hm
 unfold Q64 at hm
 refine QF (σ:=(List Qc)×OA×Nat×Nat) (fun (aG,aH,aI,aJ)=>c7=.inl aG) (fun (aG,aH,aI,aJ)=>[(10,.int .i64 ((a2:Nat):Int)),(9,.slice aH aJ aI),(4,.pointer (some ⟨g4,0,none⟩)),(3,.pointer (some ⟨g3,0,none⟩)),(2,.slice b6 aY.length b7)]) (fun (aG,aH,aI,aJ)=>[.sli 1 Q2v aR aS s,.sli 3 R_V aP aQ aK,.sli 5 Q2w b0 b1 l2,.sli 7 Qs aW aX l9,.sli 3 QW b6 b7 aY]) (fun (aG,aH,aI,aJ)=>[Q6F QQ 93 2 (.slice aH aJ aI) aG,.blk g4 [.slice aR s.length aS,.slice aP aK.length aQ] 93,.blk g3 [.int .u8 a0,.int .i64 a1,.slice b0 l2.length b1,.int .u8 a3,.int .u8 a4,.int .i64 a5,.string a6,.int .i64 a7,.int .u8 a8,.slice aW l9.length aX] 67]) ?_ ?_
 refine Qx (Q5 ?_)
 obtain ⟨c0,c8,hm⟩:=Q7 hm
 obtain ⟨⟨z,cM⟩,c9,hm⟩:=Q7 hm
 try dsimp only at hm
 refine QR [0,1,2,3,4,5,6,8,9,10] Z Z (fun hok=>(Ql hok 0 2 0 Z Z Z Zq Z Z Z Z (cs:=V10 ..) Z Q6t tA_67 Z Z (xP hok 1 Z (xP hok 2 Z (Q1B hok 3 4 a2 Z Z Z Zq Z Z Z Z Z Z c8 Q6s Q5Z (fun cX cY cT cN=>(Q1X Q2k 1 Z (fun cA cB _=>?_))))))))
 subst cB
 refine Q2J hok 4 1 0 Z Z Z Zq Z Z Z Z (cs:=V3 ..) Z Q5Z tA_71 Z Z (Q9 hok 5 Z Z Z Zq Z Z Z tF_93_1 (Ql hok 6 1 1 Z Z Z Zq Z Z Z Z (cs:=[_]) Z Q5i Q5f Z Z (xS hok 7 Z (wC [] [0,1,2] Z fn_92 Z (Q9y N a0 a1 b0 b1 l2 a3 a4 a5 a6 a7 a8 aW aX l9 c0.id c0.ty cA.1 cA.2 c0.args aP aQ aK _ _ c9) (asK [5,6,0,4] Z) Z (H':=V3 ..) Z ?_))))
 rintro _ _ _ ⟨aM,aN,cO,rfl,rfl,rfl⟩
 refine Q4 (Q12 [0,1,2,3,4,5,6,7] [] Z Z (xP hok 8 Z (xP hok 9 Z (xP hok 10 Z (xS hok 11 Z (wP Z (Q4 (Q12 [0,1,2,3,4,5,6,7] [] Z Z (xS hok 12 Z (wP Z (Q4 (Q12 [0,1,2,3,4,5,6,7] [] Z Z (QO hok Z ?_)))))))))))))
 refine Q3 (Q2 [12,11,10,9,4,3,2] (S':=V7 ..) Z (Q5 (Q5 (Q1 (wP Z (wP Z (Q4 (Q3 (Q2 [56,11,10,9,4,3,2] (S':=V7 ..) Z ?_)))))))))
 refine Qm Z (fun bI=>?_) (fun bI=>?_)
 replace hm:=Qw hm bI
 refine Q2 [10,9,4,3,2] (S':=V5 ..) Z (Q1k (Qo (QG ?_)))
 have hE:=(Zi hm).symm
 refine Qu [1,2,3] Z (H':=V3 ..) Z ?_
 refine Qd (y,aC,aD,aE) hE [10,9,4,3,2] Z (asK [3,4,5,6,7] Z) Z
 replace hm:=Qv hm bI
 refine Q2 [11,10,9,4,3,2] (S':=V6 ..) Z (Qt (Q3 (Q5 (Q5 (Q1 (wF Z Q6o (wD 3 0 Z tS_53 tA_53 Z (wP Z (Q4 (Q3 (Q2 [59,11,10,9,4,3,2] (S':=V7 ..) Z ?_)))))))))))
 refine Qm Z (fun bJ=>?_) (fun bJ=>?_)
 replace hm:=Qw hm bJ
 refine Q2 [] (S':=[]) Z (Q5 (Q1 (wP Z (Q4 (Q3 (Qk (Q8 (Qa (Q8 (Q8 (Qa (Q8 ?_))))))))))))
 have hE:=(Zi hm).symm
 replace hE:=Qn hLj_3 hE
 replace hE:=Qn hLu1 hE
 replace hE:=Qn hLj_2 hE
 replace hE:=hE.symm
 subst hE
 refine Q7J (.sli 2 QK none 0 ([] : List Qc)) (fun _ _ _=>Q7O) ?_
 refine Qq (Hr:=[]) [] Tryz.results50 (Qb Z) ⟨none,0,Z,Z,Z⟩ (asK [0] Z) Z Z (.inl Z)
 ·
  replace hm:=Qv hm bJ
  refine Q2 [11,10,9,4,3,2] (S':=V6 ..) Z (Qt (Q3 ?_))
  obtain ⟨aZ,hm⟩:=Qz hm
  obtain ⟨aB,cC,hm⟩:=Q7 hm
  obtain ⟨b5,hm⟩:=Qz hm
  obtain ⟨cD,hm⟩:=Qz hm
  refine QR [0,2,3,5,6,7,8,9,12,13] Z Z (fun hok=>(xP hok 0 Z (Q9 hok 2 Z Z Z Zq Z Z Z tF_93_0 (Ql hok 3 2 0 Z Z Z Zq Z Z Z Z (cs:=[_]) Z tS_39 tA_39 Z Z (xP hok 5 Z (xP hok 6 Z (Q1B hok 7 7 a2 Z Z Z Zq Z Z Z Z Z Z cC Q6s Q5Z (fun cZ d0 cU cP=>(Q1X Q2k 1 Z (fun d1 cE _=>?_))))))))))
  subst cE
  refine Q9 hok 8 Z Z Z Zq Z Z Z Q3g (Q2J hok 9 1 0 Z Z Z Zq Z Z Z Z (cs:=[_]) Z QZ Q15 Z Z (xP hok 12 Z ?_))
  refine Q8H hok 1 10 Z Z Z Z Z Z ?_ ?_
  rotate_left
  focus
   refine Q1y Z Z Z Zq Z Q6i QZ tZ_3 Z (zs:=[.int .i64 0]) (by kernel_rfl) Z (out:=[_]) Z (fun cF=>(Q4 (Q12 [0,1,2,3,4,5,6,7,8,9,10] [3] Z Z (xS hok 1 Z (Q1y Z Z Z Zq Z Q6i QZ tZ_3 Z (zs:=[]) (by kernel_rfl) Z (out:=[]) Z (fun cQ=>(Q4 (Q12 [0,1,2,3,4,5,6,7,8,9,10] [4] Z Z (xS hok 4 Z (wl_row (sz:=1) (m:=0) Q2v [] 0 Z (fun F w hφ=>Z) Z (by decide) (H':=V6 ..) Z (Q7F 0 6 Z Z Z Zq Z Z Z Z Z Q6i tR_3 Z Z (Nat.le_trans aZ (by decide)) (Nat.le_trans (Nat.mul_le_mul_right _ aZ) (by decide)) (H2:=fun b2 b3=>[.own 3 1 Q2v (.slice b2 (s).length b3) s,_,_,_,_,_]) (fun _ _=>Z) (fun b2 b3=>(Q4 (Q12 [0,1,2,3,4,5,6,7,8,9,10] [] Z Z (xS hok 11 Z (Q6S [aB.id] 0 1 Z Z Z Zq Z Z Z Z Z (fun F w hφ=>⟨[.int .i64 (aB.id)],[],Z,Z,⟨(),Z,Q1n⟩,Z⟩) Q6i tR_3 Z Z (Nat.le_trans b5 (by decide)) (Nat.le_trans (Nat.mul_le_mul_right _ b5) (by decide)) (H2:=fun aT aU=>[.own 3 1 Q2v (.slice aT ((s++[aB.id]).length) aU) (s++[aB.id]),_,_,_,_,_]) (fun _ _=>Z) (fun aT aU=>?_)))))))))))))))))
   refine Qa6 1 Z (H':=V5 ..) Z ?_
  rotate_right
  focus
   refine Q1y Z Z Z Zq Z Q6i QZ tZ_3 Z (zs:=[]) (by kernel_rfl) Z (out:=[]) Z (fun cQ=>(Q4 (Q12 [0,1,2,3,4,5,6,7,8,9,10] [3] Z Z ?_)))
   refine Q8H hok 4 10 Z Z Z Z Z Z ?_ ?_
   rotate_left
   focus
    refine Q1y Z Z Z Zq Z Q6i QZ tZ_3 Z (zs:=[.int .i64 0]) (by kernel_rfl) Z (out:=[_]) Z (fun cF=>(Q4 (Q12 [0,1,2,3,4,5,6,7,8,9,10] [4] Z Z (xS hok 4 Z (wl_row (sz:=1) (m:=0) Q2v [] 1 Z (fun F w hφ=>Z) Z (by decide) (H':=V6 ..) Z (Q7F 1 6 Z Z Z Zq Z Z Z Z Z Q6i tR_3 Z Z (Nat.le_trans aZ (by decide)) (Nat.le_trans (Nat.mul_le_mul_right _ aZ) (by decide)) (H2:=fun b2 b3=>[_,.own 3 1 Q2v (.slice b2 (s).length b3) s,_,_,_,_]) (fun _ _=>Z) (fun b2 b3=>(Q4 (Q12 [0,1,2,3,4,5,6,7,8,9,10] [] Z Z ?_)))))))))
   rotate_right
   focus
    refine wl_row (sz:=1) (m:=0) Q2v [] 0 Z (fun F w hφ=>Z) Z (by decide) (H':=V5 ..) Z (Q7F 0 6 Z Z Z Zq Z Z Z Z Z Q6i tR_3 Z Z (Nat.le_trans aZ (by decide)) (Nat.le_trans (Nat.mul_le_mul_right _ aZ) (by decide)) (H2:=fun b2 b3=>[.own 3 1 Q2v (.slice b2 (s).length b3) s,_,_,_,_]) (fun _ _=>Z) (fun b2 b3=>(Q4 (Q12 [0,1,2,3,4,5,6,7,8,9,10] [] Z Z (xS hok 10 Z (Q1y Z Z Z Zq Z Q6i QZ tZ_3 Z (zs:=[.int .i64 0]) (by kernel_rfl) Z (out:=[_]) Z (fun cF=>(Q4 (Q12 [0,1,2,3,4,5,6,7,8,9,10] [4] Z Z ?_)))))))))
   all_goals
    refine xS hok 11 Z (Q6S [aB.id] 1 0 Z Z Z Zq Z Z Z Z Z (fun F w hφ=>⟨[.int .i64 (aB.id)],[],Z,Z,⟨(),Z,Q1n⟩,Z⟩) Q6i tR_3 Z Z (Nat.le_trans b5 (by decide)) (Nat.le_trans (Nat.mul_le_mul_right _ b5) (by decide)) (H2:=fun aT aU=>[_,.own 3 1 Q2v (.slice aT ((s++[aB.id]).length) aU) (s++[aB.id]),_,_,_,_]) (fun _ _=>Z) (fun aT aU=>(Qa6 0 Z (H':=V5 ..) Z ?_)))
  all_goals
   refine Q4 (Q12 [0,1,2,3,4,5,6,7,8,9,10] [3] Z Z (QaC hok 13 Z Z Z Zq Z Z tZ_93 tP_93 Z (out:=[_,_]) Z (xS hok 14 Z (Q1y Z Z Z Zq Z Q8Z Q96 tZ_93 Z (zs:=[V1,V1]) (by kernel_rfl) Z (out:=[_,_]) Z (fun d2=>(Q4 (Q12 [0,1,2,3,4,5,6,7,8,9,10] [4] Z Z (xS hok 15 Z (wl_treeLen 3 Z (fun c1 _=>?_))))))))))
   subst c1
   refine Q3H 2 Z (fun bK _=>?_)
   subst bK
   refine wl_treeOut 3 Z (fun aV bL=>?_)
   have bM:List.map (fun x:Qc×((OA×Nat)×(OA×Nat))=>x.1) (aV++[((⟨s++[aB.id],z⟩ : Qc),((aT,aU),(aM,aN)))])=y++[(⟨s++[aB.id],z⟩ : Qc)]:=pair_app bL (us:=[(⟨s++[aB.id],z⟩ : Qc)]) rfl
   have bN:aV.length+([((⟨s++[aB.id],z⟩ : Qc),((aT,aU),(aM,aN)))] : List (Qc×((OA×Nat)×(OA×Nat)))).length≤2932031007402:=by rw [pair_len bL];exact cD
   refine Q6S (R:=QQ.pair) ([((⟨s++[aB.id],z⟩ : Qc),((aT,aU),(aM,aN)))]) 4 1 Z Z Z Zq Z Z Z Z Z (fun F w hφ=>⟨[.slice aT ((s++[aB.id]).length) aU,.slice aM z.length aN],[],Z,Z,Z,Z⟩) Q8Z tR_93 Z Z (Nat.le_trans bN (by decide)) (Nat.le_trans (Nat.mul_le_mul_right _ bN) (by decide)) (H2:=fun b8 b9=>[_,_,_,_,.own 93 2 QQ.pair (.slice b8 ((aV++[((⟨s++[aB.id],z⟩ : Qc),((aT,aU),(aM,aN)))]).length) b9) (aV++[((⟨s++[aB.id],z⟩ : Qc),((aT,aU),(aM,aN)))]),_,_]) (fun _ _=>Z) (fun b8 b9=>(Qa6 1 Z (H':=V6 ..) Z (QD (d:=75) (v':=.slice b8 ((y++[(⟨s++[aB.id],z⟩ : Qc)]).length) b9) (S':=V21 ..) Z Z (by rw [pair_len bM]) (wl_hAs 3 (φ':=.own 93 2 QQ.pair (.slice b8 ((y++[(⟨s++[aB.id],z⟩ : Qc)]).length) b9) (aV++[((⟨s++[aB.id],z⟩ : Qc),((aT,aU),(aM,aN)))])) Z (by rw [pair_len bM]) (H':=V6 ..) Z (wl_pick [2,1,0,3,4,5] Z (H':=V6 ..) Z (wl_sh [bagF QQ (aV++[((⟨s++[aB.id],z⟩ : Qc),((aT,aU),(aM,aN)))]) none,_,_,_] (fun _ h=>QL.bagPush (T:=QQ) (x:=(⟨s++[aB.id],z⟩ : Qc)) (r:=((aT,aU),(aM,aN))) (zs:=aV) (H:=V4 ..) h 0 Z) (wl_sh [Q6F QQ 93 2 (.slice b8 ((y++[(⟨s++[aB.id],z⟩ : Qc)]).length) b9) (y++[(⟨s++[aB.id],z⟩ : Qc)]),_,_] (fun _ h=>h.treeIn 1 0 Z Z Z bM) (Q4 (Q12 [0,1,2,3,4,5,6,7,8,9,10] [1] Z Z (xS hok 16 Z (QS (S':=V21 ..) Z Z Z Z Z (Q4 (Q12 [0,1,2,3,4,5,6,7,8,9,10] [] Z Z (QO hok Z ?_))))))))))))))
   refine Qf ?_
   have hE:=(Zi hm).symm
   refine Qd ((y++[(⟨s++[aB.id],z⟩ : Qc)]),b8,b9,((y++[(⟨s++[aB.id],z⟩ : Qc)]).length)) hE [10,9,4,3,2] Z (asK [6,7,8,9,10] Z) Z
 rintro ⟨aG,aH,aI,aJ⟩ hE
 try dsimp only
 have hm:=QA hLj_3 hE
 refine Q1 (wP Z (wP Z ?_))
 obtain ⟨cG,hm⟩:=Qz hm
 refine QD (d:=43) (v':=.int .i64 ((a2+1:Nat):Int)) (S':=V6 ..) Z Z (Q1f (a:=a2) (b:=1) cG) (QS (S':=V6 ..) Z Z Z Z Z (Q4 ?_))
 have hE:=(Zi hm).symm
 replace hE:=QA hLu1 hE
 refine QY (_,a2+1,aG,aH,aI,aJ) (Nat.lt_succ_self _) hE [10,9,4,3,2] Z (asK [0,1,2,3,4] Z) Z
 replace hm:=Qv hm bH
 refine Q2 [9,4,3] (S':=V3 ..) Z (Q1k (Qo (Qo (QG ?_))))
 have hE:=(Zi hm).symm
 replace hE:=Qn hLu1 hE
 refine Qu [1,2,0] Z (H':=V3 ..) Z ?_
 refine Qd (y,aC,aD,aE) hE [4,3,9] Z (asK [0,1,2,3] Z) Z
 rintro ⟨aF,a9,aA,aL⟩ hE
 try dsimp only
 have hm:=QA hLj_2 hE
 refine Q5 (Q5 (Q1 (wF Z Q6o (wD 1 0 Z tS_53 tA_53 Z (wP Z (Q4 (Q3 (Q2 [78,4,9] (S':=V3 ..) Z ?_))))))))
 refine Qm Z (fun bO=>?_) (fun bO=>?_)
 replace hm:=Qw hm bO
 refine Q2 [4] (S':=[_]) Z (Q5 (Q1 (QM 0 0 Z Z Z Zq Z Z Z (cs:=[_,_]) Z Q96 tA_93 Z Z (Q1y Z Z Z Zq Z Q8Z Q96 tZ_93 Z (zs:=[V1,V1]) (by kernel_rfl) Z (out:=[_,_]) Z (fun cH=>(wP Z (Q4 (Q3 (Q2 [6] (S':=[_]) Z (Qk (Q8 (we_row (sz:=2) (m:=1) QK ([(⟨s,aK⟩ : Qc)]) 0 Z (fun F w hφ=>⟨[.slice aR s.length aS,.slice aP aK.length aQ],[],Z,Z,⟨((aR,aS),(aP,aQ)),Z,(Q1j (hφ _ (Q1W (k:=0) Z)) (Q1j (hφ _ (Q1W (k:=1) Z)) Q1n))⟩,Z⟩) Z (by decide) (H':=V4 ..) Z (Q9z 0 Z (H':=V3 ..) Z (Q7J (.sli 2 QK (some ⟨cH,0,none⟩) 1 ([(⟨s,aK⟩ : Qc)])) (fun F w hφ=>Q5R (hφ _ (Q1W (k:=0) Z))) ?_))))))))))))))
 have hE:=(Zi hm).symm
 replace hE:=hE.symm
 subst hE
 refine Qq (Hr:=[]) [] Tryz.results50 (Qb Z) ⟨some ⟨cH,0,none⟩,1,Z,Z,Z⟩ (asK [0] Z) Z Z (.inl Z)
 replace hm:=Qv hm bO
 refine Q2 [9] (S':=[_]) Z (Qt (Q3 (Q5 (Q1 (wP Z (wP Z (Q4 (Q3 (Q2 [6] (S':=[_]) Z (Qk ?_))))))))))
 have hE:=(Zi hm).symm
 replace hE:=hE.symm
 subst hE
 refine we_treeLen 2 Z (fun cI _=>?_)
 try have hE_:=hE
 subst cI
 try have hE:=hE_
 refine Q9z 2 Z (H':=[_,_]) Z (Q7J (.sli 2 QK a9 aA aF) (fun F w hφ=>tree_sli Q6q (hφ _ (Q1W (k:=0) Z)) (fun _ h=>h) (fun _ h=>h)) ?_)
 refine Qq (Hr:=[]) [] Tryz.results50 (Qb Z) ⟨a9,aA,Z,Z,Z⟩ (asK [0] Z) Z Z (.inl Z)
theorem Qa2 (N:Nat)(a0:ByteArray)(a1:Int)(a2:Int)(aK:OA)(aL:Nat)(l3:List QE)(aM:OA)(aN:Nat)(l4:List Q20)(aO:OA)(aP:Nat)(l5:List QP)(o2:List Qc)(o3:Nat)(hm:Q4c N a0 a1 a2 l3 l4 l5=some (o2,o3)):Q1d Tryz.prog 36 [.agg #[.string a0,.int .i64 a1,.int .i64 a2,.slice aK l3.length aL,.slice aM l4.length aN],.slice aO l5.length aP] [.sli 10 Q11 aK aL l3,.sli 4 Q1c aM aN l4,.sli 3 QW aO aP l5] [] (fun v Φr Hr=>∃ (o0:OA)(o1:Nat),v=.tuple #[.slice o0 o2.length o1,.int .i64 ((o3:Nat):Int)]∧Φr=[.sli 2 QK o0 o1 o2]∧Hr=[]):=by
 unfold Q4c at hm
 refine QI Tryz.func36 Z Tryz.ntmps36 Z (S:=[_,_]) Z (fun C=>(Q5 (Q1 (wB Z (fun g2=>(wP Z (wP Z (Q4 (Q3 (Q2 [2,1] (S':=[_,_]) Z (Q5 (Q1 (Q1F Z Z Z Zq Z tZ_93 tP_93 Z (out:=[_,_]) Z (Q1y Z Z Z Zq Z Q8Z Q96 tZ_93 Z (zs:=[V1,V1]) (by kernel_rfl) Z (out:=[_,_]) Z (fun aY=>(wP Z ?_))))))))))))))))
 refine Q4 (Q3 (Q2 [6,2,1] (S':=V3 ..) Z (Q5 (Q1 (wP Z (Q4 (Q3 (Q5 ?_))))))))
 obtain ⟨bA,hm,hLj_1⟩:=Q7 hm
 refine QF (σ:=(List Qc)×Nat×OA×Nat) (fun (aE,aQ,aF,aG)=>bA=(aE,aQ)) (fun (aE,aQ,aF,aG)=>[(6,.slice aF aE.length aG),(7,.int .i64 ((aQ:Nat):Int))]) (fun (aE,aQ,aF,aG)=>[.sli 2 QK aF aG aE]) (fun (aE,aQ,aF,aG)=>[]) ?_ ?_
 refine Q5 (Q1 (wP Z (Q4 (Q3 (Qx (Q74 3 1 Q2v (Q74 57 3 R_V (wc_row (sz:=2) (m:=1) QQ.pair ([((⟨[],[]⟩ : Qc),((none,0),(none,0)))]) 2 Z (fun F w hφ=>⟨[V1,V1],[],Z,Z,Z,Z⟩) Z (by decide) (H':=V4 ..) Z (wc_sh [bagF QQ [] none,_,_,_,_] (fun _ h=>h.bagNil QQ) (wc_pick [1,2,0,3,4] Z (H':=V5 ..) Z (wc_sh [bagF QQ ([((⟨[],[]⟩ : Qc),((none,0),(none,0)))]) none,_,_] (fun _ h=>QL.bagPush (T:=QQ) (x:=(⟨[],[]⟩ : Qc)) (r:=((none,0),(none,0))) (zs:=[]) (H:=V3 ..) h 0 Z) (wc_sh [Q6F QQ 93 2 (.slice (some ⟨aY,0,none⟩) 1 1) ([(⟨[],[]⟩ : Qc)]),_] (fun _ h=>h.treeIn 1 0 Z Z Z Z) (wc_treeLen 0 Z (fun bB _=>?_))))))))))))))
 refine wc_at 2 (v':=.slice (some ⟨aY,0,none⟩) ([(⟨[],[]⟩ : Qc)].length) 1) Z (by rw [bB]) (wc_hAs 0 (φ':=Q6F QQ 93 2 (.slice (some ⟨aY,0,none⟩) ([(⟨[],[]⟩ : Qc)].length) 1) ([(⟨[],[]⟩ : Qc)])) Z (by rw [bB]) (H':=[Q6F QQ 93 2 (.slice (some ⟨aY,0,none⟩) ([(⟨[],[]⟩ : Qc)].length) 1) ([(⟨[],[]⟩ : Qc)]),.blk g2 [.string a0,.int .i64 a1,.int .i64 a2,.slice aK l3.length aL,.slice aM l4.length aN] 52]) Z (wc_freeze 0 Z (H':=[_]) Z (wc_fact (.sli 2 QK (some ⟨aY,0,none⟩) 1 ([(⟨[],[]⟩ : Qc)])) (fun F w hφ=>tree_sli Q6q (hφ _ (Q1W (k:=0) Z)) (fun _ h=>h) (fun _ h=>h)) (Q1o (σ:=Nat×Nat×Nat×(List Qc)×OA×Nat) (fun (aU,a8,a4,z,a5,a6)=>Q19 (Q1x N l3 l5) aU (a8,a4,z)=some bA) (fun (aU,a8,a4,z,a5,a6)=>aU) (fun (aU,a8,a4,z,a5,a6)=>[(8,.int .i64 ((a8:Nat):Int)),(7,.int .i64 ((a4:Nat):Int)),(6,.slice a5 z.length a6),(2,.pointer (some ⟨g2,0,none⟩)),(1,.slice aO l5.length aP)]) (fun (aU,a8,a4,z,a5,a6)=>[.sli 2 QK a5 a6 z,.sli 10 Q11 aK aL l3,.sli 4 Q1c aM aN l4,.sli 3 QW aO aP l5]) (fun (aU,a8,a4,z,a5,a6)=>[.blk g2 [.string a0,.int .i64 a1,.int .i64 a2,.slice aK l3.length aL,.slice aM l4.length aN] 52]) (N,0,0,[(⟨[],[]⟩ : Qc)],some ⟨aY,0,none⟩,1) hm [8,7,6,2,1] Z (asK [0,2,3,4] Z) Z (fun s_ hm=>?_)))))
 obtain ⟨aU,a8,a4,z,a5,a6⟩:=s_
 try dsimp only at hm ⊢
 obtain ⟨c6,c7,bG,hq,hLu1⟩:=Q10 hm
 clear hm
 subst bG
 replace hm:=hq
 clear hq
 unfold Q1x at hm
 try dsimp only at hm
 refine Q5 (Q5 ?_)
 obtain ⟨bH,hm,hLj_2⟩:=Q7 hm
 refine QF (σ:=Bool) (fun aI=>bH=aI) (fun aI=>[(8,.int .i64 ((a8:Nat):Int)),(7,.int .i64 ((a4:Nat):Int)),(6,.slice a5 z.length a6),(2,.pointer (some ⟨g2,0,none⟩)),(1,.slice aO l5.length aP),(21,.bool aI)]) (fun aI=>[.sli 2 QK a5 a6 z,.sli 10 Q11 aK aL l3,.sli 4 Q1c aM aN l4,.sli 3 QW aO aP l5]) (fun aI=>[.blk g2 [.string a0,.int .i64 a1,.int .i64 a2,.slice aK l3.length aL,.slice aM l4.length aN] 52]) ?_ ?_
 refine Q1 (wP Z (wF Z Q67 (wD 0 3 Z Q94 Q8X Z (wN Z Q86 (wP Z (QD (d:=17) (v':=.bool (decide (a8 < l3.length))) (S':=V9 ..) Z Z (Q2E (a:=a8) (b:=l3.length)) (wP Z ?_)))))))
 refine Qr (d:=18) (S':=V10 ..) Z Z (fun b0=>?_) (fun b0=>?_)
 replace hm:=Qw hm b0
 refine wP Z (wP Z (QD (d:=20) (v':=.bool (decide (a4≤4096))) (S':=V12 ..) Z Z (natle (a:=a4) (b:=4096)) (wP Z (Q4 ?_))))
 have hE:=(Zi hm).symm
 refine Qd (decide (a4≤4096)) hE [8,7,6,2,1,21] Z (asK [0,1,2,3] Z) Z
 replace hm:=Qv hm b0
 refine wO Z (wO Z (wP Z (Q4 ?_)))
 have hE:=(Zi hm).symm
 refine Qd false hE [8,7,6,2,1,21] Z (asK [0,1,2,3] Z) Z
 rintro aI hE
 try dsimp only
 have hm:=hLj_2
 try rw [hE] at hm
 refine Qm Z (fun b1=>?_) (fun b1=>?_)
 replace hm:=Qw hm b1
 refine Q2 [8,7,6,2,1] (S':=V5 ..) Z (Qt (Q3 (Q5 (Qx (Q5 (Q1 (wP Z (Q4 (Q3 (Q5 ?_))))))))))
 obtain ⟨bC,hm,hLj_3⟩:=Q7 hm
 refine QF (σ:=(List Qc)×OA×Nat×Nat) (fun (a3,aC,aD,aH)=>bC=a3) (fun (a3,aC,aD,aH)=>[(8,.int .i64 ((a8:Nat):Int)),(7,.int .i64 ((a4:Nat):Int)),(2,.pointer (some ⟨g2,0,none⟩)),(1,.slice aO l5.length aP),(9,.slice aC aH aD)]) (fun (a3,aC,aD,aH)=>[.sli 10 Q11 aK aL l3,.sli 4 Q1c aM aN l4,.sli 3 QW aO aP l5]) (fun (a3,aC,aD,aH)=>[.blk g2 [.string a0,.int .i64 a1,.int .i64 a2,.slice aK l3.length aL,.slice aM l4.length aN] 52,.own 93 2 QK (.slice aC aH aD) a3]) ?_ ?_
 refine Q5 (Q1 (wP Z (Q4 (Q3 (Qx (Q74 93 2 QK (Q1o (σ:=Nat×Nat×(List Qc)×OA×Nat×Nat) (fun (aV,a7,y,a9,aA,aB)=>Q19 (Q27 N z a4 l3 a8 l5) aV (a7,y)=some bC) (fun (aV,a7,y,a9,aA,aB)=>aV) (fun (aV,a7,y,a9,aA,aB)=>[(10,.int .i64 ((a7:Nat):Int)),(9,.slice a9 aB aA),(8,.int .i64 ((a8:Nat):Int)),(7,.int .i64 ((a4:Nat):Int)),(6,.slice a5 z.length a6),(2,.pointer (some ⟨g2,0,none⟩)),(1,.slice aO l5.length aP)]) (fun (aV,a7,y,a9,aA,aB)=>[.sli 2 QK a5 a6 z,.sli 10 Q11 aK aL l3,.sli 4 Q1c aM aN l4,.sli 3 QW aO aP l5]) (fun (aV,a7,y,a9,aA,aB)=>[.own 93 2 QK (.slice a9 aB aA) y,.blk g2 [.string a0,.int .i64 a1,.int .i64 a2,.slice aK l3.length aL,.slice aM l4.length aN] 52]) (N,0,[],none,0,0) hm [10,9,8,7,6,2,1] Z (asK [0,1,2,3] Z) Z (fun s_ hm=>?_))))))))
 obtain ⟨aV,a7,y,a9,aA,aB⟩:=s_
 try dsimp only at hm ⊢
 obtain ⟨c8,c9,bI,hq,hLu2⟩:=Q10 hm
 clear hm
 subst bI
 replace hm:=hq
 clear hq
 unfold Q27 at hm
 try dsimp only at hm
 refine Q5 (Q5 ?_)
 obtain ⟨bJ,hm,hLj_4⟩:=Q7 hm
 refine QF (σ:=Bool) (fun aJ=>bJ=aJ) (fun aJ=>[(10,.int .i64 ((a7:Nat):Int)),(9,.slice a9 aB aA),(8,.int .i64 ((a8:Nat):Int)),(7,.int .i64 ((a4:Nat):Int)),(6,.slice a5 z.length a6),(2,.pointer (some ⟨g2,0,none⟩)),(1,.slice aO l5.length aP),(34,.bool aJ)]) (fun aJ=>[.sli 2 QK a5 a6 z,.sli 10 Q11 aK aL l3,.sli 4 Q1c aM aN l4,.sli 3 QW aO aP l5]) (fun aJ=>[.own 93 2 QK (.slice a9 aB aA) y,.blk g2 [.string a0,.int .i64 a1,.int .i64 a2,.slice aK l3.length aL,.slice aM l4.length aN] 52]) ?_ ?_
 refine Q1 (wP Z (wP Z (wN Z Q8Z (wP Z (QD (d:=27) (v':=.bool (decide (a7 < z.length))) (S':=V10 ..) Z Z (Q2E (a:=a7) (b:=z.length)) (wP Z ?_))))))
 refine Qr (d:=28) (S':=V11 ..) Z Z (fun b2=>?_) (fun b2=>?_)
 replace hm:=Qw hm b2
 refine wP Z (wP Z (Q3H 0 Z (fun bK _=>(wN Z Q8Z (QD (d:=31) (v':=.int .i64 ((y.length:Nat):Int)) (S':=V14 ..) Z Z (len_is bK) (wP Z ?_))))))
 obtain ⟨bL,hm⟩:=Qz hm
 refine QD (d:=32) (v':=.int .i64 ((a4+y.length:Nat):Int)) (S':=V15 ..) Z Z (Q1f (a:=a4) (b:=y.length) bL) (wP Z (QD (d:=33) (v':=.bool (decide ((a4+y.length)≤4096))) (S':=V16 ..) Z Z (natle (a:=a4+y.length) (b:=4096)) (wP Z (Q4 ?_))))
 have hE:=(Zi hm).symm
 refine Qd (decide ((a4+y.length)≤4096)) hE [10,9,8,7,6,2,1,34] Z (asK [0,1,2,3] Z) Z
 replace hm:=Qv hm b2
 refine wO Z (wO Z (wO Z (wO Z (wO Z (wP Z (Q4 ?_))))))
 have hE:=(Zi hm).symm
 refine Qd false hE [10,9,8,7,6,2,1,34] Z (asK [0,1,2,3] Z) Z
 rintro aJ hE
 try dsimp only
 have hm:=hLj_4
 try rw [hE] at hm
 refine Qm Z (fun b3=>?_) (fun b3=>?_)
 replace hm:=Qw hm b3
 refine Q2 [10,9,8,7,6,2,1] (S':=V7 ..) Z (Qt (Q3 (Q5 (Qx ?_))))
 obtain ⟨aR,bM,hm⟩:=Q7 hm
 obtain ⟨bN,bO,hm⟩:=Q7 hm
 obtain ⟨b4,bP,hm⟩:=Q7 hm
 obtain ⟨bD,hm⟩:=Qz hm
 refine QR [0,1,2,3,4,5,6,7,8,9,10] Z Z (fun hok=>(xP hok 0 Z (Q9 hok 1 Z Z Z Zq Z Z Z Q67 (Ql hok 2 1 3 Z Z Z Zq Z Z Z Z (cs:=[_]) Z Q94 Q8X Z Z (xP hok 3 Z (Q1B hok 4 1 a8 Z Z Z Zq Z Z Z Z Z Z bM Q86 Q6t (fun cA cB c4 bX=>(Q1X Q3v 1 Z (fun b5 bQ _=>?_)))))))))
 subst bQ
 refine Q2J hok 5 2 0 Z Z Z Zq Z Z Z Z (cs:=V10 ..) Z Q6t tA_67 Z Z (xP hok 6 Z (xP hok 7 Z (Q1B hok 8 4 a7 Z Z Z Zq Z Z Z Z Z Z bO Q8Z Q96 (fun cC cD c5 bY=>(Q1X Q4M 1 Z (fun b6 bR _=>?_))))))
 subst bR
 refine Q2J hok 9 2 0 Z Z Z Zq Z Z Z Z (cs:=[_,_]) Z Q96 tA_93 Z Z (xP hok 10 Z (xS hok 11 Z (wC [] [0,1] Z fn_50 Z (Q7V N aR.kind aR.type b5.1.1 b5.1.2 aR.args aR.test.kind aR.test.value.k aR.test.value.n aR.test.value.s aR.test.var aR.test.op b5.2.1 b5.2.2 aR.test.kids b6.1.1 b6.1.2 bN.ids b6.2.1 b6.2.2 bN.vars aO aP l5 _ bP) (asK [4,5,0,1,11] Z) Z (H':=[_,_]) Z ?_)))
 rintro _ _ _ ⟨bZ,c0,rfl,rfl,rfl⟩
 refine Q4 (Q12 [1,2,3,4,5,6,7,8,9,10,11,12] [1] Z Z (xS hok 12 Z (Q7F 0 0 Z Z Z Zq Z Z Z Z Z Q8Z tR_93 Z Z (Nat.le_trans bD (by decide)) (Nat.le_trans (Nat.mul_le_mul_right _ bD) (by decide)) (H2:=fun bE bF=>[.own 93 2 QK (.slice bE ((y++b4).length) bF) (y++b4),_]) (fun _ _=>Z) (fun bE bF=>(Q4 (Q12 [0,1,2,3,4,5,6,7,8,9,10,11,12] [1] Z Z (xS hok 13 Z (QS (S':=V19 ..) Z Z Z Z Z (Q4 (Q12 [0,1,2,3,4,5,6,7,8,9,10,11,12] [] Z Z (QO hok Z (Qf (Q3 (Q2 [9,10,8,7,6,2,1] (S':=V7 ..) Z ?_))))))))))))))
 refine Q1 (wP Z (wP Z ?_))
 obtain ⟨bS,hm⟩:=Qz hm
 refine QD (d:=36) (v':=.int .i64 ((a7+1:Nat):Int)) (S':=V8 ..) Z Z (Q1f (a:=a7) (b:=1) bS) (QS (S':=V8 ..) Z Z Z Z Z (Q4 ?_))
 have hE:=(Zi hm).symm
 replace hE:=QA hLu2 hE
 refine QY (_,a7+1,y++b4,bE,bF,(y++b4).length) (Nat.lt_succ_self _) hE [10,9,8,7,6,2,1] Z (asK [9,10,11,12] Z) Z
 replace hm:=Qv hm b3
 refine Q2 [9,8,7,2,1] (S':=V5 ..) Z (Q1k (Qo (Qo (QG ?_))))
 have hE:=(Zi hm).symm
 replace hE:=Qn hLu2 hE
 refine Qu [1,0] Z (H':=[_,_]) Z ?_
 refine Qd (y,a9,aA,aB) hE [8,7,2,1,9] Z (asK [1,2,3] Z) Z
 rintro ⟨a3,aC,aD,aH⟩ hE
 try dsimp only
 have hm:=hLj_3
 try rw [hE] at hm
 refine Q5 (Q1 (wP Z (wP Z (Q4 (Q3 (Q2 [6,8,7,2,1] (S':=V5 ..) Z (Q1 (wP Z (wP Z (Q3H 1 Z (fun bT _=>(wN Z Q8Z (QD (d:=53) (v':=.int .i64 ((a3.length:Nat):Int)) (S':=V7 ..) Z Z (len_is bT) (wP Z ?_))))))))))))))
 obtain ⟨bU,hm⟩:=Qz hm
 refine QD (d:=54) (v':=.int .i64 ((a4+a3.length:Nat):Int)) (S':=V8 ..) Z Z (Q1f (a:=a4) (b:=a3.length) bU) (QS (S':=V8 ..) Z Z Z Z Z (Q4 (Qf (Q3 (Q2 [7,6,8,2,1] (S':=V5 ..) Z (Q1 (wP Z (wP Z ?_))))))))
 obtain ⟨bV,hm⟩:=Qz hm
 refine QD (d:=23) (v':=.int .i64 ((a8+1:Nat):Int)) (S':=V6 ..) Z Z (Q1f (a:=a8) (b:=1) bV) (QS (S':=V6 ..) Z Z Z Z Z (Q4 ?_))
 have hE:=(Zi hm).symm
 replace hE:=QA hLu1 hE
 refine we_ownLen 1 Z (fun aW _=>?_)
 try have hE_:=hE
 subst aW
 try have hE:=hE_
 refine Q9z 1 Z (H':=[_]) Z (Q7J (.sli 2 QK aC aD a3) (fun F w hφ=>Q5R (hφ _ (Q1W (k:=0) Z))) ?_)
 refine QY (_,a8+1,a4+a3.length,a3,aC,aD) (Nat.lt_succ_self _) hE [8,7,6,2,1] Z (asK [0,2,3,4] Z) Z
 replace hm:=Qv hm b1
 refine Q2 [7,6] (S':=[_,_]) Z (Q1k (Qo (Qo (QG ?_))))
 have hE:=(Zi hm).symm
 replace hE:=Qn hLu1 hE
 refine Qu [] Z (H':=[]) Z ?_
 refine Qd (z,a4,a5,a6) hE [6,7] Z (asK [0] Z) Z
 rintro ⟨aE,aQ,aF,aG⟩ hE
 try dsimp only
 have hm:=hLj_1
 try rw [hE] at hm
 try dsimp only at hm
 refine Q5 (Q1 (wP Z (wP Z (wP Z (wP Z (Q4 (Q3 (Q2 [5,4] (S':=[_,_]) Z (Qk ?_)))))))))
 have hE:=(Zi hm).symm
 obtain ⟨hE0,hE1⟩:=Prod.mk.inj hE
 clear hE
 replace hE0:=hE0.symm
 subst hE0
 replace hE1:=hE1.symm
 subst hE1
 refine QH (Hr:=[]) [] Tryz.results36 (Qb Z) (Qb Z) ⟨aF,aG,Z,Z,Z⟩ (asK [0] Z) Z Z (.inl Z)
theorem Q9h (N:Nat)(aI:OA)(aJ:Nat)(l0:List Qg)(aK:OA)(aL:Nat)(l1:List Qj)(aM:OA)(aN:Nat)(l2:List QP)(o2:List QU)(o4:Nat)(hm:Q3y N l0 l1 l2=some (o2,o4)):Q1d Tryz.prog 13 [.agg #[.slice aI l0.length aJ,.slice aK l1.length aL],.slice aM l2.length aN] [.sli 2 Qh aI aJ l0,.sli 5 Qi aK aL l1,.sli 3 QW aM aN l2] [] (fun v Φr Hr=>∃ (o0:OA)(o1:Nat)(o3:Nat),v=.tuple #[.slice o0 o3 o1,.int .i64 ((o4:Nat):Int)]∧Φr=[]∧Hr=[.own 41 2 Q3d (.slice o0 o3 o1) o2]):=by
 unfold Q3y at hm
 refine QI Tryz.func13 Z Tryz.ntmps13 Z (S:=[_,_]) Z (fun C=>(Q5 (Q1 (wB Z (fun g2=>(wP Z (wP Z (Q4 (Q3 (Q2 [2,1] (S':=[_,_]) Z (Q5 (Q5 ?_))))))))))))
 obtain ⟨bB,hm,hLj_1⟩:=Q7 hm
 refine QF (σ:=Bool) (fun aF=>bB=aF) (fun aF=>[(2,.pointer (some ⟨g2,0,none⟩)),(1,.slice aM l2.length aN),(20,.bool aF)]) (fun aF=>[.sli 2 Qh aI aJ l0,.sli 5 Qi aK aL l1,.sli 3 QW aM aN l2]) (fun aF=>[.blk g2 [.slice aI l0.length aJ,.slice aK l1.length aL] 25]) ?_ ?_
 refine Q1 (QM 0 0 Z Z Z Zq Z Z Z (cs:=[_,_]) Z tS_25 tA_25 Z Z ?_)
 obtain ⟨bY,bC,hm⟩:=Q7 hm
 refine wC [] [0] Z fn_34 Z (Q71 N aI aJ l0 aK aL l1 _ bC) (asK [0,1] Z) Z (H':=[_]) Z ?_
 rintro _ _ _ ⟨rfl,rfl,rfl⟩
 refine wP Z (wP Z ?_)
 refine Qr (d:=15) (S':=V5 ..) Z Z (fun aV=>?_) (fun aV=>?_)
 replace hm:=Qw hm aV
 refine wO Z (wO Z (wO Z (wO Z (wP Z (Q4 ?_)))))
 have hE:=(Zi hm).symm
 refine Qd true hE [2,1,20] Z (asK [0,1,2] Z) Z
 replace hm:=Qv hm aV
 refine QM 0 0 Z Z Z Zq Z Z Z (cs:=[_,_]) Z tS_25 tA_25 Z Z (wP Z ?_)
 obtain ⟨bO,bD,hm⟩:=Q7 hm
 refine wC [] [0] Z fn_35 Z (Q73 N aI aJ l0 aK aL l1 aM aN l2 _ bD) (asK [0,1,2] Z) Z (H':=[_]) Z ?_
 rintro _ _ _ ⟨rfl,rfl,rfl⟩
 refine wP Z (wP Z (Q4 ?_))
 have hE:=(Zi hm).symm
 refine Qd (!bO) hE [2,1,20] Z (asK [0,1,2] Z) Z
 rintro aF hE
 try dsimp only
 have hm:=hLj_1
 try rw [hE] at hm
 refine Qm Z (fun aW=>?_) (fun aW=>?_)
 replace hm:=Qw hm aW
 refine Q2 [] (S':=[]) Z (Q5 (Q1 (wP Z (wP Z (Q4 (Q3 (Qk (Q8 ?_))))))))
 have hE:=(Zi hm).symm
 obtain ⟨hE0,hE1⟩:=Prod.mk.inj hE
 clear hE
 replace hE0:=hE0.symm
 subst hE0
 replace hE1:=hE1.symm
 subst hE1
 refine Q2T 41 2 Q3d ?_
 refine QH (Hr:=[_]) [0] Tryz.results13 (Qb Z) (Qb Z) ⟨none,0,0,Z,Z,Z⟩ (asK [] Z) Z Z (.inl Z)
 replace hm:=Qv hm aW
 refine Q2 [2,1] (S':=[_,_]) Z (Qt (Q3 (Q5 (Q1 (wP Z (Q4 (Q3 (Q5 (Q1 (wP Z (Q4 (Q3 (Q5 ?_)))))))))))))
 obtain ⟨b6,hm,hLj_2⟩:=QN hm
 refine QF (σ:=(List QU)×OA×Nat×Nat) (fun (aE,a3,a4,a5)=>b6=.inl aE) (fun (aE,a3,a4,a5)=>[(6,.slice a3 a5 a4)]) (fun (aE,a3,a4,a5)=>[]) (fun (aE,a3,a4,a5)=>[.own 41 2 Q3d (.slice a3 a5 a4) aE]) ?_ ?_
 refine Q5 (Q1 (wP Z (Q4 (Q3 (Qx (Q74 41 2 Q3d (Q1o (σ:=Nat×Nat×Nat×(List QU)×OA×Nat×Nat) (fun (aQ,h,aA,z,a0,a1,a2)=>Q19 (Q1z N l1 l2) aQ (h,aA,z)=some b6) (fun (aQ,h,aA,z,a0,a1,a2)=>aQ) (fun (aQ,h,aA,z,a0,a1,a2)=>[(8,.int .i64 ((h:Nat):Int)),(7,.int .i64 ((aA:Nat):Int)),(6,.slice a0 a2 a1),(2,.pointer (some ⟨g2,0,none⟩)),(1,.slice aM l2.length aN)]) (fun (aQ,h,aA,z,a0,a1,a2)=>[.sli 2 Qh aI aJ l0,.sli 5 Qi aK aL l1,.sli 3 QW aM aN l2]) (fun (aQ,h,aA,z,a0,a1,a2)=>[.own 41 2 Q3d (.slice a0 a2 a1) z,.blk g2 [.slice aI l0.length aJ,.slice aK l1.length aL] 25]) (N,0,0,[],none,0,0) hm [8,7,6,2,1] Z (asK [0,1,2] Z) Z (fun s_ hm=>?_))))))))
 obtain ⟨aQ,h,aA,z,a0,a1,a2⟩:=s_
 try dsimp only at hm ⊢
 obtain ⟨bZ,c0,bE,hq,hLu1⟩:=Q10 hm
 clear hm
 subst bE
 replace hm:=hq
 clear hq
 unfold Q1z at hm
 try dsimp only at hm
 refine Q5 (Q5 (Q1 (wP Z (wF Z Q4Z (wD 1 1 Z Q7u Q7t Z (wN Z Q6X (wP Z (QD (d:=25) (v':=.bool (decide (h < l1.length))) (S':=V9 ..) Z Z (Q2E (a:=h) (b:=l1.length)) (Q4 (Q3 (Q2 [25,8,7,6,2,1] (S':=V6 ..) Z ?_)))))))))))
 refine Qm Z (fun aX=>?_) (fun aX=>?_)
 replace hm:=Qw hm aX
 refine Q2 [8,7,6,2,1] (S':=V5 ..) Z (Qt (Q3 (Q5 ?_)))
 obtain ⟨b7,hm,hLj_3⟩:=QN hm
 unfold Q3K at hm
 refine QF (σ:=Nat×(List QU)×OA×Nat×Nat) (fun (aG,a6,a7,a8,a9)=>b7=.inl (aG,a6)) (fun (aG,a6,a7,a8,a9)=>[(8,.int .i64 ((h:Nat):Int)),(7,.int .i64 ((aG:Nat):Int)),(6,.slice a7 a9 a8),(2,.pointer (some ⟨g2,0,none⟩)),(1,.slice aM l2.length aN)]) (fun (aG,a6,a7,a8,a9)=>[.sli 2 Qh aI aJ l0,.sli 5 Qi aK aL l1,.sli 3 QW aM aN l2]) (fun (aG,a6,a7,a8,a9)=>[.own 41 2 Q3d (.slice a7 a9 a8) a6,.blk g2 [.slice aI l0.length aJ,.slice aK l1.length aL] 25]) ?_ ?_
 refine Qx (Q5 (Q1 (wF Z Q4Z (wD 1 1 Z Q7u Q7t Z (wP Z ?_)))))
 obtain ⟨aY,bF,hm⟩:=Q7 hm
 refine QT 1 h Z Z Z Zq Z Z Z Z Z bF Q6X Q6Y (fun c1 c2 bW bP=>(Q1h Q28 1 Z (fun b3 bG _=>?_)))
 subst bG
 refine Q1g 2 0 Z Z Z Zq Z Z Z (cs:=V5 ..) Z Q6Y tA_52 Z Z (wP Z ?_)
 obtain ⟨⟨aO,aH⟩,bH,hm⟩:=Q7 hm
 try dsimp only at hm
 refine wC [] [0,1] Z fn_36 Z (Qa2 N aY.name aY.salience aY.vars b3.1.1 b3.1.2 aY.conds b3.2.1 b3.2.2 aY.acts aM aN l2 _ _ bH) (asK [0,1,6] Z) Z (H':=[_,_]) Z ?_
 rintro _ _ _ ⟨aZ,b0,rfl,rfl,rfl⟩
 refine wP Z (wP Z (wP Z (wP Z (wP Z (Q4 (Q3 (Q2 [10,9,8,7,6,2,1] (S':=V7 ..) Z (Q5 (Q1 (wP Z (wP Z (wP Z ?_))))))))))))
 obtain ⟨bI,hm⟩:=Qz hm
 refine QD (d:=40) (v':=.int .i64 ((aA+aH:Nat):Int)) (S':=V9 ..) Z Z (Q1f (a:=aA) (b:=aH) bI) (QS (S':=V9 ..) Z Z Z Z Z (Q4 (Q3 (Q2 [7,9,8,6,2,1] (S':=V6 ..) Z (Q5 (Q5 (Q1 (wP Z (wP Z (QD (d:=42) (v':=.bool (decide (4096 < (aA+aH)))) (S':=V7 ..) Z Z (Q8r (a:=aA+aH) (b:=4096)) (Q4 (Q3 (Q2 [42,7,9,8,6,2,1] (S':=V7 ..) Z ?_)))))))))))))
 refine Qm Z (fun b1=>?_) (fun b1=>?_)
 replace hm:=Qw hm b1
 refine Q2 [] (S':=[]) Z (Q5 (Q1 (wP Z (wP Z (Q4 (Q3 (Qk (Q8 (Qa (Q8 (Q8 (Qa (Q8 ?_)))))))))))))
 have hE:=(Zi hm).symm
 replace hE:=Qn hLj_3 hE
 replace hE:=Qn hLu1 hE
 replace hE:=Qn hLj_2 hE
 obtain ⟨hE0,hE1⟩:=Prod.mk.inj hE
 clear hE
 replace hE0:=hE0.symm
 subst hE0
 replace hE1:=hE1.symm
 subst hE1
 refine Q2T 41 2 Q3d ?_
 refine QH (Hr:=[_]) [0] Tryz.results13 (Qb Z) (Qb Z) ⟨none,0,0,Z,Z,Z⟩ (asK [] Z) Z Z (.inl Z)
 replace hm:=Qv hm b1
 refine Q2 [7,9,8,6,2,1] (S':=V6 ..) Z (Qt (Q3 (Q5 (Q1 (wP Z (Q4 (Q3 (Qx (Q1o (σ:=Nat×Nat×(List QU)×OA×Nat×Nat) (fun (aR,y,s,aB,aC,aD)=>Q19 (Q2g N aO h aA aH) aR (y,s)=some b7) (fun (aR,y,s,aB,aC,aD)=>aR) (fun (aR,y,s,aB,aC,aD)=>[(11,.int .i64 ((y:Nat):Int)),(7,.int .i64 ((aA+aH:Nat):Int)),(9,.slice aZ aO.length b0),(8,.int .i64 ((h:Nat):Int)),(6,.slice aB aD aC),(2,.pointer (some ⟨g2,0,none⟩)),(1,.slice aM l2.length aN)]) (fun (aR,y,s,aB,aC,aD)=>[.sli 2 QK aZ b0 aO,.sli 2 Qh aI aJ l0,.sli 5 Qi aK aL l1,.sli 3 QW aM aN l2]) (fun (aR,y,s,aB,aC,aD)=>[.own 41 2 Q3d (.slice aB aD aC) s,.blk g2 [.slice aI l0.length aJ,.slice aK l1.length aL] 25]) (N,0,z,a0,a1,a2) hm [11,7,9,8,6,2,1] Z (asK [0,5,6,7] Z) Z (fun s_ hm=>?_))))))))))
 obtain ⟨aR,y,s,aB,aC,aD⟩:=s_
 try dsimp only at hm ⊢
 obtain ⟨c3,c4,bJ,hq,hLu2⟩:=Q10 hm
 clear hm
 subst bJ
 replace hm:=hq
 clear hq
 unfold Q2g at hm
 try dsimp only at hm
 refine Q5 (Q5 (Q1 (wP Z (wP Z (wN Z Q8Z (wP Z (QD (d:=46) (v':=.bool (decide (y < aO.length))) (S':=V10 ..) Z Z (Q2E (a:=y) (b:=aO.length)) (Q4 (Q3 (Q2 [46,11,7,9,8,6,2,1] (S':=V8 ..) Z ?_))))))))))
 refine Qm Z (fun b2=>?_) (fun b2=>?_)
 replace hm:=Qw hm b2
 refine Q2 [11,7,9,8,6,2,1] (S':=V7 ..) Z (Qt (Q3 (Q5 (Qx (Q1 (wP Z (wP Z (wP Z (wP Z ?_)))))))))
 obtain ⟨aU,bK,hm⟩:=Q7 hm
 refine QT 0 y Z Z Z Zq Z Z Z Z Z bK Q8Z Q96 (fun c5 c6 bX bQ=>(Q1h Q4M 1 Z (fun b4 bL _=>?_)))
 subst bL
 refine wF Z tF_93_0 (Q1g 2 0 Z Z Z Zq Z Z Z (cs:=[_]) Z tS_39 tA_39 Z Z (Q1F Z Z Z Zq Z tZ_41 tP_41 Z (out:=[_,_]) Z (Q1y Z Z Z Zq Z tE_31 tS_41 tZ_41 Z (zs:=[.int .i64 0,V1]) (by kernel_rfl) Z (out:=[_,_]) Z (fun c7=>?_))))
 obtain ⟨b8,hm⟩:=Qz hm
 refine Q6S ([(⟨(((h:Nat):Int)),aU.ids⟩ : QU)]) 1 0 Z Z Z Zq Z Z Z Z Z (fun F w hφ=>⟨[.int .i64 ((h:Nat):Int),.slice b4.1.1 aU.ids.length b4.1.2],[],Z,Z,⟨(b4.1.1,b4.1.2),Z,(Q1j (hφ _ (Q1W (k:=0) Z)) Q1n)⟩,Z⟩) tE_31 tR_41 Z Z (Nat.le_trans b8 (by decide)) (Nat.le_trans (Nat.mul_le_mul_right _ b8) (by decide)) (H2:=fun b9 bA=>[_,.own 41 2 Q3d (.slice b9 ((s++([(⟨(((h:Nat):Int)),aU.ids⟩ : QU)])).length) bA) (s++([(⟨(((h:Nat):Int)),aU.ids⟩ : QU)])),_]) (fun _ _=>Z) (fun b9 bA=>(Qa6 0 Z (H':=[_,_]) Z (QS (S':=V16 ..) Z Z Z Z Z (Q4 (Qf (Q3 (Q2 [6,11,7,9,8,2,1] (S':=V7 ..) Z (Q1 (wP Z (wP Z ?_))))))))))
 obtain ⟨bM,hm⟩:=Qz hm
 refine QD (d:=48) (v':=.int .i64 ((y+1:Nat):Int)) (S':=V8 ..) Z Z (Q1f (a:=y) (b:=1) bM) (QS (S':=V8 ..) Z Z Z Z Z (Q4 ?_))
 have hE:=(Zi hm).symm
 replace hE:=QA hLu2 hE
 refine QY (_,y+1,(s++([(⟨(((h:Nat):Int)),aU.ids⟩ : QU)])),b9,bA,((s++([(⟨(((h:Nat):Int)),aU.ids⟩ : QU)])).length)) (Nat.lt_succ_self _) hE [11,7,9,8,6,2,1] Z (asK [4,5,6,7] Z) Z
 replace hm:=Qv hm b2
 refine Q2 [7,8,6,2,1] (S':=V5 ..) Z (Q1k (Qo (Qo (QG (Qf ?_)))))
 have hE:=(Zi hm).symm
 replace hE:=Qn hLu2 hE
 refine Qd (aA+aH,s,aB,aC,aD) hE [8,7,6,2,1] Z (asK [1,2,3] Z) Z
 rintro ⟨aG,a6,a7,a8,a9⟩ hE
 try dsimp only
 have hm:=QA hLj_3 hE
 try dsimp only at hm
 refine Q1 (wP Z (wP Z ?_))
 obtain ⟨bN,hm⟩:=Qz hm
 refine QD (d:=27) (v':=.int .i64 ((h+1:Nat):Int)) (S':=V6 ..) Z Z (Q1f (a:=h) (b:=1) bN) (QS (S':=V6 ..) Z Z Z Z Z (Q4 ?_))
 have hE:=(Zi hm).symm
 replace hE:=QA hLu1 hE
 refine QY (_,h+1,aG,a6,a7,a8,a9) (Nat.lt_succ_self _) hE [8,7,6,2,1] Z (asK [0,1,2] Z) Z
 replace hm:=Qv hm aX
 refine Q2 [6] (S':=[_]) Z (Q1k (Qo (Qo (QG ?_))))
 have hE:=(Zi hm).symm
 replace hE:=Qn hLu1 hE
 refine Qu [0] Z (H':=[_]) Z ?_
 refine Qd (z,a0,a1,a2) hE [6] Z (asK [] Z) Z
 rintro ⟨aE,a3,a4,a5⟩ hE
 try dsimp only
 have hm:=QA hLj_2 hE
 refine Q5 (Q1 (wP Z (wP Z (wP Z (Q4 (Q3 (Q2 [5,4] (S':=[_,_]) Z (Qk ?_))))))))
 have hE:=(Zi hm).symm
 obtain ⟨hE0,hE1⟩:=Prod.mk.inj hE
 clear hE
 replace hE0:=hE0.symm
 subst hE0
 replace hE1:=hE1.symm
 subst hE1
 refine QH (Hr:=[_]) [0] Tryz.results13 (Qb Z) (Qb Z) ⟨a3,a4,a5,Z,Z,Z⟩ (asK [] Z) Z Z (.inl Z)
theorem Qaz (N:Nat)(a0:Int)(a1:Int)(o0:Int)(hm:Q4R N a0 a1=some o0):Q1d Tryz.prog 17 [.int .i64 a0,.int .i64 a1] [] [] (fun v Φr Hr=>v=.int .i64 o0∧Φr=[]∧Hr=[]):=by
 unfold Q4R at hm
 refine QI Tryz.func17 Z Tryz.ntmps17 Z (S:=[_,_]) Z (fun C=>(Q5 (Q1 (wP Z (Q4 (Q3 (Q2 [0,1] (S':=[_,_]) Z (Q5 (Q5 (Q1 (wP Z (wP Z (Q4 (Q3 ?_))))))))))))))
 refine Q2 [6,0,1] (S':=V3 ..) Z ?_
 refine Qm Z (fun hb6=>?_) (fun hb6=>?_)
 replace hm:=Qw hm hb6
 refine Q2 [] (S':=[]) Z (Q5 (Q1 (wP Z (Q4 (Q3 (Qk (Q8 ?_)))))))
 have hE:=(Zi hm).symm
 replace hE:=hE.symm
 subst hE
 refine Qq (Hr:=[]) [] Tryz.results17 (Qb Z) ⟨Z,Z,Z⟩ (asK [] Z) Z Z (.inl Z)
 replace hm:=Qv hm hb6
 refine Q2 [0,1] (S':=[_,_]) Z (Qt (Q3 (Q5 (Q1 (wP Z (wP Z ?_))))))
 obtain ⟨hg9,hm⟩:=Qz hm
 refine Q65 Z Z Z Zq Z Z Z (run_rem hg9) (QS (S':=V4 ..) Z Z Z Z Z (Q4 (Q3 (Q2 [0,1] (S':=[_,_]) Z (Q5 ?_)))))
 obtain ⟨bj_1,hm,hLj_1⟩:=Q7 hm
 refine QF (σ:=Int) (fun j_1_0=>bj_1=j_1_0) (fun j_1_0=>[(0,.int .i64 j_1_0)]) (fun j_1_0=>[]) (fun j_1_0=>[]) ?_ ?_
 refine Q5 (Q1 (wP Z (wP Z (Q4 (Q3 (Q2 [11,0,1] (S':=V3 ..) Z ?_))))))
 refine Qm Z (fun hb11=>?_) (fun hb11=>?_)
 replace hm:=Qw hm hb11
 refine Q2 [0,1] (S':=[_,_]) Z (Q1 (wP Z (wP Z (wP Z ?_))))
 obtain ⟨hg14,hm⟩:=Qz hm
 refine QD (d:=14) (v':=.int .i64 ((Int.tmod a0 a1)+a1)) (S':=V4 ..) Z Z (i64_in hg14) (QS (S':=V4 ..) Z Z Z Z Z (Q4 ?_))
 have hE:=(Zi hm).symm
 refine Qd ((Int.tmod a0 a1)+a1) hE [0] Z (asK [] Z) Z
 replace hm:=Qv hm hb11
 refine Q2 [0] (S':=[_]) Z (Qt ?_)
 have hE:=(Zi hm).symm
 refine Qd (Int.tmod a0 a1) hE [0] Z (asK [] Z) Z
 rintro j_1_0 hE
 try dsimp only
 have hm:=hLj_1
 try rw [hE] at hm
 refine Q5 (Q1 (wP Z (wP Z (Q4 (Q3 (Q2 [4] (S':=[_]) Z (Qk ?_)))))))
 have hE:=(Zi hm).symm
 replace hE:=hE.symm
 subst hE
 refine Qq (Hr:=[]) [] Tryz.results17 (Qb Z) ⟨Z,Z,Z⟩ (asK [] Z) Z Z (.inl Z)
theorem w_value_named_s (N:Nat)(a0:ByteArray)(o0:Bool)(hm:Q6D N a0=some o0):Q1d Tryz.prog 107 [.string a0] [] [] (fun v Φr Hr=>v=.bool o0∧Φr=[]∧Hr=[]):=by
 unfold Q6D at hm
 refine QI Tryz.func107 Z Tryz.ntmps107 Z (S:=[_]) Z (fun C=>(Q5 (Q1 (wP Z (Q4 (Q3 (Q2 [0] (S':=[_]) Z (Q5 ?_))))))))
 obtain ⟨a3,hm,hLj_1⟩:=Q7 hm
 unfold Q7y at hm
 refine QF (σ:=Bool) (fun h=>a3=h) (fun h=>[(2,.bool h)]) (fun h=>[]) (fun h=>[]) ?_ ?_
 refine Q1 (wP Z (wP Z (wP Z ?_)))
 refine Qr (d:=5) (S':=V3 ..) Z Z (fun a1=>?_) (fun a1=>?_)
 replace hm:=Qw hm a1
 refine wP Z (Q3E Z Z Z Zq (Q9s Z Z tT_9) (wP Z (QD (d:=8) (v':=.bool (decide (a0.size≤24))) (S':=V6 ..) Z Z (natle (a:=a0.size) (b:=24)) (wP Z (wP Z ?_)))))
 refine Qr (d:=10) (S':=V8 ..) Z Z (fun s=>?_) (fun s=>?_)
 replace hm:=Qw hm s
 refine wP Z ?_
 obtain ⟨a5,a4,hm⟩:=Q7 hm
 refine Q3E Z Z Z Zq (rk_strAt 0 Z Z Z Z a4 tT_9) (wC [] [] Z fn_141 Z (sh_IndexByte (⟨#[97,98,99,100,101,102,103,104,105,106,107,108,109,110,111,112,113,114,115,116,117,118,119,120,121,122]⟩ : ByteArray) ((a5.toNat:Nat):Int) ) (asK [] Z) Z (H':=[]) Z ?_)
 rintro _ _ _ ⟨rfl,rfl,rfl⟩
 refine wP Z (wP Z (wP Z ?_))
 refine Qr (d:=16) (S':=V14 ..) Z Z (fun y=>?_) (fun y=>?_)
 replace hm:=Qw hm y
 refine wP Z ?_
 obtain ⟨z,hm⟩:=Qz hm
 refine wC [] [] Z fn_142 Z (sh_Trim a0 (⟨#[97,98,99,100,101,102,103,104,105,106,107,108,109,110,111,112,113,114,115,116,117,118,119,120,121,122,48,49,50,51,52,53,54,55,56,57,95]⟩ : ByteArray) (by decide) (ascii_of_all (by decide)) z) (asK [] Z) Z (H':=[]) Z ?_
 rintro _ _ _ ⟨rfl,rfl,rfl⟩
 refine wP Z (wP Z (wP Z (Q4 ?_)))
 have hE:=(Zi hm).symm
 refine Qd ((⟨(Lib.trimS a0.data.toList (⟨#[97,98,99,100,101,102,103,104,105,106,107,108,109,110,111,112,113,114,115,116,117,118,119,120,121,122,48,49,50,51,52,53,54,55,56,57,95]⟩ : ByteArray).data.toList).toArray⟩ : ByteArray).toList==(⟨#[]⟩ : ByteArray).toList) hE [2] Z (asK [] Z) Z
 replace hm:=Qv hm y
 refine wO Z (wO Z (wO Z (wP Z (wP Z (Q4 ?_)))))
 have hE:=(Zi hm).symm
 refine Qd false hE [2] Z (asK [] Z) Z
 replace hm:=Qv hm s
 refine wO Z (wO Z (wO Z (wO Z (wP Z (wP Z (wO Z (wO Z (wO Z (wP Z (wP Z (Q4 ?_)))))))))))
 have hE:=(Zi hm).symm
 refine Qd false hE [2] Z (asK [] Z) Z
 replace hm:=Qv hm a1
 refine wO Z (wO Z (wO Z (wP Z (wP Z (wO Z (wO Z (wO Z (wO Z (wP Z (wP Z (wO Z (wO Z (wO Z ?_)))))))))))))
 refine wP Z (wP Z (Q4 ?_))
 have hE:=(Zi hm).symm
 refine Qd false hE [2] Z (asK [] Z) Z
 rintro h hE
 try dsimp only
 have hm:=hLj_1
 try rw [hE] at hm
 refine Qk ?_
 have hE:=(Zi hm).symm
 replace hE:=hE.symm
 subst hE
 refine Qq (Hr:=[]) [] Tryz.results107 (Qb Z) ⟨Z,Z,Z⟩ (asK [] Z) Z Z (.inl Z)
theorem Q56 (N:Nat)(a0:Int)(a1:Int)(a2:ByteArray)(o0:Bool)(hm:Q1E N a0 a1 a2=some o0):Q1d Tryz.prog 64 [.agg #[.int .u8 a0,.int .i64 a1,.string a2]] [] [] (fun v Φr Hr=>v=.bool o0∧Φr=[]∧Hr=[]):=by
 unfold Q1E at hm
 refine QI Tryz.func64 Z Tryz.ntmps64 Z (S:=[_]) Z (fun C=>(Q5 (Q1 (wB Z (fun g1=>(wP Z (Q4 (Q3 (Q2 [1] (S':=[_]) Z (Q5 (Q5 (Q1 (wF Z Q9T (wD 0 0 Z tS_55 tA_55 Z (Q4 ?_)))))))))))))))
 refine Q3 (Q2 [4,1] (S':=[_,_]) Z (Qx (Q5 (Q1 (wP Z (wP Z (Q4 (Q3 (Q2 [5,4,1] (S':=V3 ..) Z ?_)))))))))
 refine Qm Z (fun hb5=>?_) (fun hb5=>?_)
 replace hm:=Qw hm hb5
 refine Q2 [1] (S':=[_]) Z (Q5 (Q1 (wF Z tF_57_2 (wD 0 2 Z tS_9 tA_9 Z (wP Z (wP Z (Q4 (Q3 (Q2 [2] (S':=[_]) Z (Qk (Qa (Q8 ?_))))))))))))
 have hE:=(Zi hm).symm
 replace hE:=hE.symm
 subst hE
 refine Qq (Hr:=[]) [] Tryz.results64 (Qb Z) ⟨Z,Z,Z⟩ (asK [] Z) Z Z (.inl Z)
 replace hm:=Qv hm hb5
 refine Q2 [4,1] (S':=[_,_]) Z (Q5 (Q1 (wP Z (wP Z (Q4 (Q3 (Q2 [10,1] (S':=[_,_]) Z ?_)))))))
 refine Qm Z (fun hb10=>?_) (fun hb10=>?_)
 replace hm:=Qw hm hb10
 refine Q2 [1] (S':=[_]) Z (Q5 (Q1 (wF Z Q1Z (wD 0 1 Z Q6p Q6n Z (wP Z (wP Z ?_))))))
 refine Qr (d:=15) (S':=V4 ..) Z Z (fun hs15=>?_) (fun hs15=>?_)
 replace hm:=Qw hm hs15
 refine wF Z tF_57_2 (wD 0 2 Z tS_9 tA_9 Z ?_)
 obtain ⟨v18,hc18,hm⟩:=Q7 hm
 refine wC [] [0] Z fn_107 Z (w_value_named_s N a2 _ hc18) (asK [] Z) Z (H':=[_]) Z ?_
 rintro _ _ _ ⟨rfl,rfl,rfl⟩
 refine wP Z (wP Z (Q4 (Q3 (Q2 [2] (S':=[_]) Z (Qk (Qa (Q8 ?_)))))))
 have hE:=(Zi hm).symm
 replace hE:=hE.symm
 subst hE
 refine Qq (Hr:=[]) [] Tryz.results64 (Qb Z) ⟨Z,Z,Z⟩ (asK [] Z) Z Z (.inl Z)
 replace hm:=Qv hm hs15
 refine wO Z (wO Z (wO Z (wP Z (wP Z (Q4 (Q3 (Q2 [2] (S':=[_]) Z (Qk (Qa (Q8 ?_))))))))))
 have hE:=(Zi hm).symm
 replace hE:=hE.symm
 subst hE
 refine Qq (Hr:=[]) [] Tryz.results64 (Qb Z) ⟨Z,Z,Z⟩ (asK [] Z) Z Z (.inl Z)
 replace hm:=Qv hm hb10
 refine Q2 [] (S':=[]) Z (Qt (Qf (Q3 (Q5 (Q1 (wP Z (Q4 (Q3 (Qk ?_)))))))))
 have hE:=(Zi hm).symm
 replace hE:=hE.symm
 subst hE
 refine Qq (Hr:=[]) [] Tryz.results64 (Qb Z) ⟨Z,Z,Z⟩ (asK [] Z) Z Z (.inl Z)
theorem Q60 (N:Nat)(a0:ByteArray)(o0:Bool)(hm:Q61 N a0=some o0):Q1d Tryz.prog 58 [.string a0] [] [] (fun v Φr Hr=>v=.bool o0∧Φr=[]∧Hr=[]):=by
 unfold Q61 at hm
 refine QI Tryz.func58 Z Tryz.ntmps58 Z (S:=[_]) Z (fun C=>(Q5 (Q1 (wP Z (Q4 (Q3 (Q2 [0] (S':=[_]) Z (Q5 (Q1 (wP Z (Q1F Z Z Z Zq Z Q1Q Q69 Z (out:=V3 ..) Z ?_)))))))))))
 obtain ⟨v5,hc5,hm⟩:=Q7 hm
 refine wC [] [] Z fn_64 Z (Q56 N 2 0 a0 _ hc5) (asK [] Z) Z (H':=[]) Z ?_
 rintro _ _ _ ⟨rfl,rfl,rfl⟩
 refine wP Z (Q4 (Q3 (Q2 [2] (S':=[_]) Z (Qk ?_))))
 have hE:=(Zi hm).symm
 replace hE:=hE.symm
 subst hE
 refine Qq (Hr:=[]) [] Tryz.results58 (Qb Z) ⟨Z,Z,Z⟩ (asK [] Z) Z Z (.inl Z)
theorem Q9U (N:Nat)(a0:ByteArray)(a1:Int)(qg0:Nat)(a2:ByteArray)  (hm:Q58 N a0 a1 a2=some ()):Q1d Tryz.prog 99 [.agg #[.string a0,.int .i64 a1],.pointer (some ⟨qg0,0,none⟩)] [] [.blk qg0 [.string a2] 9] (fun v Φr Hr=>v=.bool (a0.toList==a2.toList)∧Φr=[]∧Hr=[.blk qg0 [.string a2] 9]):=by
 unfold Q58 at hm
 refine QI Tryz.func99 Z Tryz.ntmps99 Z (S:=[_,_]) Z (fun C=>(Q5 (Q1 (wB Z (fun g2=>(wP Z (Q4 (Q3 (Q2 [2,1] (S':=[_,_]) Z (Q5 (Q1 (wF Z Q8d (wD 0 0 Z tS_9 tA_9 Z (wD 1 0 Z tS_9 tA_9 Z (wP Z ?_)))))))))))))))
 refine wP Z (Q4 (Q3 (Q2 [3] (S':=[_]) Z (Qk ?_))))
 have hE:=(Zi hm).symm
 refine Qq (Hr:=[_]) [1] Tryz.results99 (Qb Z) ⟨Z,Z,Z⟩ (asK [] Z) Z Z (.inl Z)
theorem Q8O (N:Nat)(a0:OA)(a2:Nat)(l0:List Qg)(s:Nat)(a1:ByteArray)(o0:Int)(hm:Q4q N l0 a1=some o0):Q1d Tryz.prog 98 [.slice a0 l0.length a2,.func (.func 99) #[] #[.pointer (some ⟨s,0,none⟩)]] [.sli 2 Qh a0 a2 l0] [.blk s [.string a1] 9] (fun v Φr Hr=>v=.int .i64 o0∧Φr=[]∧Hr=[.blk s [.string a1] 9]):=by
 unfold Q4q at hm
 refine QI Tryz.func98 Z Tryz.ntmps98 Z (S:=[_,_]) Z (fun C=>(Q5 (Q1 (wP Z (Q4 (Q3 (Q2 [0,1] (S':=[_,_]) Z (Q5 ?_))))))))
 obtain ⟨a4,hm,hLj_1⟩:=QN hm
 refine QF (σ:=Unit) (fun _=>a4=.inl ()) (fun _=>[]) (fun _=>[]) (fun _=>[.blk s [.string a1] 9]) ?_ ?_
 refine Q5 (Q1 (wP Z (wN Z Q6r (wP Z (Q4 (Q3 (Q2 [8,7,0,1] (S':=V4 ..) Z (Qx (Q1o (σ:=Nat×Nat) (fun (y,h)=>Q19 (Q2O N l0 a1) y h=some a4) (fun (y,h)=>y) (fun (y,h)=>[(8,.int .i64 ((h:Nat):Int)),(7,.int .i64 ((l0.length:Nat):Int)),(0,.slice a0 l0.length a2),(1,.func (.func 99) #[] #[.pointer (some ⟨s,0,none⟩)])]) (fun (y,h)=>[.sli 2 Qh a0 a2 l0]) (fun (y,h)=>[.blk s [.string a1] 9]) (N,0) hm [8,7,0,1] Z (asK [0] Z) Z (fun s_ hm=>?_))))))))))
 obtain ⟨y,h⟩:=s_
 try dsimp only at hm ⊢
 obtain ⟨aG,aH,a7,hq,hLu1⟩:=Q10 hm
 clear hm
 subst a7
 replace hm:=hq
 clear hq
 unfold Q2O at hm
 try dsimp only at hm
 refine Q5 (Q1 (wP Z (QD (d:=9) (v':=.bool (decide (h < l0.length))) (S':=V4 ..) Z Z (Q2E (a:=h) (b:=l0.length)) (Q4 (Q3 (Q5 ?_))))))
 refine Qm Z (fun a6=>?_) (fun a6=>?_)
 replace hm:=Qw hm a6
 refine Q2 [8,7,0,1] (S':=V4 ..) Z (Qt (Q3 (Q5 (Qx (Q5 (Q1 (wP Z (wP Z (Q4 (Q3 (Q2 [5,8,7,0,1] (S':=V5 ..) Z (Q5 (Q1 ?_)))))))))))))
 refine wP Z (wP Z (wP Z ?_))
 obtain ⟨a8,a9,hm⟩:=Q7 hm
 refine QT 0 h Z Z Z Zq Z Z Z Z Z a9 Q6r Q95 (fun aI aJ aF aD=>(Q1h Q2A 1 Z (fun aK aA _=>?_)))
 subst aA
 refine Q1g 0 0 Z Z Z Zq Z Z Z (cs:=[_,_]) Z Q95 tA_69 Z Z ?_
 obtain ⟨_,aB,hm⟩:=Q7 hm
 try dsimp only at hm
 refine Q1p [0] [] Z Z Z Zq Z Z Z fn_99 Z Z (Q9U N a8.name a8.fields s a1 aB) (asK [] Z) Z (H':=[]) Z ?_
 rintro _ _ _ ⟨rfl,rfl,rfl⟩
 refine Q4 (Q3 (Q2 [16,5,8,7,0,1] (S':=V6 ..) Z ?_))
 refine Qm Z (fun z=>?_) (fun z=>?_)
 replace hm:=Qw hm z
 refine Q2 [5] (S':=[_]) Z (Q5 (Q1 (wP Z (wP Z (Q4 (Q3 (Q2 [4] (S':=[_]) Z (Qk (Qa (Q8 (Q8 (Qa (Q8 ?_)))))))))))))
 have hE:=(Zi hm).symm
 replace hE:=Qn hLu1 hE
 replace hE:=Qn hLj_1 hE
 replace hE:=hE.symm
 subst hE
 refine Qq (Hr:=[_]) [0] Tryz.results98 (Qb Z) ⟨Z,Z,Z⟩ (asK [] Z) Z Z (.inl Z)
 replace hm:=Qv hm z
 refine Q2 [8,7,0,1] (S':=V4 ..) Z (Qt (Qf (Q3 (Q1 (wP Z ?_)))))
 obtain ⟨aC,hm⟩:=Qz hm
 refine QD (d:=18) (v':=.int .i64 ((h+1:Nat):Int)) (S':=V4 ..) Z Z (Q1f (a:=h) (b:=1) aC) (QS (S':=V4 ..) Z Z Z Z Z (Q4 ?_))
 have hE:=(Zi hm).symm
 replace hE:=QA hLu1 hE
 refine QY (_,h+1) (Nat.lt_succ_self _) hE [8,7,0,1] Z (asK [2] Z) Z
 replace hm:=Qv hm a6
 refine Q2 [] (S':=[]) Z (Q1k (Qo (Qo (QG ?_))))
 have hE:=(Zi hm).symm
 replace hE:=Qn hLu1 hE
 refine Qd () hE [] Z (asK [] Z) Z
 rintro _ hE
 try dsimp only
 have hm:=QA hLj_1 hE
 try dsimp only at hm
 refine Q5 (Q1 (wP Z (Q4 (Q3 (Qk ?_)))))
 have hE:=(Zi hm).symm
 replace hE:=hE.symm
 subst hE
 refine Qq (Hr:=[_]) [0] Tryz.results98 (Qb Z) ⟨Z,Z,Z⟩ (asK [] Z) Z Z (.inl Z)
theorem Qaw (N:Nat)(qg0:Nat)(qp1:OA)(qc2:Nat)(l0:List Qg)(qp3:OA)(qc4:Nat)(l1:List Qj)(a2:Int)(a3:Int)(a4:ByteArray)(o0:Int)(hm:Q4N N l0 l1 a2 a3 a4=some o0):Q1d Tryz.prog 59 [.pointer (some ⟨qg0,0,none⟩),.string a4] [.sli 2 Qh qp1 qc2 l0,.sli 5 Qi qp3 qc4 l1] [.blk qg0 [.slice qp1 l0.length qc2,.slice qp3 l1.length qc4,.int .i64 a2,.int .i64 a3] 124] (fun v Φr Hr=>v=.int .i64 o0∧Φr=[.sli 2 Qh qp1 qc2 l0,.sli 5 Qi qp3 qc4 l1]∧Hr=[.blk qg0 [.slice qp1 l0.length qc2,.slice qp3 l1.length qc4,.int .i64 a2,.int .i64 a3] 124]):=by
 unfold Q4N at hm
 refine QI Tryz.func59 Z Tryz.ntmps59 Z (S:=[_,_]) Z (fun C=>(Q5 (Q1 (wB Z (fun g3=>(wP Z (Q4 (Q3 (Q2 [3,0] (S':=[_,_]) Z (Q5 (Q1 (wP Z (wP Z (wF Z tF_122_0 (wF Z Q4D ?_)))))))))))))))
 refine wD 1 0 Z Q7l Q7i Z (Q33 Z Z Z Zq Z Z ?_)
 obtain ⟨v11,hc11,hm⟩:=Q7 hm
 refine wC [0] [1] Z fn_98 Z (Q8O N qp1 qc2 l0 g3 a4 _ hc11) (asK [0] Z) Z (H':=[_]) Z ?_
 rintro _ _ _ ⟨rfl,rfl,rfl⟩
 refine wP Z (Q4 (Q3 (Q2 [4] (S':=[_]) Z (Qk ?_))))
 have hE:=(Zi hm).symm
 replace hE:=hE.symm
 subst hE
 refine Qq (Hr:=[_]) [1] Tryz.results59 (Qb Z) ⟨Z,Z,Z⟩ (asK [0,1] Z) Z Z (.inl Z)
theorem Q9V (N:Nat)(a0:ByteArray)(a1:Int)(a2:Int)(qp0:OA)(qc1:Nat)(l3:List QE)(qp2:OA)(qc3:Nat)(l4:List Q20)(qg4:Nat)(a5:ByteArray)  (hm:Q59 N a0 a1 a2 l3 l4 a5=some ()):Q1d Tryz.prog 101 [.agg #[.string a0,.int .i64 a1,.int .i64 a2,.slice qp0 l3.length qc1,.slice qp2 l4.length qc3],.pointer (some ⟨qg4,0,none⟩)] [.sli 10 Q11 qp0 qc1 l3,.sli 4 Q1c qp2 qc3 l4] [.blk qg4 [.string a5] 9] (fun v Φr Hr=>v=.bool (a0.toList==a5.toList)∧Φr=[]∧Hr=[.blk qg4 [.string a5] 9]):=by
 unfold Q59 at hm
 refine QI Tryz.func101 Z Tryz.ntmps101 Z (S:=[_,_]) Z (fun C=>(Q5 (Q1 (wB Z (fun g2=>(wP Z (Q4 (Q3 (Q2 [2,1] (S':=[_,_]) Z (Q5 (Q1 (wF Z Q9S (wD 0 0 Z tS_9 tA_9 Z (wD 1 0 Z tS_9 tA_9 Z (wP Z ?_)))))))))))))))
 refine wP Z (Q4 (Q3 (Q2 [3] (S':=[_]) Z (Qk ?_))))
 have hE:=(Zi hm).symm
 refine Qq (Hr:=[_]) [1] Tryz.results101 (Qb Z) ⟨Z,Z,Z⟩ (asK [] Z) Z Z (.inl Z)
theorem Q8N (N:Nat)(a2:OA)(a3:Nat)(l0:List Qj)(s:Nat)(a1:ByteArray)(o0:Int)(hm:Q4p N l0 a1=some o0):Q1d Tryz.prog 100 [.slice a2 l0.length a3,.func (.func 101) #[] #[.pointer (some ⟨s,0,none⟩)]] [.sli 5 Qi a2 a3 l0] [.blk s [.string a1] 9] (fun v Φr Hr=>v=.int .i64 o0∧Φr=[]∧Hr=[.blk s [.string a1] 9]):=by
 unfold Q4p at hm
 refine QI Tryz.func100 Z Tryz.ntmps100 Z (S:=[_,_]) Z (fun C=>(Q5 (Q1 (wP Z (Q4 (Q3 (Q2 [0,1] (S':=[_,_]) Z (Q5 ?_))))))))
 obtain ⟨a6,hm,hLj_1⟩:=QN hm
 refine QF (σ:=Unit) (fun _=>a6=.inl ()) (fun _=>[]) (fun _=>[]) (fun _=>[.blk s [.string a1] 9]) ?_ ?_
 refine Q5 (Q1 (wP Z (wN Z Q6X (wP Z (Q4 (Q3 (Q2 [8,7,0,1] (S':=V4 ..) Z (Qx (Q1o (σ:=Nat×Nat) (fun (y,h)=>Q19 (Q2N N l0 a1) y h=some a6) (fun (y,h)=>y) (fun (y,h)=>[(8,.int .i64 ((h:Nat):Int)),(7,.int .i64 ((l0.length:Nat):Int)),(0,.slice a2 l0.length a3),(1,.func (.func 101) #[] #[.pointer (some ⟨s,0,none⟩)])]) (fun (y,h)=>[.sli 5 Qi a2 a3 l0]) (fun (y,h)=>[.blk s [.string a1] 9]) (N,0) hm [8,7,0,1] Z (asK [0] Z) Z (fun s_ hm=>?_))))))))))
 obtain ⟨y,h⟩:=s_
 try dsimp only at hm ⊢
 obtain ⟨aH,aI,a9,hq,hLu1⟩:=Q10 hm
 clear hm
 subst a9
 replace hm:=hq
 clear hq
 unfold Q2N at hm
 try dsimp only at hm
 refine Q5 (Q1 (wP Z (QD (d:=9) (v':=.bool (decide (h < l0.length))) (S':=V4 ..) Z Z (Q2E (a:=h) (b:=l0.length)) (Q4 (Q3 (Q5 ?_))))))
 refine Qm Z (fun a8=>?_) (fun a8=>?_)
 replace hm:=Qw hm a8
 refine Q2 [8,7,0,1] (S':=V4 ..) Z (Qt (Q3 (Q5 (Qx (Q5 (Q1 (wP Z (wP Z (Q4 (Q3 (Q2 [5,8,7,0,1] (S':=V5 ..) Z (Q5 (Q1 ?_)))))))))))))
 refine wP Z (wP Z (wP Z ?_))
 obtain ⟨z,aA,hm⟩:=Q7 hm
 refine QT 0 h Z Z Z Zq Z Z Z Z Z aA Q6X Q6Y (fun aJ aK aG aE=>(Q1h Q28 1 Z (fun a5 aB _=>?_)))
 subst aB
 refine Q1g 2 0 Z Z Z Zq Z Z Z (cs:=V5 ..) Z Q6Y tA_52 Z Z ?_
 obtain ⟨_,aC,hm⟩:=Q7 hm
 try dsimp only at hm
 refine Q1p [0] [] Z Z Z Zq Z Z Z fn_101 Z Z (Q9V N z.name z.salience z.vars a5.1.1 a5.1.2 z.conds a5.2.1 a5.2.2 z.acts s a1 aC) (asK [0,1] Z) Z (H':=[]) Z ?_
 rintro _ _ _ ⟨rfl,rfl,rfl⟩
 refine Q4 (Q3 (Q2 [16,5,8,7,0,1] (S':=V6 ..) Z ?_))
 refine Qm Z (fun a0=>?_) (fun a0=>?_)
 replace hm:=Qw hm a0
 refine Q2 [5] (S':=[_]) Z (Q5 (Q1 (wP Z (wP Z (Q4 (Q3 (Q2 [4] (S':=[_]) Z (Qk (Qa (Q8 (Q8 (Qa (Q8 ?_)))))))))))))
 have hE:=(Zi hm).symm
 replace hE:=Qn hLu1 hE
 replace hE:=Qn hLj_1 hE
 replace hE:=hE.symm
 subst hE
 refine Qq (Hr:=[_]) [0] Tryz.results100 (Qb Z) ⟨Z,Z,Z⟩ (asK [] Z) Z Z (.inl Z)
 replace hm:=Qv hm a0
 refine Q2 [8,7,0,1] (S':=V4 ..) Z (Qt (Qf (Q3 (Q1 (wP Z ?_)))))
 obtain ⟨aD,hm⟩:=Qz hm
 refine QD (d:=18) (v':=.int .i64 ((h+1:Nat):Int)) (S':=V4 ..) Z Z (Q1f (a:=h) (b:=1) aD) (QS (S':=V4 ..) Z Z Z Z Z (Q4 ?_))
 have hE:=(Zi hm).symm
 replace hE:=QA hLu1 hE
 refine QY (_,h+1) (Nat.lt_succ_self _) hE [8,7,0,1] Z (asK [4] Z) Z
 replace hm:=Qv hm a8
 refine Q2 [] (S':=[]) Z (Q1k (Qo (Qo (QG ?_))))
 have hE:=(Zi hm).symm
 replace hE:=Qn hLu1 hE
 refine Qd () hE [] Z (asK [] Z) Z
 rintro _ hE
 try dsimp only
 have hm:=QA hLj_1 hE
 try dsimp only at hm
 refine Q5 (Q1 (wP Z (Q4 (Q3 (Qk ?_)))))
 have hE:=(Zi hm).symm
 replace hE:=hE.symm
 subst hE
 refine Qq (Hr:=[_]) [0] Tryz.results100 (Qb Z) ⟨Z,Z,Z⟩ (asK [] Z) Z Z (.inl Z)
theorem Q7S (N:Nat)(qg0:Nat)(qp1:OA)(qc2:Nat)(l0:List Qg)(qp3:OA)(qc4:Nat)(l1:List Qj)(a2:Int)(a3:Int)(a4:ByteArray)(o0:Int)(hm:Q4O N l0 l1 a2 a3 a4=some o0):Q1d Tryz.prog 60 [.pointer (some ⟨qg0,0,none⟩),.string a4] [.sli 2 Qh qp1 qc2 l0,.sli 5 Qi qp3 qc4 l1] [.blk qg0 [.slice qp1 l0.length qc2,.slice qp3 l1.length qc4,.int .i64 a2,.int .i64 a3] 124] (fun v Φr Hr=>v=.int .i64 o0∧Φr=[.sli 2 Qh qp1 qc2 l0,.sli 5 Qi qp3 qc4 l1]∧Hr=[.blk qg0 [.slice qp1 l0.length qc2,.slice qp3 l1.length qc4,.int .i64 a2,.int .i64 a3] 124]):=by
 unfold Q4O at hm
 refine QI Tryz.func60 Z Tryz.ntmps60 Z (S:=[_,_]) Z (fun C=>(Q5 (Q1 (wB Z (fun g3=>(wP Z (Q4 (Q3 (Q2 [3,0] (S':=[_,_]) Z (Q5 (Q1 (wP Z (wP Z (wF Z tF_122_0 (wF Z Q4Z ?_)))))))))))))))
 refine wD 1 1 Z Q7u Q7t Z (Q33 Z Z Z Zq Z Z ?_)
 obtain ⟨v11,hc11,hm⟩:=Q7 hm
 refine wC [0] [1] Z fn_100 Z (Q8N N qp3 qc4 l1 g3 a4 _ hc11) (asK [1] Z) Z (H':=[_]) Z ?_
 rintro _ _ _ ⟨rfl,rfl,rfl⟩
 refine wP Z (Q4 (Q3 (Q2 [4] (S':=[_]) Z (Qk ?_))))
 have hE:=(Zi hm).symm
 replace hE:=hE.symm
 subst hE
 refine Qq (Hr:=[_]) [1] Tryz.results60 (Qb Z) ⟨Z,Z,Z⟩ (asK [0,1] Z) Z Z (.inl Z)
theorem Q7U (N:Nat)(a1:Nat)(s:OA)(y:Nat)(l0:List Qg)(z:OA)(a0:Nat)(l1:List Qj)(a2:Int)(a3:Int)(a4:Int)(a5:Int)(o0:Bool)(hm:Q3V N l0 l1 a2 a3 a4 a5=some o0):Q1d Tryz.prog 135 [.pointer (some ⟨a1,0,none⟩),.int .i64 a4,.int .i64 a5] [.sli 2 Qh s y l0,.sli 5 Qi z a0 l1] [.blk a1 [.slice s l0.length y,.slice z l1.length a0,.int .i64 a2,.int .i64 a3] 124] (fun v Φr Hr=>v=.bool o0∧Φr=[.sli 2 Qh s y l0,.sli 5 Qi z a0 l1]∧Hr=[.blk a1 [.slice s l0.length y,.slice z l1.length a0,.int .i64 a2,.int .i64 a3] 124]):=by
 unfold Q3V at hm
 refine QI Tryz.func135 Z Tryz.ntmps135 Z (S:=V3 ..) Z (fun C=>(Q5 (Q1 (wP Z (Q4 (Q3 (Q2 [0,1,2] (S':=V3 ..) Z (Q5 (Q1 (wP Z (wP Z (wP Z ?_))))))))))))
 refine Qr (d:=9) (S':=V5 ..) Z Z (fun a6=>?_) (fun a6=>?_)
 replace hm:=Qw hm a6
 refine wP Z (wP Z (wP Z (wF Z Qau (wF Z tF_122_0 (wF Z Q4D (wD 0 0 Z Q7l Q7i Z (wN Z Q6r (wP Z (wP Z (wP Z ?_))))))))))
 refine Qr (d:=20) (S':=V16 ..) Z Z (fun h=>?_) (fun h=>?_)
 replace hm:=Qw hm h
 refine wP Z (wP Z (wF Z Qau (wF Z tF_122_0 (wF Z Q4D (wD 0 0 Z Q7l Q7i Z (wP Z ?_))))))
 obtain ⟨a9,hm⟩:=Qz hm
 obtain ⟨aJ,aA,hm⟩:=Q7 hm
 refine QT 0 a4.toNat Z Z Z Zq Z Z Z Z (Q1I a9) aA Q6r Q95 (fun aK aL aI aF=>(Q1h Q2A 1 Z (fun aM aB _=>?_)))
 subst aB
 refine wF Z Q6K (Q1g 0 1 Z Z Z Zq Z Z Z (cs:=[_]) Z QZ Q15 Z Z (wP Z (wP Z (wP Z (wP Z (Q4 (Q3 (Q2 [6] (S':=[_]) Z (Qk ?_)))))))))
 have hE:=(Zi hm).symm
 replace hE:=hE.symm
 subst hE
 refine Qq (Hr:=[_]) [0] Tryz.results135 (Qb Z) ⟨Z,Z,Z⟩ (asK [2,3] Z) Z Z (.inl Z)
 replace hm:=Qv hm h
 refine wO Z (wO Z (wO Z (wO Z (wO Z (wO Z (wO Z (wO Z (wO Z (wO Z (wO Z (wO Z (wP Z (wP Z ?_)))))))))))))
 refine Q4 (Q3 (Q2 [6] (S':=[_]) Z (Qk ?_)))
 have hE:=(Zi hm).symm
 replace hE:=hE.symm
 subst hE
 refine Qq (Hr:=[_]) [0] Tryz.results135 (Qb Z) ⟨Z,Z,Z⟩ (asK [0,1] Z) Z Z (.inl Z)
 replace hm:=Qv hm a6
 refine wO Z (wO Z (wO Z (wO Z (wO Z (wO Z (wO Z (wO Z (wO Z (wP Z (wP Z (wO Z (wO Z (wO Z ?_)))))))))))))
 refine wO Z (wO Z (wO Z (wO Z (wO Z (wO Z (wO Z (wO Z (wO Z (wP Z (wP Z (Q4 (Q3 (Q2 [6] (S':=[_]) Z ?_)))))))))))))
 refine Qk ?_
 have hE:=(Zi hm).symm
 replace hE:=hE.symm
 subst hE
 refine Qq (Hr:=[_]) [0] Tryz.results135 (Qb Z) ⟨Z,Z,Z⟩ (asK [0,1] Z) Z Z (.inl Z)
theorem Q55 (N:Nat)(a0:Int)(a1:Int)(a2:Int)(a3:ByteArray)(a4:Int)(a5:Int)(aD:OA)(aE:Nat)(l6:List Qe)(a7:Bool)(a8:Bool)(a9:Bool)(o0:Bool)(hm:Q4F N a0 a1 a2 a3 a4 a5 l6 a7 a8 a9=some o0):Q1d Tryz.prog 136 [.agg #[.int .u8 a0,.int .u8 a1,.int .i64 a2,.string a3,.int .i64 a4,.int .u8 a5,.slice aD l6.length aE],.bool a7,.bool a8,.bool a9] [.sli 7 Qs aD aE l6] [] (fun v Φr Hr=>v=.bool o0∧Φr=[]∧Hr=[]):=by
 unfold Q4F at hm
 refine QI Tryz.func136 Z Tryz.ntmps136 Z (S:=V4 ..) Z (fun C=>(Q5 (Q1 (wB Z (fun g4=>(wP Z (Q4 (Q3 (Q2 [4,1,2,3] (S':=V4 ..) Z (Q5 ?_))))))))))
 obtain ⟨aF,hm,hLj_1⟩:=Q7 hm
 unfold Q7x at hm
 refine QF (σ:=Bool) (fun y=>aF=y) (fun y=>[(8,.bool y)]) (fun y=>[]) (fun y=>[]) ?_ ?_
 refine Q1 (wP Z (wP Z ?_))
 refine Qr (d:=10) (S':=V5 ..) Z Z (fun aB=>?_) (fun aB=>?_)
 replace hm:=Qw hm aB
 refine wO Z (wO Z (wO Z (wO Z (wP Z (wP Z (wP Z (wP Z ?_)))))))
 refine Qr (d:=18) (S':=V13 ..) Z Z (fun z=>?_) (fun z=>?_)
 replace hm:=Qw hm z
 refine wO Z (wO Z (wO Z (wP Z (wP Z (wP Z (wP Z (wP Z ?_)))))))
 refine Qr (d:=26) (S':=V21 ..) Z Z (fun h=>?_) (fun h=>?_)
 replace hm:=Qw hm h
 refine wO Z (wO Z (wO Z (wO Z (wO Z (wO Z (wO Z (wO Z (wO Z (wP Z (wP Z (wP Z (Q4 ?_))))))))))))
 have hE:=(Zi hm).symm
 refine Qu [] Z (H':=[]) Z ?_
 refine Qd true hE [8] Z (asK [] Z) Z
 replace hm:=Qv hm h
 refine wF Z Q5g (wD 0 5 Z Q7R Q7P Z (wP Z (wP Z ?_)))
 refine Qr (d:=30) (S':=V25 ..) Z Z (fun s=>?_) (fun s=>?_)
 replace hm:=Qw hm s
 refine wF Z Q5S (wD 0 6 Z Q51 Q50 Z (wN Z Q4r (wP Z (QD (d:=34) (v':=.bool (l6.length==0)) (S':=V29 ..) Z Z (Q6W (a:=l6.length) (b:=0)) (wP Z (wP Z (wP Z (wP Z (Q4 ?_)))))))))
 have hE:=(Zi hm).symm
 refine Qu [] Z (H':=[]) Z ?_
 refine Qd (l6.length==0) hE [8] Z (asK [] Z) Z
 replace hm:=Qv hm s
 refine wO Z (wO Z (wO Z (wO Z (wP Z (wP Z (wP Z (wP Z (Q4 ?_))))))))
 have hE:=(Zi hm).symm
 refine Qu [] Z (H':=[]) Z ?_
 refine Qd false hE [8] Z (asK [] Z) Z
 replace hm:=Qv hm z
 refine wF Z Q5t (wD 0 4 Z QZ Q15 Z (wP Z (wP Z (wP Z (wP Z ?_)))))
 refine Qr (d:=24) (S':=V19 ..) Z Z (fun a6=>?_) (fun a6=>?_)
 replace hm:=Qw hm a6
 refine wP Z (wP Z ?_)
 refine Qr (d:=26) (S':=V21 ..) Z Z (fun h=>?_) (fun h=>?_)
 replace hm:=Qw hm h
 refine wO Z (wO Z (wO Z (wO Z (wO Z (wO Z (wO Z (wO Z (wO Z (wP Z (wP Z (wP Z (Q4 ?_))))))))))))
 have hE:=(Zi hm).symm
 refine Qu [] Z (H':=[]) Z ?_
 refine Qd true hE [8] Z (asK [] Z) Z
 replace hm:=Qv hm h
 refine wF Z Q5g (wD 0 5 Z Q7R Q7P Z (wP Z (wP Z ?_)))
 refine Qr (d:=30) (S':=V25 ..) Z Z (fun s=>?_) (fun s=>?_)
 replace hm:=Qw hm s
 refine wF Z Q5S (wD 0 6 Z Q51 Q50 Z (wN Z Q4r (wP Z (QD (d:=34) (v':=.bool (l6.length==0)) (S':=V29 ..) Z Z (Q6W (a:=l6.length) (b:=0)) (wP Z (wP Z (wP Z (wP Z (Q4 ?_)))))))))
 have hE:=(Zi hm).symm
 refine Qu [] Z (H':=[]) Z ?_
 refine Qd (l6.length==0) hE [8] Z (asK [] Z) Z
 replace hm:=Qv hm s
 refine wO Z (wO Z (wO Z (wO Z (wP Z (wP Z (wP Z (wP Z (Q4 ?_))))))))
 have hE:=(Zi hm).symm
 refine Qu [] Z (H':=[]) Z ?_
 refine Qd false hE [8] Z (asK [] Z) Z
 replace hm:=Qv hm a6
 refine wO Z (wO Z (wO Z (wO Z (wO Z (wO Z (wO Z (wO Z (wO Z (wO Z (wO Z (wO Z (wP Z (wP Z ?_)))))))))))))
 refine Q4 ?_
 have hE:=(Zi hm).symm
 refine Qu [] Z (H':=[]) Z ?_
 refine Qd false hE [8] Z (asK [] Z) Z
 replace hm:=Qv hm aB
 refine wF Z Q92 (QM 0 1 Z Z Z Zq Z Z Z (cs:=V3 ..) Z QB Q1b Z Z (Q1F Z Z Z Zq Z Q1Q Q69 Z (out:=V3 ..) Z (Q65 Z Z Z Zq Z Z Z (eqlV _ _ (⟨a1,a2,a3⟩ : V) (⟨0,0,(⟨#[]⟩ : ByteArray)⟩ : V)) (wP Z (wP Z ?_)))))
 refine Qr (d:=16) (S':=V11 ..) Z Z (fun aC=>?_) (fun aC=>?_)
 replace hm:=Qw hm aC
 refine wP Z (wP Z ?_)
 refine Qr (d:=18) (S':=V13 ..) Z Z (fun z=>?_) (fun z=>?_)
 replace hm:=Qw hm z
 refine wO Z (wO Z (wO Z (wP Z (wP Z (wP Z (wP Z (wP Z ?_)))))))
 refine Qr (d:=26) (S':=V21 ..) Z Z (fun h=>?_) (fun h=>?_)
 replace hm:=Qw hm h
 refine wO Z (wO Z (wO Z (wO Z (wO Z (wO Z (wO Z (wO Z (wO Z (wP Z (wP Z (wP Z (Q4 ?_))))))))))))
 have hE:=(Zi hm).symm
 refine Qu [] Z (H':=[]) Z ?_
 refine Qd true hE [8] Z (asK [] Z) Z
 replace hm:=Qv hm h
 refine wF Z Q5g (wD 0 5 Z Q7R Q7P Z (wP Z (wP Z ?_)))
 refine Qr (d:=30) (S':=V25 ..) Z Z (fun s=>?_) (fun s=>?_)
 replace hm:=Qw hm s
 refine wF Z Q5S (wD 0 6 Z Q51 Q50 Z (wN Z Q4r (wP Z (QD (d:=34) (v':=.bool (l6.length==0)) (S':=V29 ..) Z Z (Q6W (a:=l6.length) (b:=0)) (wP Z (wP Z (wP Z (wP Z (Q4 ?_)))))))))
 have hE:=(Zi hm).symm
 refine Qu [] Z (H':=[]) Z ?_
 refine Qd (l6.length==0) hE [8] Z (asK [] Z) Z
 replace hm:=Qv hm s
 refine wO Z (wO Z (wO Z (wO Z (wP Z (wP Z (wP Z (wP Z (Q4 ?_))))))))
 have hE:=(Zi hm).symm
 refine Qu [] Z (H':=[]) Z ?_
 refine Qd false hE [8] Z (asK [] Z) Z
 replace hm:=Qv hm z
 refine wF Z Q5t (wD 0 4 Z QZ Q15 Z (wP Z (wP Z (wP Z (wP Z ?_)))))
 refine Qr (d:=24) (S':=V19 ..) Z Z (fun a6=>?_) (fun a6=>?_)
 replace hm:=Qw hm a6
 refine wP Z (wP Z ?_)
 refine Qr (d:=26) (S':=V21 ..) Z Z (fun h=>?_) (fun h=>?_)
 replace hm:=Qw hm h
 refine wO Z (wO Z (wO Z (wO Z (wO Z (wO Z (wO Z (wO Z (wO Z (wP Z (wP Z (wP Z (Q4 ?_))))))))))))
 have hE:=(Zi hm).symm
 refine Qu [] Z (H':=[]) Z ?_
 refine Qd true hE [8] Z (asK [] Z) Z
 replace hm:=Qv hm h
 refine wF Z Q5g (wD 0 5 Z Q7R Q7P Z (wP Z (wP Z ?_)))
 refine Qr (d:=30) (S':=V25 ..) Z Z (fun s=>?_) (fun s=>?_)
 replace hm:=Qw hm s
 refine wF Z Q5S (wD 0 6 Z Q51 Q50 Z (wN Z Q4r (wP Z (QD (d:=34) (v':=.bool (l6.length==0)) (S':=V29 ..) Z Z (Q6W (a:=l6.length) (b:=0)) (wP Z (wP Z (wP Z (wP Z (Q4 ?_)))))))))
 have hE:=(Zi hm).symm
 refine Qu [] Z (H':=[]) Z ?_
 refine Qd (l6.length==0) hE [8] Z (asK [] Z) Z
 replace hm:=Qv hm s
 refine wO Z (wO Z (wO Z (wO Z (wP Z (wP Z (wP Z (wP Z (Q4 ?_))))))))
 have hE:=(Zi hm).symm
 refine Qu [] Z (H':=[]) Z ?_
 refine Qd false hE [8] Z (asK [] Z) Z
 replace hm:=Qv hm a6
 refine wO Z (wO Z (wO Z (wO Z (wO Z (wO Z (wO Z (wO Z (wO Z (wO Z (wO Z (wO Z (wP Z (wP Z ?_)))))))))))))
 refine Q4 ?_
 have hE:=(Zi hm).symm
 refine Qu [] Z (H':=[]) Z ?_
 refine Qd false hE [8] Z (asK [] Z) Z
 replace hm:=Qv hm aC
 refine wO Z (wO Z (wO Z (wO Z (wO Z (wO Z (wP Z (wP Z (wO Z (wO Z (wO Z (wO Z (wO Z (wO Z ?_)))))))))))))
 refine wO Z (wO Z (wO Z (wO Z (wO Z (wO Z (wP Z (wP Z (Q4 ?_))))))))
 have hE:=(Zi hm).symm
 refine Qu [] Z (H':=[]) Z ?_
 refine Qd false hE [8] Z (asK [] Z) Z
 rintro y hE
 try dsimp only
 have hm:=hLj_1
 try rw [hE] at hm
 refine Qk ?_
 have hE:=(Zi hm).symm
 replace hE:=hE.symm
 subst hE
 refine Qq (Hr:=[]) [] Tryz.results136 (Qb Z) ⟨Z,Z,Z⟩ (asK [] Z) Z Z (.inl Z)
theorem QaW (N:Nat)(aJ:Nat)(aE:OA)(aF:Nat)(l0:List Qg)(aG:OA)(aH:Nat)(l1:List Qj)(a2:Int)(a3:Int)(a4:Int)(a5:Int)(a6:Int)(a7:Int)(a8:ByteArray)(a9:Bool)(o0:Bool)(o1:Int)(hm:Q5w N l0 l1 a2 a3 a4 a5 a6 a7 a8 a9=some (o0,o1)):Q1d Tryz.prog 137 [.pointer (some ⟨aJ,0,none⟩),.agg #[.int .u8 a4,.int .i64 a5,.int .u8 a6,.int .i64 a7,.string a8],.bool a9] [.sli 2 Qh aE aF l0,.sli 5 Qi aG aH l1] [.blk aJ [.slice aE l0.length aF,.slice aG l1.length aH,.int .i64 a2,.int .i64 a3] 124] (fun v Φr Hr=>v=.bool o0∧Φr=[.sli 2 Qh aE aF l0,.sli 5 Qi aG aH l1]∧Hr=[.blk aJ [.slice aE l0.length aF,.slice aG l1.length aH,.int .i64 o1,.int .i64 a3] 124]):=by
 unfold Q5w at hm
 refine QI Tryz.func137 Z Tryz.ntmps137 Z (S:=V3 ..) Z (fun C=>(Q5 (Q1 (wB Z (fun g4=>(wP Z (Q4 (Q3 (Q2 [4,0,2] (S':=V3 ..) Z (Q5 (Q1 (wF Z Q91 (QM 0 2 Z Z Z Zq Z Z Z (cs:=V3 ..) Z QB Q1b Z Z (Q1F Z Z Z Zq Z Q1Q Q69 Z (out:=V3 ..) Z (Q65 Z Z Z Zq Z Z Z (eqlV _ _ (⟨a6,a7,a8⟩ : V) (⟨0,0,(⟨#[]⟩ : ByteArray)⟩ : V)) ?_)))))))))))))))
 refine wP Z (Q4 (Q3 (Q2 [7,4,0,2] (S':=V4 ..) Z (Q5 (Q5 (Q1 (wF Z tF_59_0 (wD 0 0 Z tS_54 tA_54 Z (Q4 (Q3 (Q2 [13,7,4,0,2] (S':=V5 ..) Z (Qx (Q5 ?_)))))))))))))
 refine Q1 (wP Z (wP Z (Q4 (Q3 (Q2 [14,13,7,4,0,2] (S':=V6 ..) Z ?_)))))
 refine Qm Z (fun y=>?_) (fun y=>?_)
 replace hm:=Qw hm y
 refine Q2 [7,4] (S':=[_,_]) Z (Q5 (Q1 (wF Z Q2S (wD 0 1 Z QZ Q15 Z (wP Z (wP Z ?_))))))
 refine Qr (d:=19) (S':=V5 ..) Z Z (fun z=>?_) (fun z=>?_)
 replace hm:=Qw hm z
 refine wP Z (wP Z (wP Z (Q4 (Q3 (Q2 [6] (S':=[_]) Z (Qk (Qa (Q8 ?_))))))))
 have hE:=(Zi hm).symm
 obtain ⟨hE0,hE1⟩:=Prod.mk.inj hE
 clear hE
 replace hE0:=hE0.symm
 subst hE0
 replace hE1:=hE1.symm
 subst hE1
 refine Qq (Hr:=[_]) [1] Tryz.results137 (Qb Z) ⟨Z,Z,Z⟩ (asK [0,1] Z) Z Z (.inl Z)
 replace hm:=Qv hm z
 refine wO Z (wP Z (wP Z (Q4 (Q3 (Q2 [6] (S':=[_]) Z (Qk (Qa (Q8 ?_))))))))
 have hE:=(Zi hm).symm
 obtain ⟨hE0,hE1⟩:=Prod.mk.inj hE
 clear hE
 replace hE0:=hE0.symm
 subst hE0
 replace hE1:=hE1.symm
 subst hE1
 refine Qq (Hr:=[_]) [1] Tryz.results137 (Qb Z) ⟨Z,Z,Z⟩ (asK [0,1] Z) Z Z (.inl Z)
 replace hm:=Qv hm y
 refine Q2 [13,7,4,0,2] (S':=V5 ..) Z (Q5 (Q1 (wP Z (wP Z (Q4 (Q3 (Q2 [22,13,7,4,0,2] (S':=V6 ..) Z ?_)))))))
 refine Qm Z (fun a0=>?_) (fun a0=>?_)
 replace hm:=Qw hm a0
 refine Q2 [7,4,0,2] (S':=V4 ..) Z (Q5 (Q1 (wP Z (wP Z (wF Z Q5F (wD 1 2 Z QZ Q15 Z (wP Z ?_)))))))
 obtain ⟨aN,hm⟩:=Qz hm
 refine QD (d:=28) (v':=.int .i64 (a2+1)) (S':=V8 ..) Z Z (i64_in aN) (wP Z (wF Z Q5F (wS 1 2 Z QZ (all':=V4 ..) Z (H':=[_,_]) Z (Q4 (Q3 (Q2 [7,4,0,2] (S':=V4 ..) Z (Q5 ?_)))))))
 rcases Q14 hm with ⟨h,hm⟩ | ⟨h,hm⟩
 obtain ⟨aI,hm⟩:=Qz hm
 rcases Q14 hm with ⟨a1,hm⟩ | ⟨a1,hm⟩
 refine QR [0,1,2,3,4,5,6,7,8,9,10,11,12,13] Z Z (fun hok=>(xP hok 0 Z (xP hok 1 Z (Q17 (d:=32) (v':=.bool true) (S':=V5 ..) Z Z (QJ h) (Q9 hok 2 Z Z Z Zq Z Z Z Q2S (Ql hok 3 0 1 Z Z Z Zq Z Z Z Z (cs:=[_]) Z QZ Q15 Z Z (xP hok 4 Z (xP hok 5 Z (Q9 hok 6 Z Z Z Zq Z Z Z Q5F (Ql hok 7 1 2 Z Z Z Zq Z Z Z Z (cs:=[_]) Z QZ Q15 Z Z (xP hok 8 Z (Q17 (d:=39) (v':=.int .i64 ((a2+1) - 1)) (S':=V12 ..) Z Z (i64_in aI) (xP hok 9 Z (xP hok 10 Z ?_))))))))))))))
 refine xP hok 11 Z (Q17 (d:=42) (v':=.bool true) (S':=V15 ..) Z Z (QJ a1) (xP hok 12 Z (xP hok 13 Z (xS hok 14 Z (wP Z (Q4 (Q12 [0,1] [] Z Z (QO hok Z (Q3 (Q2 [6] (S':=[_]) Z (Qk (Qa (Q8 ?_)))))))))))))
 have hE:=(Zi hm).symm
 obtain ⟨hE0,hE1⟩:=Prod.mk.inj hE
 clear hE
 replace hE0:=hE0.symm
 subst hE0
 replace hE1:=hE1.symm
 subst hE1
 refine Qq (Hr:=[_]) [1] Tryz.results137 (Qb Z) ⟨Z,Z,Z⟩ (asK [0,1] Z) Z Z (.inl Z)
 refine QR [0,1,2,3,4,5,6,7,8,9,10,11,12,13] Z Z (fun hok=>(xP hok 0 Z (xP hok 1 Z (Q17 (d:=32) (v':=.bool true) (S':=V5 ..) Z Z (QJ h) (Q9 hok 2 Z Z Z Zq Z Z Z Q2S (Ql hok 3 0 1 Z Z Z Zq Z Z Z Z (cs:=[_]) Z QZ Q15 Z Z (xP hok 4 Z (xP hok 5 Z (Q9 hok 6 Z Z Z Zq Z Z Z Q5F (Ql hok 7 1 2 Z Z Z Zq Z Z Z Z (cs:=[_]) Z QZ Q15 Z Z (xP hok 8 Z (Q17 (d:=39) (v':=.int .i64 ((a2+1) - 1)) (S':=V12 ..) Z Z (i64_in aI) (xP hok 9 Z (xP hok 10 Z ?_))))))))))))))
 refine xP hok 11 Z (Q17 (d:=42) (v':=.bool false) (S':=V15 ..) Z Z (QJ a1) (xO hok 12 Z (xP hok 13 Z (xS hok 14 Z (wP Z (Q4 (Q12 [0,1] [] Z Z (QO hok Z (Q3 (Q2 [6] (S':=[_]) Z (Qk (Qa (Q8 ?_)))))))))))))
 have hE:=(Zi hm).symm
 obtain ⟨hE0,hE1⟩:=Prod.mk.inj hE
 clear hE
 replace hE0:=hE0.symm
 subst hE0
 replace hE1:=hE1.symm
 subst hE1
 refine Qq (Hr:=[_]) [1] Tryz.results137 (Qb Z) ⟨Z,Z,Z⟩ (asK [0,1] Z) Z Z (.inl Z)
 refine QR [0,1,2,3,4,5,6,7,8,9,10,11,12,13] Z Z (fun hok=>(xP hok 0 Z (xP hok 1 Z (Q17 (d:=32) (v':=.bool false) (S':=V5 ..) Z Z (QJ h) (xO hok 2 Z (xO hok 3 Z (xO hok 4 Z (xO hok 5 Z (xO hok 6 Z (xO hok 7 Z (xO hok 8 Z (xO hok 9 Z (xP hok 10 Z (xP hok 11 Z ?_))))))))))))))
 refine xO hok 12 Z (xP hok 13 Z (xS hok 14 Z (wP Z (Q4 (Q12 [0,1] [] Z Z (QO hok Z (Q3 (Q2 [6] (S':=[_]) Z (Qk (Qa (Q8 ?_)))))))))))
 have hE:=(Zi hm).symm
 obtain ⟨hE0,hE1⟩:=Prod.mk.inj hE
 clear hE
 replace hE0:=hE0.symm
 subst hE0
 replace hE1:=hE1.symm
 subst hE1
 refine Qq (Hr:=[_]) [1] Tryz.results137 (Qb Z) ⟨Z,Z,Z⟩ (asK [0,1] Z) Z Z (.inl Z)
 replace hm:=Qv hm a0
 refine Q2 [13,7,4,0] (S':=V4 ..) Z (Q5 (Q1 (wP Z (wP Z (Q4 (Q3 (Q2 [45,7,4,0] (S':=V4 ..) Z ?_)))))))
 refine Qm Z (fun aA=>?_) (fun aA=>?_)
 replace hm:=Qw hm aA
 refine Q2 [7,4,0] (S':=V3 ..) Z (Q5 ?_)
 rcases Q14 hm with ⟨s,hm⟩ | ⟨s,hm⟩
 rcases Q14 hm with ⟨aB,hm⟩ | ⟨aB,hm⟩
 refine QR [0,1,2,3,4,5,6,7,8,9,10,11,12,13,14] Z Z (fun hok=>(Q9 hok 0 Z Z Z Zq Z Z Z Q2S (Ql hok 1 0 1 Z Z Z Zq Z Z Z Z (cs:=[_]) Z QZ Q15 Z Z (xP hok 2 Z (xP hok 3 Z (Q17 (d:=50) (v':=.bool true) (S':=V6 ..) Z Z (QJ s) (Q9 hok 4 Z Z Z Zq Z Z Z Q2S (Ql hok 5 0 1 Z Z Z Zq Z Z Z Z (cs:=[_]) Z QZ Q15 Z Z (xP hok 6 Z (xP hok 7 Z (Q9 hok 8 Z Z Z Zq Z Z Z Q5F (Ql hok 9 1 2 Z Z Z Zq Z Z Z Z (cs:=[_]) Z QZ Q15 Z Z (xP hok 10 Z (xP hok 11 Z ?_))))))))))))))
 refine xP hok 12 Z (Q17 (d:=59) (v':=.bool true) (S':=V15 ..) Z Z (QJ aB) (xP hok 13 Z (xP hok 14 Z (xS hok 15 Z (wP Z (Q4 (Q12 [0,1] [] Z Z (QO hok Z (Q3 (Q2 [6] (S':=[_]) Z (Qk (Qa (Q8 ?_)))))))))))))
 have hE:=(Zi hm).symm
 obtain ⟨hE0,hE1⟩:=Prod.mk.inj hE
 clear hE
 replace hE0:=hE0.symm
 subst hE0
 replace hE1:=hE1.symm
 subst hE1
 refine Qq (Hr:=[_]) [1] Tryz.results137 (Qb Z) ⟨Z,Z,Z⟩ (asK [0,1] Z) Z Z (.inl Z)
 refine QR [0,1,2,3,4,5,6,7,8,9,10,11,12,13,14] Z Z (fun hok=>(Q9 hok 0 Z Z Z Zq Z Z Z Q2S (Ql hok 1 0 1 Z Z Z Zq Z Z Z Z (cs:=[_]) Z QZ Q15 Z Z (xP hok 2 Z (xP hok 3 Z (Q17 (d:=50) (v':=.bool true) (S':=V6 ..) Z Z (QJ s) (Q9 hok 4 Z Z Z Zq Z Z Z Q2S (Ql hok 5 0 1 Z Z Z Zq Z Z Z Z (cs:=[_]) Z QZ Q15 Z Z (xP hok 6 Z (xP hok 7 Z (Q9 hok 8 Z Z Z Zq Z Z Z Q5F (Ql hok 9 1 2 Z Z Z Zq Z Z Z Z (cs:=[_]) Z QZ Q15 Z Z (xP hok 10 Z (xP hok 11 Z ?_))))))))))))))
 refine xP hok 12 Z (Q17 (d:=59) (v':=.bool false) (S':=V15 ..) Z Z (QJ aB) (xO hok 13 Z (xP hok 14 Z (xS hok 15 Z (wP Z (Q4 (Q12 [0,1] [] Z Z (QO hok Z (Q3 (Q2 [6] (S':=[_]) Z (Qk (Qa (Q8 ?_)))))))))))))
 have hE:=(Zi hm).symm
 obtain ⟨hE0,hE1⟩:=Prod.mk.inj hE
 clear hE
 replace hE0:=hE0.symm
 subst hE0
 replace hE1:=hE1.symm
 subst hE1
 refine Qq (Hr:=[_]) [1] Tryz.results137 (Qb Z) ⟨Z,Z,Z⟩ (asK [0,1] Z) Z Z (.inl Z)
 refine QR [0,1,2,3,4,5,6,7,8,9,10,11,12,13,14] Z Z (fun hok=>(Q9 hok 0 Z Z Z Zq Z Z Z Q2S (Ql hok 1 0 1 Z Z Z Zq Z Z Z Z (cs:=[_]) Z QZ Q15 Z Z (xP hok 2 Z (xP hok 3 Z (Q17 (d:=50) (v':=.bool false) (S':=V6 ..) Z Z (QJ s) (xO hok 4 Z (xO hok 5 Z (xO hok 6 Z (xO hok 7 Z (xO hok 8 Z (xO hok 9 Z (xO hok 10 Z (xP hok 11 Z ?_))))))))))))))
 refine xP hok 12 Z (xO hok 13 Z (xP hok 14 Z (xS hok 15 Z (wP Z (Q4 (Q12 [0,1] [] Z Z (QO hok Z (Q3 (Q2 [6] (S':=[_]) Z (Qk (Qa (Q8 ?_))))))))))))
 have hE:=(Zi hm).symm
 obtain ⟨hE0,hE1⟩:=Prod.mk.inj hE
 clear hE
 replace hE0:=hE0.symm
 subst hE0
 replace hE1:=hE1.symm
 subst hE1
 refine Qq (Hr:=[_]) [1] Tryz.results137 (Qb Z) ⟨Z,Z,Z⟩ (asK [0,1] Z) Z Z (.inl Z)
 replace hm:=Qv hm aA
 refine Q2 [4] (S':=[_]) Z (Qt (Qf (Q3 (Q5 (Q1 (wF Z tF_59_0 (wD 0 0 Z tS_54 tA_54 Z (wP Z (wP Z ?_)))))))))
 refine Qr (d:=65) (S':=V4 ..) Z Z (fun aC=>?_) (fun aC=>?_)
 replace hm:=Qw hm aC
 refine wF Z Q2S (wD 0 1 Z QZ Q15 Z (wP Z (wP Z (wP Z ?_))))
 refine Qr (d:=70) (S':=V9 ..) Z Z (fun aD=>?_) (fun aD=>?_)
 replace hm:=Qw hm aD
 refine wF Z Q91 (QM 0 2 Z Z Z Zq Z Z Z (cs:=V3 ..) Z QB Q1b Z Z ?_)
 obtain ⟨aY,aO,hm⟩:=Q7 hm
 refine wC [] [0,1] Z fn_64 Z (Q56 N a6 a7 a8 _ aO) (asK [] Z) Z (H':=[_,_]) Z ?_
 rintro _ _ _ ⟨rfl,rfl,rfl⟩
 refine wP Z (wP Z (Q4 (Q3 (Q2 [6] (S':=[_]) Z (Qk ?_)))))
 have hE:=(Zi hm).symm
 obtain ⟨hE0,hE1⟩:=Prod.mk.inj hE
 clear hE
 replace hE0:=hE0.symm
 subst hE0
 replace hE1:=hE1.symm
 subst hE1
 refine Qq (Hr:=[_]) [1] Tryz.results137 (Qb Z) ⟨Z,Z,Z⟩ (asK [0,1] Z) Z Z (.inl Z)
 replace hm:=Qv hm aD
 refine wO Z (wO Z (wO Z (wP Z (wP Z (Q4 (Q3 (Q2 [6] (S':=[_]) Z (Qk ?_))))))))
 have hE:=(Zi hm).symm
 obtain ⟨hE0,hE1⟩:=Prod.mk.inj hE
 clear hE
 replace hE0:=hE0.symm
 subst hE0
 replace hE1:=hE1.symm
 subst hE1
 refine Qq (Hr:=[_]) [1] Tryz.results137 (Qb Z) ⟨Z,Z,Z⟩ (asK [0,1] Z) Z Z (.inl Z)
 replace hm:=Qv hm aC
 refine wO Z (wO Z (wO Z (wP Z (wP Z (wO Z (wO Z (wO Z (wP Z (wP Z (Q4 (Q3 (Q2 [6] (S':=[_]) Z (Qk ?_)))))))))))))
 have hE:=(Zi hm).symm
 obtain ⟨hE0,hE1⟩:=Prod.mk.inj hE
 clear hE
 replace hE0:=hE0.symm
 subst hE0
 replace hE1:=hE1.symm
 subst hE1
 refine Qq (Hr:=[_]) [1] Tryz.results137 (Qb Z) ⟨Z,Z,Z⟩ (asK [0,1] Z) Z Z (.inl Z)
theorem Q8I (N:Nat)(rc:(List Qg)→(List Qj)→Int→Int→Int→Int→Int→ByteArray→Int→Int→(List Qe)→Option (Bool))(ih : ∀ (aG:Nat)(aB:OA)(aC:Nat)(l0:List Qg)(aD:OA)(aE:Nat)(l1:List Qj)(a2:Int)(a3:Int)(a4:Int)(a5:Int)(a6:Int)(a7:ByteArray)(a8:Int)(a9:Int)(aU:OA)(aV:Nat)(aK:List Qe)(o0:Bool),rc l0 l1 a2 a3 a4 a5 a6 a7 a8 a9 aK=some o0→Q1d Tryz.prog 138 [.pointer (some ⟨aG,0,none⟩),.agg #[.int .u8 a4,.int .u8 a5,.int .i64 a6,.string a7,.int .i64 a8,.int .u8 a9,.slice aU aK.length aV]] [.sli 2 Qh aB aC l0,.sli 5 Qi aD aE l1,.sli 7 Qs aU aV aK] [.blk aG [.slice aB l0.length aC,.slice aD l1.length aE,.int .i64 a2,.int .i64 a3] 124] (fun v Φr Hr=>v=.bool o0∧Φr=[.sli 2 Qh aB aC l0,.sli 5 Qi aD aE l1]∧Hr=[.blk aG [.slice aB l0.length aC,.slice aD l1.length aE,.int .i64 a2,.int .i64 a3] 124]))(a0:Int)(a1:Int)(a2:Int)(a3:ByteArray)(a4:Int)(a5:Int)(aL:OA)(aM:Nat)(l6:List Qe)(aN:Nat)(h:Nat)(s:OA)(y:Nat)(l7:List Qg)(z:OA)(aA:Nat)(l8:List Qj)(a9:Int)(aF:Int)(o0:Bool)(hm:Q4g N rc a0 a1 a2 a3 a4 a5 l6 l7 l8 a9 aF=some o0):Q1d Tryz.prog 180 [.agg #[.int .u8 a0,.int .u8 a1,.int .i64 a2,.string a3,.int .i64 a4,.int .u8 a5,.slice aL l6.length aM],.pointer (some ⟨aN,0,none⟩)] [.sli 7 Qs aL aM l6,.sli 2 Qh s y l7,.sli 5 Qi z aA l8] [.blk aN [.pointer (some ⟨h,0,none⟩)] 120,.blk h [.slice s l7.length y,.slice z l8.length aA,.int .i64 a9,.int .i64 aF] 124] (fun v Φr Hr=>v=.bool o0∧Φr=[.sli 2 Qh s y l7,.sli 5 Qi z aA l8]∧Hr=[.blk aN [.pointer (some ⟨h,0,none⟩)] 120,.blk h [.slice s l7.length y,.slice z l8.length aA,.int .i64 a9,.int .i64 aF] 124]):=by
 unfold Q4g at hm
 refine QI Tryz.func180 Z Tryz.ntmps180 Z (S:=[_,_]) Z (fun C=>(Q5 (Q1 (wB Z (fun g2=>(wP Z (Q4 (Q3 (Q2 [2,1] (S':=[_,_]) Z (Q5 (Q1 (wD 1 0 Z Q8B Q8x Z (QM 0 0 Z Z Z Zq Z Z Z (cs:=V7 ..) Z Q52 Q6E Z Z ?_)))))))))))))
 obtain ⟨v6,b0,hm⟩:=Q7 hm
 refine wC [2] [0,1] Z fn_138 Z (ih h s y l7 z aA l8 a9 aF a0 a1 a2 a3 a4 a5 aL aM l6 _ b0) (asK [1,2,0] Z) Z (H':=[_,_]) Z ?_
 rintro _ _ _ ⟨rfl,rfl,rfl⟩
 refine wP Z (wP Z (Q4 (Q3 (Q2 [3] (S':=[_]) Z (Qk ?_)))))
 have hE:=(Zi hm).symm
 replace hE:=hE.symm
 subst hE
 refine Qq (Hr:=[_,_]) [2,0] Tryz.results180 (Qb Z) ⟨Z,Z,Z⟩ (asK [0,1] Z) Z Z (.inl Z)
theorem Q83 (N:Nat)(rc:(List Qg)→(List Qj)→Int→Int→Int→Int→Int→ByteArray→Int→Int→(List Qe)→Option (Bool))(ih : ∀ (aR:Nat)(aK:OA)(aL:Nat)(l0:List Qg)(aM:OA)(aN:Nat)(l1:List Qj)(a2:Int)(a3:Int)(a4:Int)(a5:Int)(a6:Int)(a7:ByteArray)(a8:Int)(a9:Int)(aU:OA)(aV:Nat)(aS:List Qe)(o0:Bool),rc l0 l1 a2 a3 a4 a5 a6 a7 a8 a9 aS=some o0→Q1d Tryz.prog 138 [.pointer (some ⟨aR,0,none⟩),.agg #[.int .u8 a4,.int .u8 a5,.int .i64 a6,.string a7,.int .i64 a8,.int .u8 a9,.slice aU aS.length aV]] [.sli 2 Qh aK aL l0,.sli 5 Qi aM aN l1,.sli 7 Qs aU aV aS] [.blk aR [.slice aK l0.length aL,.slice aM l1.length aN,.int .i64 a2,.int .i64 a3] 124] (fun v Φr Hr=>v=.bool o0∧Φr=[.sli 2 Qh aK aL l0,.sli 5 Qi aM aN l1]∧Hr=[.blk aR [.slice aK l0.length aL,.slice aM l1.length aN,.int .i64 a2,.int .i64 a3] 124]))(aO:OA)(aP:Nat)(l0:List Qe)(aD:Nat)(y:Nat)(z:OA)(a0:Nat)(l1:List Qg)(a1:OA)(aA:Nat)(l2:List Qj)(a3:Int)(a4:Int)(o0:Int)(hm:Q3B N rc l0 l1 l2 a3 a4=some o0):Q1d Tryz.prog 214 [.slice aO l0.length aP,.func (.func 180) #[] #[.pointer (some ⟨aD,0,none⟩)]] [.sli 7 Qs aO aP l0,.sli 2 Qh z a0 l1,.sli 5 Qi a1 aA l2] [.blk aD [.pointer (some ⟨y,0,none⟩)] 120,.blk y [.slice z l1.length a0,.slice a1 l2.length aA,.int .i64 a3,.int .i64 a4] 124] (fun v Φr Hr=>v=.int .i64 o0∧Φr=[.sli 2 Qh z a0 l1,.sli 5 Qi a1 aA l2]∧Hr=[.blk aD [.pointer (some ⟨y,0,none⟩)] 120,.blk y [.slice z l1.length a0,.slice a1 l2.length aA,.int .i64 a3,.int .i64 a4] 124]):=by
 unfold Q3B at hm
 refine QI Tryz.func214 Z Tryz.ntmps214 Z (S:=[_,_]) Z (fun C=>(Q5 (Q1 (wP Z (Q4 (Q3 (Q2 [0,1] (S':=[_,_]) Z (Q5 ?_))))))))
 obtain ⟨aQ,hm,hLj_1⟩:=QN hm
 refine QF (σ:=Unit) (fun _=>aQ=.inl ()) (fun _=>[]) (fun _=>[.sli 2 Qh z a0 l1,.sli 5 Qi a1 aA l2]) (fun _=>[.blk aD [.pointer (some ⟨y,0,none⟩)] 120,.blk y [.slice z l1.length a0,.slice a1 l2.length aA,.int .i64 a3,.int .i64 a4] 124]) ?_ ?_
 refine Q5 (Q1 (wP Z (wN Z Q4r (wP Z (Q4 (Q3 (Q2 [8,7,0,1] (S':=V4 ..) Z (Qx (Q1o (σ:=Nat×Nat) (fun (aE,h)=>Q19 (Q2e N l0 rc l1 l2 a3 a4) aE h=some aQ) (fun (aE,h)=>aE) (fun (aE,h)=>[(8,.int .i64 ((h:Nat):Int)),(7,.int .i64 ((l0.length:Nat):Int)),(0,.slice aO l0.length aP),(1,.func (.func 180) #[] #[.pointer (some ⟨aD,0,none⟩)])]) (fun (aE,h)=>[.sli 7 Qs aO aP l0,.sli 2 Qh z a0 l1,.sli 5 Qi a1 aA l2]) (fun (aE,h)=>[.blk aD [.pointer (some ⟨y,0,none⟩)] 120,.blk y [.slice z l1.length a0,.slice a1 l2.length aA,.int .i64 a3,.int .i64 a4] 124]) (N,0) hm [8,7,0,1] Z (asK [0,1,2] Z) Z (fun s_ hm=>?_))))))))))
 obtain ⟨aE,h⟩:=s_
 try dsimp only at hm ⊢
 obtain ⟨bB,bC,aX,hq,hLu1⟩:=Q10 hm
 clear hm
 subst aX
 replace hm:=hq
 clear hq
 unfold Q2e at hm
 try dsimp only at hm
 refine Q5 (Q1 (wP Z (QD (d:=9) (v':=.bool (decide (h < l0.length))) (S':=V4 ..) Z Z (Q2E (a:=h) (b:=l0.length)) (Q4 (Q3 (Q5 ?_))))))
 refine Qm Z (fun aT=>?_) (fun aT=>?_)
 replace hm:=Qw hm aT
 refine Q2 [8,7,0,1] (S':=V4 ..) Z (Qt (Q3 (Q5 (Qx (Q5 (Q1 (wP Z (wP Z (Q4 (Q3 (Q2 [5,8,7,0,1] (S':=V5 ..) Z (Q5 (Q1 ?_)))))))))))))
 refine wP Z (wP Z (wP Z ?_))
 obtain ⟨aF,aY,hm⟩:=Q7 hm
 refine QT 0 h Z Z Z Zq Z Z Z Z Z aY Q4r Q52 (fun bD bE bA b4=>(Q1h Q30 1 Z (fun aZ b0 _=>?_)))
 subst b0
 refine Q1g 1 0 Z Z Z Zq Z Z Z (cs:=V7 ..) Z Q52 Q6E Z Z ?_
 obtain ⟨bF,b1,hm⟩:=Q7 hm
 refine Q1p [0,1] [] Z Z Z Zq Z Z Z fn_180 Z Z (Q8I N rc ih aF.kind aF.value.k aF.value.n aF.value.s aF.var aF.op aZ.1 aZ.2 aF.kids aD y z a0 l1 a1 aA l2 a3 a4 _ b1) (asK [0,4,5] Z) Z (H':=[]) Z ?_
 rintro _ _ _ ⟨rfl,rfl,rfl⟩
 refine Q4 (Q3 (Q2 [16,5,8,7,0,1] (S':=V6 ..) Z ?_))
 refine Qm Z (fun aI=>?_) (fun aI=>?_)
 replace hm:=Qw hm aI
 refine Q2 [5] (S':=[_]) Z (Q5 (Q1 (wP Z (wP Z (Q4 (Q3 (Q2 [4] (S':=[_]) Z (Qk (Qa (Q8 (Q8 (Qa (Q8 ?_)))))))))))))
 have hE:=(Zi hm).symm
 replace hE:=Qn hLu1 hE
 replace hE:=Qn hLj_1 hE
 replace hE:=hE.symm
 subst hE
 refine Qq (Hr:=[_,_]) [0,1] Tryz.results214 (Qb Z) ⟨Z,Z,Z⟩ (asK [0,1] Z) Z Z (.inl Z)
 replace hm:=Qv hm aI
 refine Q2 [8,7,0,1] (S':=V4 ..) Z (Qt (Qf (Q3 (Q1 (wP Z ?_)))))
 obtain ⟨b2,hm⟩:=Qz hm
 refine QD (d:=18) (v':=.int .i64 ((h+1:Nat):Int)) (S':=V4 ..) Z Z (Q1f (a:=h) (b:=1) b2) (QS (S':=V4 ..) Z Z Z Z Z (Q4 ?_))
 have hE:=(Zi hm).symm
 replace hE:=QA hLu1 hE
 refine QY (_,h+1) (Nat.lt_succ_self _) hE [8,7,0,1] Z (asK [5,0,1] Z) Z
 replace hm:=Qv hm aT
 refine Q2 [] (S':=[]) Z (Q1k (Qo (Qo (QG ?_))))
 have hE:=(Zi hm).symm
 replace hE:=Qn hLu1 hE
 refine Qd () hE [] Z (asK [1,2] Z) Z
 rintro _ hE
 try dsimp only
 have hm:=QA hLj_1 hE
 try dsimp only at hm
 refine Q5 (Q1 (wP Z (Q4 (Q3 (Qk ?_)))))
 have hE:=(Zi hm).symm
 replace hE:=hE.symm
 subst hE
 refine Qq (Hr:=[_,_]) [0,1] Tryz.results214 (Qb Z) ⟨Z,Z,Z⟩ (asK [0,1] Z) Z Z (.inl Z)
theorem Q7r (N:Nat)(rc:(List Qg)→(List Qj)→Int→Int→Int→Int→Int→ByteArray→Int→Int→(List Qe)→Option (Bool))(ih : ∀ (qg0:Nat)(qp1:OA)(qc2:Nat)(l0:List Qg)(qp3:OA)(qc4:Nat)(l1:List Qj)(a2:Int)(a3:Int)(a4:Int)(a5:Int)(a6:Int)(a7:ByteArray)(a8:Int)(a9:Int)(qp5:OA)(qc6:Nat)(l10:List Qe)(o0:Bool),rc l0 l1 a2 a3 a4 a5 a6 a7 a8 a9 l10=some o0→Q1d Tryz.prog 138 [.pointer (some ⟨qg0,0,none⟩),.agg #[.int .u8 a4,.int .u8 a5,.int .i64 a6,.string a7,.int .i64 a8,.int .u8 a9,.slice qp5 l10.length qc6]] [.sli 2 Qh qp1 qc2 l0,.sli 5 Qi qp3 qc4 l1,.sli 7 Qs qp5 qc6 l10] [.blk qg0 [.slice qp1 l0.length qc2,.slice qp3 l1.length qc4,.int .i64 a2,.int .i64 a3] 124] (fun v Φr Hr=>v=.bool o0∧Φr=[.sli 2 Qh qp1 qc2 l0,.sli 5 Qi qp3 qc4 l1]∧Hr=[.blk qg0 [.slice qp1 l0.length qc2,.slice qp3 l1.length qc4,.int .i64 a2,.int .i64 a3] 124]))(qp0:OA)(qc1:Nat)(l0:List Qe)(qg2:Nat)(qg3:Nat)(qp4:OA)(qc5:Nat)(l1:List Qg)(qp6:OA)(qc7:Nat)(l2:List Qj)(a3:Int)(a4:Int)(o0:Bool)(hm:Q32 N rc l0 l1 l2 a3 a4=some o0):Q1d Tryz.prog 179 [.slice qp0 l0.length qc1,.func (.func 180) #[] #[.pointer (some ⟨qg2,0,none⟩)]] [.sli 7 Qs qp0 qc1 l0,.sli 2 Qh qp4 qc5 l1,.sli 5 Qi qp6 qc7 l2] [.blk qg2 [.pointer (some ⟨qg3,0,none⟩)] 120,.blk qg3 [.slice qp4 l1.length qc5,.slice qp6 l2.length qc7,.int .i64 a3,.int .i64 a4] 124] (fun v Φr Hr=>v=.bool o0∧Φr=[.sli 2 Qh qp4 qc5 l1,.sli 5 Qi qp6 qc7 l2]∧Hr=[.blk qg2 [.pointer (some ⟨qg3,0,none⟩)] 120,.blk qg3 [.slice qp4 l1.length qc5,.slice qp6 l2.length qc7,.int .i64 a3,.int .i64 a4] 124]):=by
 unfold Q32 at hm
 refine QI Tryz.func179 Z Tryz.ntmps179 Z (S:=[_,_]) Z (fun C=>(Q5 (Q1 (wP Z (Q4 (Q3 (Q2 [0,1] (S':=[_,_]) Z (Q5 (Q1 (wP Z (wP Z ?_)))))))))))
 obtain ⟨v7,hc7,hm⟩:=Q7 hm
 refine wC [0,1] [] Z fn_214 Z (Q83 N rc ih qp0 qc1 l0 qg2 qg3 qp4 qc5 l1 qp6 qc7 l2 a3 a4 _ hc7) (asK [0,1,2] Z) Z (H':=[]) Z ?_
 rintro _ _ _ ⟨rfl,rfl,rfl⟩
 refine wP Z (wP Z (Q4 (Q3 (Q2 [4] (S':=[_]) Z (Qk ?_)))))
 have hE:=(Zi hm).symm
 replace hE:=hE.symm
 subst hE
 refine Qq (Hr:=[_,_]) [0,1] Tryz.results179 (Qb Z) ⟨Z,Z,Z⟩ (asK [0,1] Z) Z Z (.inl Z)
theorem Q9u (N:Nat)(rc:(List Qg)→(List Qj)→Int→Int→Int→Int→Int→ByteArray→Int→Int→(List Qe)→Option (Bool))(ih : ∀ (qg0:Nat)(qp1:OA)(qc2:Nat)(l0:List Qg)(qp3:OA)(qc4:Nat)(l1:List Qj)(a2:Int)(a3:Int)(a4:Int)(a5:Int)(a6:Int)(a7:ByteArray)(a8:Int)(a9:Int)(qp5:OA)(qc6:Nat)(l10:List Qe)(o0:Bool),rc l0 l1 a2 a3 a4 a5 a6 a7 a8 a9 l10=some o0→Q1d Tryz.prog 138 [.pointer (some ⟨qg0,0,none⟩),.agg #[.int .u8 a4,.int .u8 a5,.int .i64 a6,.string a7,.int .i64 a8,.int .u8 a9,.slice qp5 l10.length qc6]] [.sli 2 Qh qp1 qc2 l0,.sli 5 Qi qp3 qc4 l1,.sli 7 Qs qp5 qc6 l10] [.blk qg0 [.slice qp1 l0.length qc2,.slice qp3 l1.length qc4,.int .i64 a2,.int .i64 a3] 124] (fun v Φr Hr=>v=.bool o0∧Φr=[.sli 2 Qh qp1 qc2 l0,.sli 5 Qi qp3 qc4 l1]∧Hr=[.blk qg0 [.slice qp1 l0.length qc2,.slice qp3 l1.length qc4,.int .i64 a2,.int .i64 a3] 124]))(qg0:Nat)(qp1:OA)(qc2:Nat)(l0:List Qg)(qp3:OA)(qc4:Nat)(l1:List Qj)(a2:Int)(a3:Int)(qp5:OA)(qc6:Nat)(l4:List Qe)(o0:Bool)(hm:Q3M N rc l0 l1 a2 a3 l4=some o0):Q1d Tryz.prog 140 [.pointer (some ⟨qg0,0,none⟩),.slice qp5 l4.length qc6] [.sli 2 Qh qp1 qc2 l0,.sli 5 Qi qp3 qc4 l1,.sli 7 Qs qp5 qc6 l4] [.blk qg0 [.slice qp1 l0.length qc2,.slice qp3 l1.length qc4,.int .i64 a2,.int .i64 a3] 124] (fun v Φr Hr=>v=.bool o0∧Φr=[.sli 2 Qh qp1 qc2 l0,.sli 5 Qi qp3 qc4 l1]∧Hr=[.blk qg0 [.slice qp1 l0.length qc2,.slice qp3 l1.length qc4,.int .i64 a2,.int .i64 a3] 124]):=by
 unfold Q3M at hm
 refine QI Tryz.func140 Z Tryz.ntmps140 Z (S:=[_,_]) Z (fun C=>(Q5 (Q1 (wB Z (fun g2=>(wP Z (Q4 (Q3 (Q2 [2,1] (S':=[_,_]) Z (Q5 (Q1 (wP Z (Q33 Z Z Z Zq Z Z ?_)))))))))))))
 obtain ⟨v7,hc7,hm⟩:=Q7 hm
 refine wC [0,1] [] Z fn_179 Z (Q7r N rc ih qp5 qc6 l4 g2 qg0 qp1 qc2 l0 qp3 qc4 l1 a2 a3 _ hc7) (asK [2,0,1] Z) Z (H':=[]) Z ?_
 rintro _ _ _ ⟨rfl,rfl,rfl⟩
 refine wP Z (wP Z (Q4 (Q3 (Q2 [4] (S':=[_]) Z (Qk ?_)))))
 have hE:=(Zi hm).symm
 replace hE:=hE.symm
 subst hE
 refine Qq (Hr:=[_]) [1] Tryz.results140 (Qb Z) ⟨Z,Z,Z⟩ (asK [0,1] Z) Z Z (.inl Z)
theorem Qaa (N:Nat)(rc:(List Qg)→(List Qj)→Int→Int→Int→Int→Int→ByteArray→Int→Int→(List Qe)→Option (Bool))(ih : ∀ (aD:Nat)(z:OA)(a0:Nat)(l0:List Qg)(a1:OA)(aA:Nat)(l1:List Qj)(a2:Int)(a3:Int)(a4:Int)(a5:Int)(a6:Int)(a7:ByteArray)(a8:Int)(a9:Int)(aB:OA)(aC:Nat)(h:List Qe)(o0:Bool),rc l0 l1 a2 a3 a4 a5 a6 a7 a8 a9 h=some o0→Q1d Tryz.prog 138 [.pointer (some ⟨aD,0,none⟩),.agg #[.int .u8 a4,.int .u8 a5,.int .i64 a6,.string a7,.int .i64 a8,.int .u8 a9,.slice aB h.length aC]] [.sli 2 Qh z a0 l0,.sli 5 Qi a1 aA l1,.sli 7 Qs aB aC h] [.blk aD [.slice z l0.length a0,.slice a1 l1.length aA,.int .i64 a2,.int .i64 a3] 124] (fun v Φr Hr=>v=.bool o0∧Φr=[.sli 2 Qh z a0 l0,.sli 5 Qi a1 aA l1]∧Hr=[.blk aD [.slice z l0.length a0,.slice a1 l1.length aA,.int .i64 a2,.int .i64 a3] 124]))(aD:Nat)(z:OA)(a0:Nat)(l0:List Qg)(a1:OA)(aA:Nat)(l1:List Qj)(a2:Int)(a3:Int)(a4:Int)(a5:Int)(a6:Int)(a7:ByteArray)(a8:Int)(a9:Int)(aB:OA)(aC:Nat)(h:List Qe)(o0:Bool)(hm:Q4x N rc l0 l1 a2 a3 a4 a5 a6 a7 a8 a9 h=some o0):Q1d Tryz.prog 138 [.pointer (some ⟨aD,0,none⟩),.agg #[.int .u8 a4,.int .u8 a5,.int .i64 a6,.string a7,.int .i64 a8,.int .u8 a9,.slice aB h.length aC]] [.sli 2 Qh z a0 l0,.sli 5 Qi a1 aA l1,.sli 7 Qs aB aC h] [.blk aD [.slice z l0.length a0,.slice a1 l1.length aA,.int .i64 a2,.int .i64 a3] 124] (fun v Φr Hr=>v=.bool o0∧Φr=[.sli 2 Qh z a0 l0,.sli 5 Qi a1 aA l1]∧Hr=[.blk aD [.slice z l0.length a0,.slice a1 l1.length aA,.int .i64 a2,.int .i64 a3] 124]):=by
 unfold Q4x at hm
 refine QI Tryz.func138 Z Tryz.ntmps138 Z (S:=[_,_]) Z (fun C=>(Q5 (Q1 (wB Z (fun g3=>(wP Z (Q4 (Q3 (Q2 [3,0] (S':=[_,_]) Z (Q5 (Q5 (Q1 (wF Z tF_65_0 (wD 0 0 Z tS_61 tA_61 Z (Q4 ?_)))))))))))))))
 refine Q3 (Q2 [7,3,0] (S':=V3 ..) Z (Qx (Q5 (Q1 (wP Z (wP Z (Q4 (Q3 (Q2 [8,7,3,0] (S':=V4 ..) Z ?_)))))))))
 refine Qm Z (fun b1=>?_) (fun b1=>?_)
 replace hm:=Qw hm b1
 refine Q2 [3] (S':=[_]) Z (Q5 (Q1 (QM 0 0 Z Z Z Zq Z Z Z (cs:=V7 ..) Z Q52 Q6E Z Z ?_)))
 obtain ⟨bC,b3,hm⟩:=Q7 hm
 refine wC [] [0,1] Z fn_136 Z (Q55 N a4 a5 a6 a7 a8 a9 aB aC h true false false _ b3) (asK [2] Z) Z (H':=[_,_]) Z ?_
 rintro _ _ _ ⟨rfl,rfl,rfl⟩
 refine wP Z ?_
 refine Qr (d:=12) (S':=V3 ..) Z Z (fun aQ=>?_) (fun aQ=>?_)
 replace hm:=Qw hm aQ
 refine wF Z Q92 (QM 0 1 Z Z Z Zq Z Z Z (cs:=V3 ..) Z QB Q1b Z Z ?_)
 obtain ⟨bD,b4,hm⟩:=Q7 hm
 refine wC [] [0,1] Z fn_64 Z (Q56 N a5 a6 a7 _ b4) (asK [] Z) Z (H':=[_,_]) Z ?_
 rintro _ _ _ ⟨rfl,rfl,rfl⟩
 refine wP Z (wP Z (Q4 (Q3 (Q2 [4] (S':=[_]) Z (Qk (Qa (Q8 ?_)))))))
 have hE:=(Zi hm).symm
 replace hE:=hE.symm
 subst hE
 refine Qq (Hr:=[_]) [1] Tryz.results138 (Qb Z) ⟨Z,Z,Z⟩ (asK [0,1] Z) Z Z (.inl Z)
 replace hm:=Qv hm aQ
 refine wO Z (wO Z (wO Z (wP Z (wP Z (Q4 (Q3 (Q2 [4] (S':=[_]) Z (Qk (Qa (Q8 ?_))))))))))
 have hE:=(Zi hm).symm
 replace hE:=hE.symm
 subst hE
 refine Qq (Hr:=[_]) [1] Tryz.results138 (Qb Z) ⟨Z,Z,Z⟩ (asK [0,1] Z) Z Z (.inl Z)
 replace hm:=Qv hm b1
 refine Q2 [7,3,0] (S':=V3 ..) Z (Q5 (Q1 (wP Z (wP Z (Q4 (Q3 (Q2 [17,7,3,0] (S':=V4 ..) Z ?_)))))))
 refine Qm Z (fun aR=>?_) (fun aR=>?_)
 replace hm:=Qw hm aR
 refine Q2 [3,0] (S':=[_,_]) Z (Q5 ?_)
 obtain ⟨bE,aS,hm⟩:=Q7 hm
 rcases Q14 hm with ⟨aH,hm⟩ | ⟨aH,hm⟩
 rcases Q14 hm with ⟨aT,hm⟩ | ⟨aT,hm⟩
 refine QR [0,2,3,4,5,6,7,8,9,10,11,12,13,14,15] Z Z (fun hok=>(Ql hok 0 0 0 Z Z Z Zq Z Z Z Z (cs:=V7 ..) Z Q52 Q6E Z Z (xS hok 1 Z (wC [] [0,1] Z fn_136 Z (Q55 N a4 a5 a6 a7 a8 a9 aB aC h false true false _ aS) (asK [2] Z) Z (H':=[_,_]) Z ?_))))
 rintro _ _ _ ⟨rfl,rfl,rfl⟩
 refine Q4 (Q12 [0,1,2] [] Z Z (xP hok 2 Z (Q17 (d:=21) (v':=.bool true) (S':=V4 ..) Z Z (QJ aH) (Q9 hok 3 Z Z Z Zq Z Z Z Q5t (Ql hok 4 0 4 Z Z Z Zq Z Z Z Z (cs:=[_]) Z QZ Q15 Z Z (xP hok 5 Z (xP hok 6 Z (xP hok 7 Z (Q17 (d:=26) (v':=.bool true) (S':=V9 ..) Z Z (QJ aT) (Q9 hok 8 Z Z Z Zq Z Z Z Q5t (Ql hok 9 0 4 Z Z Z Zq Z Z Z Z (cs:=[_]) Z QZ Q15 Z Z (xP hok 10 Z (xP hok 11 Z ?_)))))))))))))
 refine Q9 hok 12 Z Z Z Zq Z Z Z Q5F (Ql hok 13 1 2 Z Z Z Zq Z Z Z Z (cs:=[_]) Z QZ Q15 Z Z (xP hok 14 Z (xP hok 15 Z (xS hok 16 Z (wP Z (Q4 (Q12 [0,1,2] [] Z Z (QO hok Z (Q3 (Q2 [4] (S':=[_]) Z (Qk (Qa (Q8 ?_)))))))))))))
 have hE:=(Zi hm).symm
 replace hE:=hE.symm
 subst hE
 refine Qq (Hr:=[_]) [1] Tryz.results138 (Qb Z) ⟨Z,Z,Z⟩ (asK [0,1] Z) Z Z (.inl Z)
 refine QR [0,2,3,4,5,6,7,8,9,10,11,12,13,14,15] Z Z (fun hok=>(Ql hok 0 0 0 Z Z Z Zq Z Z Z Z (cs:=V7 ..) Z Q52 Q6E Z Z (xS hok 1 Z (wC [] [0,1] Z fn_136 Z (Q55 N a4 a5 a6 a7 a8 a9 aB aC h false true false _ aS) (asK [2] Z) Z (H':=[_,_]) Z ?_))))
 rintro _ _ _ ⟨rfl,rfl,rfl⟩
 refine Q4 (Q12 [0,1,2] [] Z Z (xP hok 2 Z (Q17 (d:=21) (v':=.bool true) (S':=V4 ..) Z Z (QJ aH) (Q9 hok 3 Z Z Z Zq Z Z Z Q5t (Ql hok 4 0 4 Z Z Z Zq Z Z Z Z (cs:=[_]) Z QZ Q15 Z Z (xP hok 5 Z (xP hok 6 Z (xP hok 7 Z (Q17 (d:=26) (v':=.bool false) (S':=V9 ..) Z Z (QJ aT) (xO hok 8 Z (xO hok 9 Z (xO hok 10 Z (xO hok 11 Z ?_)))))))))))))
 refine xO hok 12 Z (xO hok 13 Z (xO hok 14 Z (xP hok 15 Z (xS hok 16 Z (wP Z (Q4 (Q12 [0,1,2] [] Z Z (QO hok Z (Q3 (Q2 [4] (S':=[_]) Z (Qk (Qa (Q8 ?_)))))))))))))
 have hE:=(Zi hm).symm
 replace hE:=hE.symm
 subst hE
 refine Qq (Hr:=[_]) [1] Tryz.results138 (Qb Z) ⟨Z,Z,Z⟩ (asK [0,1] Z) Z Z (.inl Z)
 refine QR [0,2,3,4,5,6,7,8,9,10,11,12,13,14,15] Z Z (fun hok=>(Ql hok 0 0 0 Z Z Z Zq Z Z Z Z (cs:=V7 ..) Z Q52 Q6E Z Z (xS hok 1 Z (wC [] [0,1] Z fn_136 Z (Q55 N a4 a5 a6 a7 a8 a9 aB aC h false true false _ aS) (asK [2] Z) Z (H':=[_,_]) Z ?_))))
 rintro _ _ _ ⟨rfl,rfl,rfl⟩
 refine Q4 (Q12 [0,1,2] [] Z Z (xP hok 2 Z (Q17 (d:=21) (v':=.bool false) (S':=V4 ..) Z Z (QJ aH) (xO hok 3 Z (xO hok 4 Z (xO hok 5 Z (xP hok 6 Z (xP hok 7 Z (xO hok 8 Z (xO hok 9 Z (xO hok 10 Z (xO hok 11 Z (xO hok 12 Z ?_)))))))))))))
 refine xO hok 13 Z (xO hok 14 Z (xP hok 15 Z (xS hok 16 Z (wP Z (Q4 (Q12 [0,1,2] [] Z Z (QO hok Z (Q3 (Q2 [4] (S':=[_]) Z (Qk (Qa (Q8 ?_))))))))))))
 have hE:=(Zi hm).symm
 replace hE:=hE.symm
 subst hE
 refine Qq (Hr:=[_]) [1] Tryz.results138 (Qb Z) ⟨Z,Z,Z⟩ (asK [0,1] Z) Z Z (.inl Z)
 replace hm:=Qv hm aR
 refine Q2 [7,3,0] (S':=V3 ..) Z (Q5 (Q1 (wP Z (wP Z (Q4 (Q3 (Q2 [35,3,0] (S':=V3 ..) Z ?_)))))))
 refine Qm Z (fun aU=>?_) (fun aU=>?_)
 replace hm:=Qw hm aU
 refine Q2 [3,0] (S':=[_,_]) Z (Q5 (Q1 (wP Z (Q4 (Q3 (Q5 ?_))))))
 obtain ⟨b5,hm,hLj_1⟩:=Q7 hm
 unfold Q5c at hm
 refine QF (σ:=Nat) (fun s=>b5=s) (fun s=>[(3,.pointer (some ⟨g3,0,none⟩)),(0,.pointer (some ⟨aD,0,none⟩)),(5,.int .i64 ((s:Nat):Int))]) (fun s=>[.sli 7 Qs aB aC h,.sli 2 Qh z a0 l0,.sli 5 Qi a1 aA l1]) (fun s=>[.blk g3 [.int .u8 a4,.int .u8 a5,.int .i64 a6,.string a7,.int .i64 a8,.int .u8 a9,.slice aB h.length aC] 65,.blk aD [.slice z l0.length a0,.slice a1 l1.length aA,.int .i64 a2,.int .i64 a3] 124]) ?_ ?_
 refine Q5 ?_
 obtain ⟨b6,hm,hLj_2⟩:=Q7 hm
 refine QF (σ:=Bool) (fun y=>b6=y) (fun y=>[(3,.pointer (some ⟨g3,0,none⟩)),(0,.pointer (some ⟨aD,0,none⟩)),(5,.int .i64 2),(44,.bool y)]) (fun y=>[.sli 7 Qs aB aC h,.sli 2 Qh z a0 l0,.sli 5 Qi a1 aA l1]) (fun y=>[.blk g3 [.int .u8 a4,.int .u8 a5,.int .i64 a6,.string a7,.int .i64 a8,.int .u8 a9,.slice aB h.length aC] 65,.blk aD [.slice z l0.length a0,.slice a1 l1.length aA,.int .i64 a2,.int .i64 a3] 124]) ?_ ?_
 refine Q1 (wF Z Q5g (wD 0 5 Z Q7R Q7P Z (wP Z (wP Z ?_))))
 refine Qr (d:=40) (S':=V6 ..) Z Z (fun aV=>?_) (fun aV=>?_)
 replace hm:=Qw hm aV
 refine wO Z (wO Z (wO Z (wP Z (Q4 ?_))))
 have hE:=(Zi hm).symm
 refine Qd true hE [3,0,5,44] Z (asK [2,0,1] Z) Z
 replace hm:=Qv hm aV
 refine wF Z Q5g (wD 0 5 Z Q7R Q7P Z (wP Z (wP Z (Q4 ?_))))
 have hE:=(Zi hm).symm
 refine Qd (a9==11) hE [3,0,5,44] Z (asK [2,0,1] Z) Z
 rintro y hE
 try dsimp only
 have hm:=hLj_2
 try rw [hE] at hm
 refine Qm Z (fun aW=>?_) (fun aW=>?_)
 replace hm:=Qw hm aW
 refine Q2 [3,0] (S':=[_,_]) Z (Q1 (wP Z (Q4 ?_)))
 have hE:=(Zi hm).symm
 refine Qd 1 hE [3,0,5] Z (asK [0,1,2] Z) Z
 replace hm:=Qv hm aW
 refine Q2 [3,0,5] (S':=V3 ..) Z (Qt ?_)
 have hE:=(Zi hm).symm
 refine Qd 2 hE [3,0,5] Z (asK [0,1,2] Z) Z
 rintro s hE
 try dsimp only
 have hm:=hLj_1
 try rw [hE] at hm
 refine Q5 ?_
 obtain ⟨b7,hm,hLj_3⟩:=Q7 hm
 unfold Q6d at hm
 refine QF (σ:=Bool) (fun aE=>b7=aE) (fun aE=>[(4,.bool aE)]) (fun aE=>[.sli 2 Qh z a0 l0,.sli 5 Qi a1 aA l1]) (fun aE=>[.blk aD [.slice z l0.length a0,.slice a1 l1.length aA,.int .i64 a2,.int .i64 a3] 124]) ?_ ?_
 refine Q1 (QM 0 0 Z Z Z Zq Z Z Z (cs:=V7 ..) Z Q52 Q6E Z Z ?_)
 obtain ⟨bF,b8,hm⟩:=Q7 hm
 refine wC [] [0,1] Z fn_136 Z (Q55 N a4 a5 a6 a7 a8 a9 aB aC h false false true _ b8) (asK [0] Z) Z (H':=[_,_]) Z ?_
 rintro _ _ _ ⟨rfl,rfl,rfl⟩
 refine wP Z ?_
 refine Qr (d:=47) (S':=V5 ..) Z Z (fun aX=>?_) (fun aX=>?_)
 replace hm:=Qw hm aX
 refine wF Z Q5g (wD 0 5 Z Q7R Q7P Z (wP Z (wP Z (wP Z ?_))))
 refine Qr (d:=52) (S':=V10 ..) Z Z (fun aY=>?_) (fun aY=>?_)
 replace hm:=Qw hm aY
 refine wF Z Q5g (wD 0 5 Z Q7R Q7P Z (wP Z (wP Z (wP Z ?_))))
 refine Qr (d:=57) (S':=V15 ..) Z Z (fun aZ=>?_) (fun aZ=>?_)
 replace hm:=Qw hm aZ
 refine wF Z Q5S (wD 0 6 Z Q51 Q50 Z (wN Z Q4r (wP Z (wP Z (QD (d:=62) (v':=.bool (h.length==s)) (S':=V20 ..) Z Z (Q6W (a:=h.length) (b:=s)) (wP Z (wP Z ?_)))))))
 refine Qr (d:=64) (S':=V22 ..) Z Z (fun b0=>?_) (fun b0=>?_)
 replace hm:=Qw hm b0
 refine wP Z (wF Z Q5S (wD 0 6 Z Q51 Q50 Z ?_))
 obtain ⟨bB,b9,hm⟩:=Q7 hm
 refine wC [1] [0] Z fn_140 Z (Q9u N rc ih aD z a0 l0 a1 aA l1 a2 a3 aB aC h _ b9) (asK [1,2,0] Z) Z (H':=[_]) Z ?_
 rintro _ _ _ ⟨rfl,rfl,rfl⟩
 refine wP Z (wP Z (Q4 ?_))
 have hE:=(Zi hm).symm
 refine Qu [0] Z (H':=[_]) Z ?_
 refine Qd bB hE [4] Z (asK [0,1] Z) Z
 replace hm:=Qv hm b0
 refine wO Z (wO Z (wO Z (wO Z (wP Z (wP Z (Q4 ?_))))))
 have hE:=(Zi hm).symm
 refine Qu [1] Z (H':=[_]) Z ?_
 refine Qd false hE [4] Z (asK [1,2] Z) Z
 replace hm:=Qv hm aZ
 refine wO Z (wO Z (wO Z (wO Z (wO Z (wP Z (wP Z (wO Z (wO Z (wO Z (wO Z (wP Z (wP Z (Q4 ?_)))))))))))))
 have hE:=(Zi hm).symm
 refine Qu [1] Z (H':=[_]) Z ?_
 refine Qd false hE [4] Z (asK [1,2] Z) Z
 replace hm:=Qv hm aY
 refine wO Z (wO Z (wO Z (wP Z (wP Z (wO Z (wO Z (wO Z (wO Z (wO Z (wP Z (wP Z (wO Z (wO Z ?_)))))))))))))
 refine wO Z (wO Z (wP Z (wP Z (Q4 ?_))))
 have hE:=(Zi hm).symm
 refine Qu [1] Z (H':=[_]) Z ?_
 refine Qd false hE [4] Z (asK [1,2] Z) Z
 replace hm:=Qv hm aX
 refine wO Z (wO Z (wO Z (wP Z (wP Z (wO Z (wO Z (wO Z (wP Z (wP Z (wO Z (wO Z (wO Z (wO Z ?_)))))))))))))
 refine wO Z (wP Z (wP Z (wO Z (wO Z (wO Z (wO Z (wP Z (wP Z (Q4 ?_)))))))))
 have hE:=(Zi hm).symm
 refine Qu [1] Z (H':=[_]) Z ?_
 refine Qd false hE [4] Z (asK [1,2] Z) Z
 rintro aE hE
 try dsimp only
 have hm:=hLj_3
 try rw [hE] at hm
 refine Qk (Qa (Q8 ?_))
 have hE:=(Zi hm).symm
 replace hE:=hE.symm
 subst hE
 refine Qq (Hr:=[_]) [0] Tryz.results138 (Qb Z) ⟨Z,Z,Z⟩ (asK [0,1] Z) Z Z (.inl Z)
 replace hm:=Qv hm aU
 refine Q2 [] (S':=[]) Z (Qt (Qf (Q3 (Q5 (Q1 (wP Z (Q4 (Q3 (Qk ?_)))))))))
 have hE:=(Zi hm).symm
 replace hE:=hE.symm
 subst hE
 refine Qq (Hr:=[_]) [1] Tryz.results138 (Qb Z) ⟨Z,Z,Z⟩ (asK [0,1] Z) Z Z (.inl Z)
theorem Q87 : ∀ (N:Nat),∀ (qg0:Nat)(qp1:OA)(qc2:Nat)(l0:List Qg)(qp3:OA)(qc4:Nat)(l1:List Qj)(a2:Int)(a3:Int)(a4:Int)(a5:Int)(a6:Int)(a7:ByteArray)(a8:Int)(a9:Int)(qp5:OA)(qc6:Nat)(l10:List Qe)(o0:Bool),Q31 N l0 l1 a2 a3 a4 a5 a6 a7 a8 a9 l10=some o0→Q1d Tryz.prog 138 [.pointer (some ⟨qg0,0,none⟩),.agg #[.int .u8 a4,.int .u8 a5,.int .i64 a6,.string a7,.int .i64 a8,.int .u8 a9,.slice qp5 l10.length qc6]] [.sli 2 Qh qp1 qc2 l0,.sli 5 Qi qp3 qc4 l1,.sli 7 Qs qp5 qc6 l10] [.blk qg0 [.slice qp1 l0.length qc2,.slice qp3 l1.length qc4,.int .i64 a2,.int .i64 a3] 124] (fun v Φr Hr=>v=.bool o0∧Φr=[.sli 2 Qh qp1 qc2 l0,.sli 5 Qi qp3 qc4 l1]∧Hr=[.blk qg0 [.slice qp1 l0.length qc2,.slice qp3 l1.length qc4,.int .i64 a2,.int .i64 a3] 124]):=by
 intro N
 induction N with
 | zero=>intro qg0 qp1 qc2 l0 qp3 qc4 l1 a2 a3 a4 a5 a6 a7 a8 a9 qp5 qc6 l10 o0 hm;cases hm
 | succ N ih=>intro qg0 qp1 qc2 l0 qp3 qc4 l1 a2 a3 a4 a5 a6 a7 a8 a9 qp5 qc6 l10 o0 hm;exact Qaa N (Q31 N) ih qg0 qp1 qc2 l0 qp3 qc4 l1 a2 a3 a4 a5 a6 a7 a8 a9 qp5 qc6 l10 o0 hm
end Go.Proofs.YtbgodclhmgmcgaaGreatDoor
