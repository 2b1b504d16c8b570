import Derived.Test.YtbgodclhmgmcgaaGreatDoorXW4
namespace Go.Proofs.YtbgodclhmgmcgaaGreatDoor
open Go.RowKit
set_option maxRecDepth 100000
set_option maxHeartbeats 4000000
theorem Q8Q (N:Nat) (b5:Nat) (b0:OA) (b1:Nat) (b2:Nat) (l0:List Qn) (bA:OA) (b6:Nat) (b7:Nat) (l1:List Qp) (bE:OA) (bF:Nat) (bG:Nat) (l2:List ByteArray) (a3:Int) (a4:Int) (a5:Int) (a6:Int) (a7:ByteArray) (a8:Int) (a9:Int) (aP:OA) (aQ:Nat) (aR:List Qa) (o2:List Qp) (o6:List ByteArray) (o8:Int) (o9:Int) (dH:Int) (hm:Q4g N l0 l1 l2 a3 a4 a5 a6 a7 a8 a9 aR = some (o2,o6,o8,o9,dH)):Q1o Tryz.prog 130 [.pointer (some ⟨b5,0,none⟩),.agg #[.int .u8 a6,.string a7,.int .i64 a8,.int .i64 a9,.slice aP aR.length aQ]] [.sli 5 Qi aP aQ aR] [.blk b5 [.slice b0 b1 b2,.slice bA b6 b7,.slice bE bF bG,.int .i64 a3,.int .i64 a4,.int .i64 a5] 206,.own 69 2 Qf (.slice b0 b1 b2) l0,.own 52 5 Qe (.slice bA b6 b7) l1,.own 9 1 Q1y (.slice bE bF bG) l2] (fun v Φr Hr=>∃ (o0:OA) (o1:Nat) (o3:Nat) (o4:OA) (o5:Nat) (o7:Nat),v = .tuple #[] ∧ Φr = [] ∧ Hr = [.blk b5 [.slice b0 b1 b2,.slice o0 o3 o1,.slice o4 o7 o5,.int .i64 o8,.int .i64 o9,.int .i64 dH] 206,.own 69 2 Qf (.slice b0 b1 b2) l0,.own 52 5 Qe (.slice o0 o3 o1) o2,.own 9 1 Q1y (.slice o4 o7 o5) o6,.own 9 1 Q1y (.slice bE bF bG) l2]):=by
 unfold Q4g at hm
 refine QD Tryz.func130 Z Tryz.ntmps130 Z (S:=[_,_]) Z (fun C=>(Q5 (Q1 (wB Z (fun g3=>(Q3 (Q4 (Q2 [3,0] (S':=[_,_]) Z (Q5 ?_)))))))))
 obtain ⟨d4,hm,hLj_1⟩:=Q6 hm
 refine QI (σ:=Int × Int) (fun (aN,aO)=>d4 = (aN,aO)) (fun (aN,aO)=>[(3,.pointer (some ⟨g3,0,none⟩)),(0,.pointer (some ⟨b5,0,none⟩))]) (fun (aN,aO)=>[.sli 5 Qi aP aQ aR]) (fun (aN,aO)=>[.blk g3 [.int .u8 a6,.string a7,.int .i64 a8,.int .i64 a9,.slice aP aR.length aQ] 159,.blk b5 [.slice b0 b1 b2,.slice bA b6 b7,.slice bE bF bG,.int .i64 a3,.int .i64 aN,.int .i64 aO] 206,.own 69 2 Qf (.slice b0 b1 b2) l0,.own 52 5 Qe (.slice bA b6 b7) l1,.own 9 1 Q1y (.slice bE bF bG) l2]) ?_ ?_
 refine Q5 (Q1 (wP Z (Q3 (Q4 (Qw (Q1E (σ:=Nat × Nat × Int × Int) (fun (c7,bK,b8,b9)=>Q1M (Q3J N l1 l0 l2 a3 a7 a6 a8 a9 aR) c7 (bK,b8,b9) = some d4) (fun (c7,bK,b8,b9)=>c7) (fun (c7,bK,b8,b9)=>[(4,.int .i64 ((bK:Nat):Int)),(3,.pointer (some ⟨g3,0,none⟩)),(0,.pointer (some ⟨b5,0,none⟩))]) (fun (c7,bK,b8,b9)=>[.sli 5 Qi aP aQ aR]) (fun (c7,bK,b8,b9)=>[.blk g3 [.int .u8 a6,.string a7,.int .i64 a8,.int .i64 a9,.slice aP aR.length aQ] 159,.blk b5 [.slice b0 b1 b2,.slice bA b6 b7,.slice bE bF bG,.int .i64 a3,.int .i64 b8,.int .i64 b9] 206,.own 69 2 Qf (.slice b0 b1 b2) l0,.own 52 5 Qe (.slice bA b6 b7) l1,.own 9 1 Q1y (.slice bE bF bG) l2]) (N,0,a4,a5) hm [4,3,0] Z (asK [0] Z) Z (fun s_ hm=>?_)))))))
 obtain ⟨c7,bK,b8,b9⟩:=s_
 try dsimp only at hm ⊢
 obtain ⟨eL,eM,dI,hq,hLu1⟩:=Q1e hm
 clear hm
 subst dI
 replace hm:=hq
 clear hq
 unfold Q3J at hm
 try dsimp only at hm
 refine Q5 (Q5 (Q1 (wP Z (wP Z (wP Z (wF Z Q4r (wF Z Q6w (wD 1 1 Z Q9T tA_23 Z (Q15 3 Z (fun dJ _=>(wN Z Q7K (QH (d:=15) (v':=.int .i64 ((l1.length:Nat):Int)) (S':=V9 ..) Z Z (Q4Y dJ) (wP Z (QH (d:=16) (v':=.bool (decide (bK < l1.length))) (S':=V10 ..) Z Z (Q2z (a:=bK) (b:=l1.length)) ?_))))))))))))))
 refine Q3 (Q4 (Q2 [16,4,3,0] (S':=V4 ..) Z ?_))
 refine Qj Z (fun cE=>?_) (fun cE=>?_)
 replace hm:=QA hm cE
 refine Q2 [4,3,0] (S':=V3 ..) Z (Qq (Q4 (Q5 (Qw ?_))))
 obtain ⟨dK,d5,hm⟩:=Q6 hm
 obtain ⟨⟨d9,dA⟩,dL,hm⟩:=Q6 hm
 try dsimp only at hm
 refine Q18 [0,1,2,3,4,6,7,8,10,11,12,13] Z Z (fun hok=>(xP hok 0 Z (xP hok 1 Z (xP hok 2 Z (Q8 hok 3 Z Z Z Zq Z Z Z Q4r (Q8 hok 4 Z Z Z Zq Z Z Z Q6w (xP hok 6 Z (Q8 hok 10 Z Z Z Zq Z Z Z Q1V (Qm hok 11 0 1 Z Z Z Zq Z Z Z Z (cs:=[_]) Z Q27 Q2E Z Z (Qm hok 13 0 0 Z Z Z Zq Z Z Z Z (cs:=V5 ..) Z QQ Q1z Z Z (xS hok 5 Z (wD 1 1 Z Q9T tA_23 Z (Q3 (QV [0] [0,0] Z Z ?_))))))))))))))
 refine Q4M hok 7 3 bK Z Z Z Zq Z Z Z Z Z Z (Q2t d5) Q7K Q4W (fun e3 dM=>?_)
 subst dM
 refine Q8 hok 8 Z Z Z Zq Z Z Z tF_52_0 (xS hok 9 Z (Q1T Q3T 3 bK 0 Z Z Z Zq Z Z Z d5 Q27 Q2E (v:=fun e4=>.string dK.name) (fun _=>Z) (fun _=>Z) (fun e4 _=>(Q3 (QV [2] [0,0] Z Z (xP hok 12 Z (xS hok 14 Z (wC [1,2,3,4] [0] Z Q6y Z (Q19 N b5 b0 b1 b2 l0 (some ⟨e3,0,none⟩) b6 b7 l1 bE bF bG l2 a3 b8 b9 (dK.name.toList == a7.toList) 210 a6 a7 a8 a9 aP aQ aR _ _ dL) (asK [2] Z) Z (H':=[_]) Z ?_))))))))
 rintro _ _ _ ⟨rfl,rfl,rfl⟩
 refine Q3 (QV [0,1,2] [4] Z Z (Q11 hok Z (Qh (Q4 (Q2 [4,3,0] (S':=V3 ..) Z (Q1 (wP Z (wP Z ?_))))))))
 obtain ⟨dN,hm⟩:=Qu hm
 refine QH (d:=18) (v':=.int .i64 ((bK + 1:Nat):Int)) (S':=V4 ..) Z Z (Q1J (a:=bK) (b:=1) dN) (Q1b (S':=V4 ..) Z Z Z Z Z (Q3 ?_))
 have hE:=(Zi hm).symm
 replace hE:=QO hLu1 hE
 refine Qs [4,0,1,2,3] Z (H':=V5 ..) Z ?_
 refine Q1a (_,bK + 1,d9,dA) (Nat.lt_succ_self _) hE [4,3,0] Z (asK [2] Z) Z
 replace hm:=Qz hm cE
 refine Q2 [3,0] (S':=[_,_]) Z (Q1x (Qk (Qk (QJ ?_))))
 have hE:=(Zi hm).symm
 replace hE:=Qv hLu1 hE
 refine Q9 (b8,b9) hE [3,0] Z (asK [0] Z) Z
 rintro ⟨aN,aO⟩ hE
 try dsimp only
 have hm:=hLj_1
 rw [hE] at hm
 try dsimp only at hm
 refine Q5 (Q1 (wP Z (Q3 (Q4 (Q5 ?_)))))
 obtain ⟨d6,hm,hLj_2⟩:=Q6 hm
 refine QI (σ:=Nat) (fun bB=>d6 = bB) (fun bB=>[(3,.pointer (some ⟨g3,0,none⟩)),(0,.pointer (some ⟨b5,0,none⟩)),(5,.int .i64 ((bB:Nat):Int))]) (fun bB=>[.sli 5 Qi aP aQ aR]) (fun bB=>[.blk g3 [.int .u8 a6,.string a7,.int .i64 a8,.int .i64 a9,.slice aP aR.length aQ] 159,.blk b5 [.slice b0 b1 b2,.slice bA b6 b7,.slice bE bF bG,.int .i64 a3,.int .i64 aN,.int .i64 aO] 206,.own 69 2 Qf (.slice b0 b1 b2) l0,.own 52 5 Qe (.slice bA b6 b7) l1,.own 9 1 Q1y (.slice bE bF bG) l2]) ?_ ?_
 refine Q5 (Q1 (wP Z (Q3 (Q4 (Qw (Q1E (σ:=Nat × Nat × Nat) (fun (c8,bL,bO)=>Q1M (Q3K N aR) c8 (bL,bO) = some d6) (fun (c8,bL,bO)=>c8) (fun (c8,bL,bO)=>[(6,.int .i64 ((bL:Nat):Int)),(5,.int .i64 ((bO:Nat):Int)),(3,.pointer (some ⟨g3,0,none⟩)),(0,.pointer (some ⟨b5,0,none⟩))]) (fun (c8,bL,bO)=>[.sli 5 Qi aP aQ aR]) (fun (c8,bL,bO)=>[.blk g3 [.int .u8 a6,.string a7,.int .i64 a8,.int .i64 a9,.slice aP aR.length aQ] 159,.blk b5 [.slice b0 b1 b2,.slice bA b6 b7,.slice bE bF bG,.int .i64 a3,.int .i64 aN,.int .i64 aO] 206,.own 69 2 Qf (.slice b0 b1 b2) l0,.own 52 5 Qe (.slice bA b6 b7) l1,.own 9 1 Q1y (.slice bE bF bG) l2]) (N,0,0) hm [6,5,3,0] Z (asK [0] Z) Z (fun s_ hm=>?_)))))))
 obtain ⟨c8,bL,bO⟩:=s_
 try dsimp only at hm ⊢
 obtain ⟨eN,eO,dO,hq,hLu2⟩:=Q1e hm
 clear hm
 subst dO
 replace hm:=hq
 clear hq
 unfold Q3K at hm
 try dsimp only at hm
 refine Q5 (Q5 (Q1 (wP Z (wF Z Q1s (wD 0 4 Z Q1U Q2b Z (wN Z Q1Q (wP Z (QH (d:=38) (v':=.bool (decide (bL < aR.length))) (S':=V8 ..) Z Z (Q2z (a:=bL) (b:=aR.length)) (Q3 (Q4 (Q2 [38,6,5,3,0] (S':=V5 ..) Z ?_)))))))))))
 refine Qj Z (fun cF=>?_) (fun cF=>?_)
 replace hm:=QA hm cF
 refine Q2 [6,5,3,0] (S':=V4 ..) Z (Qq (Q4 (Q5 ?_)))
 obtain ⟨dP,hm,hLj_3⟩:=Q6 hm
 refine QI (σ:=Nat) (fun bQ=>dP = bQ) (fun bQ=>[(6,.int .i64 ((bL:Nat):Int)),(5,.int .i64 ((bQ:Nat):Int)),(3,.pointer (some ⟨g3,0,none⟩)),(0,.pointer (some ⟨b5,0,none⟩))]) (fun bQ=>[.sli 5 Qi aP aQ aR]) (fun bQ=>[.blk g3 [.int .u8 a6,.string a7,.int .i64 a8,.int .i64 a9,.slice aP aR.length aQ] 159,.blk b5 [.slice b0 b1 b2,.slice bA b6 b7,.slice bE bF bG,.int .i64 a3,.int .i64 aN,.int .i64 aO] 206,.own 69 2 Qf (.slice b0 b1 b2) l0,.own 52 5 Qe (.slice bA b6 b7) l1,.own 9 1 Q1y (.slice bE bF bG) l2]) ?_ ?_
 refine Qw (Q5 (Q1 (wF Z Q1s (wD 0 4 Z Q1U Q2b Z (wP Z ?_)))))
 obtain ⟨cG,dQ,hm⟩:=Q6 hm
 refine Q1F 0 bL Z Z Z Zq Z Z Z Z Z dQ Q1Q QQ (fun eP eQ eH e5=>(Q22 Q1t 1 Z (fun dR dS _=>?_)))
 subst dS
 refine Q21 1 0 Z Z Z Zq Z Z Z (cs:=V5 ..) Z QQ Q1z Z Z ?_
 obtain ⟨eR,dT,hm⟩:=Q6 hm
 refine wC [] [0,1,2,3,4] Z fn_174 Z (Qb2 N cG.kind cG.text cG.num cG.at_ dR.1 dR.2 cG.kids _ dT) (asK [0] Z) Z (H':=V5 ..) Z ?_
 rintro _ _ _ ⟨rfl,rfl,rfl⟩
 refine Q3 (Q4 (Q2 [46,6,5,3,0] (S':=V5 ..) Z ?_))
 refine Qj Z (fun cH=>?_) (fun cH=>?_)
 replace hm:=QA hm cH
 refine Q2 [6,5,3,0] (S':=V4 ..) Z (Q1 (wP Z (wP Z ?_)))
 obtain ⟨dU,hm⟩:=Qu hm
 refine QH (d:=48) (v':=.int .i64 ((bO + 1:Nat):Int)) (S':=V5 ..) Z Z (Q1J (a:=bO) (b:=1) dU) (Q1b (S':=V5 ..) Z Z Z Z Z (Q3 (Qh ?_)))
 have hE:=(Zi hm).symm
 refine Q9 (bO + 1) hE [6,5,3,0] Z (asK [3] Z) Z
 replace hm:=Qz hm cH
 refine Q2 [6,5,3,0] (S':=V4 ..) Z (Qq (Qh ?_))
 have hE:=(Zi hm).symm
 refine Q9 bO hE [6,5,3,0] Z (asK [3] Z) Z
 rintro bQ hE
 try dsimp only
 have hm:=hLj_3
 rw [hE] at hm
 refine Q1 (wP Z (wP Z ?_))
 obtain ⟨dV,hm⟩:=Qu hm
 refine QH (d:=40) (v':=.int .i64 ((bL + 1:Nat):Int)) (S':=V5 ..) Z Z (Q1J (a:=bL) (b:=1) dV) (Q1b (S':=V5 ..) Z Z Z Z Z (Q3 ?_))
 have hE:=(Zi hm).symm
 replace hE:=QO hLu2 hE
 refine Q1a (_,bL + 1,bQ) (Nat.lt_succ_self _) hE [6,5,3,0] Z (asK [0] Z) Z
 replace hm:=Qz hm cF
 refine Q2 [5,3,0] (S':=V3 ..) Z (Q1x (Qk (Qk (QJ ?_))))
 have hE:=(Zi hm).symm
 replace hE:=Qv hLu2 hE
 refine Q9 bO hE [3,0,5] Z (asK [0] Z) Z
 rintro bB hE
 try dsimp only
 have hm:=hLj_2
 rw [hE] at hm
 refine Q5 ?_
 obtain ⟨dW,hm,hLj_4⟩:=Q6 hm
 refine QI (σ:=Int × Int) (fun (aW,aX)=>dW = (aW,aX)) (fun (aW,aX)=>[(3,.pointer (some ⟨g3,0,none⟩)),(0,.pointer (some ⟨b5,0,none⟩)),(5,.int .i64 ((bB:Nat):Int))]) (fun (aW,aX)=>[.sli 5 Qi aP aQ aR]) (fun (aW,aX)=>[.blk g3 [.int .u8 a6,.string a7,.int .i64 a8,.int .i64 a9,.slice aP aR.length aQ] 159,.blk b5 [.slice b0 b1 b2,.slice bA b6 b7,.slice bE bF bG,.int .i64 a3,.int .i64 aW,.int .i64 aX] 206,.own 69 2 Qf (.slice b0 b1 b2) l0,.own 52 5 Qe (.slice bA b6 b7) l1,.own 9 1 Q1y (.slice bE bF bG) l2]) ?_ ?_
 refine Q1 (wP Z (wF Z Q4q (wD 0 2 Z Q1A Q1N Z (wP Z (wP Z ?_)))))
 refine Qt (d:=53) (S':=V7 ..) Z Z (fun cI=>?_) (fun cI=>?_)
 replace hm:=QA hm cI
 refine wO Z (wO Z (wO Z (wP Z (QR 0 0 Z Z Z Zq Z Z Z (cs:=V5 ..) Z QQ Q1z Z Z ?_))))
 obtain ⟨⟨c9,cA⟩,cJ,hm⟩:=Q6 hm
 try dsimp only at hm
 refine wC [1,2,3,4] [0] Z Q6y Z (Q19 N b5 b0 b1 b2 l0 bA b6 b7 l1 bE bF bG l2 a3 aN aO true 2 a6 a7 a8 a9 aP aQ aR _ _ cJ) (asK [0] Z) Z (H':=[_]) Z ?_
 rintro _ _ _ ⟨rfl,rfl,rfl⟩
 refine Q3 ?_
 have hE:=(Zi hm).symm
 refine Qs [4,0,1,2,3] Z (H':=V5 ..) Z ?_
 refine Q9 (c9,cA) hE [3,0,5] Z (asK [0] Z) Z
 replace hm:=Qz hm cI
 refine wF Z Q4q (wD 0 2 Z Q1A Q1N Z (wP Z (wP Z (QR 0 0 Z Z Z Zq Z Z Z (cs:=V5 ..) Z QQ Q1z Z Z ?_))))
 obtain ⟨⟨c9,cA⟩,cJ,hm⟩:=Q6 hm
 try dsimp only at hm
 refine wC [1,2,3,4] [0] Z Q6y Z (Q19 N b5 b0 b1 b2 l0 bA b6 b7 l1 bE bF bG l2 a3 aN aO (decide (a8 > 1000)) 2 a6 a7 a8 a9 aP aQ aR _ _ cJ) (asK [0] Z) Z (H':=[_]) Z ?_
 rintro _ _ _ ⟨rfl,rfl,rfl⟩
 refine Q3 ?_
 have hE:=(Zi hm).symm
 refine Qs [4,0,1,2,3] Z (H':=V5 ..) Z ?_
 refine Q9 (c9,cA) hE [3,0,5] Z (asK [0] Z) Z
 rintro ⟨aW,aX⟩ hE
 try dsimp only
 have hm:=hLj_4
 rw [hE] at hm
 try dsimp only at hm
 refine Q5 ?_
 obtain ⟨dX,hm,hLj_5⟩:=Q6 hm
 unfold Q5I at hm
 refine QI (σ:=Int × Int) (fun (bC,bD)=>dX = (bC,bD)) (fun (bC,bD)=>[(3,.pointer (some ⟨g3,0,none⟩)),(0,.pointer (some ⟨b5,0,none⟩))]) (fun (bC,bD)=>[.sli 5 Qi aP aQ aR]) (fun (bC,bD)=>[.blk g3 [.int .u8 a6,.string a7,.int .i64 a8,.int .i64 a9,.slice aP aR.length aQ] 159,.blk b5 [.slice b0 b1 b2,.slice bA b6 b7,.slice bE bF bG,.int .i64 a3,.int .i64 bC,.int .i64 bD] 206,.own 69 2 Qf (.slice b0 b1 b2) l0,.own 52 5 Qe (.slice bA b6 b7) l1,.own 9 1 Q1y (.slice bE bF bG) l2]) ?_ ?_
 rcases QG hm with ⟨cD,hm⟩ | ⟨cD,hm⟩
 obtain ⟨⟨bT,bU⟩,c4,hm⟩:=Q6 hm
 try dsimp only at hm
 refine Q18 [0,1,2,3,4,6,7,8,9,10,11,12,13,14,15,16,17,18,19,20] Z Z (fun hok=>(xP hok 0 Z (xP hok 1 Z (xP hok 2 Z (Q8 hok 3 Z Z Z Zq Z Z Z Q4r (Q8 hok 4 Z Z Z Zq Z Z Z Q6w (Qm hok 20 0 0 Z Z Z Zq Z Z Z Z (cs:=V5 ..) Z QQ Q1z Z Z (xS hok 5 Z (wD 1 1 Z Q9T tA_23 Z (Q3 (QV [0] [0] Z Z (Q7D 3 Z (fun c5 _=>(Q4u hok 6 Z Z Z Zq Z Z Z Q7K (Q1D (d:=66) (v':=.int .i64 ((l1.length:Nat):Int)) (S':=V10 ..) Z Z (Q4Y c5) ?_)))))))))))))))
 refine xP hok 7 Z (Q1D (d:=67) (v':=.bool (decide (64 ≤ l1.length))) (S':=V11 ..) Z Z (natge (a:=l1.length) (b:=64)) (xP hok 8 Z (Q1D (d:=68) (v':=.bool true) (S':=V12 ..) Z Z (Q1l cD) (xO hok 9 Z (xO hok 10 Z (xP hok 11 Z (xP hok 12 Z (xO hok 13 Z (xO hok 14 Z (xO hok 15 Z (xO hok 16 Z (xO hok 17 Z (xO hok 18 Z ?_)))))))))))))
 refine xP hok 19 Z (xS hok 21 Z (wC [1,2,3,4] [0] Z Q6y Z (Q19 N b5 b0 b1 b2 l0 bA b6 b7 l1 bE bF bG l2 a3 aW aX true 204 a6 a7 a8 a9 aP aQ aR _ _ c4) (asK [0] Z) Z (H':=[_]) Z ?_))
 rintro _ _ _ ⟨rfl,rfl,rfl⟩
 refine Q3 (QV [0] [] Z Z (Q11 hok Z ?_))
 have hE:=(Zi hm).symm
 refine Qs [4,0,1,2,3] Z (H':=V5 ..) Z ?_
 refine Q9 (bT,bU) hE [3,0] Z (asK [0] Z) Z
 rcases QG hm with ⟨cK,hm⟩ | ⟨cK,hm⟩
 obtain ⟨⟨bT,bU⟩,c4,hm⟩:=Q6 hm
 try dsimp only at hm
 refine Q18 [0,1,2,3,4,6,7,8,9,10,11,12,13,14,15,16,17,18,19,20] Z Z (fun hok=>(xP hok 0 Z (xP hok 1 Z (xP hok 2 Z (Q8 hok 3 Z Z Z Zq Z Z Z Q4r (Q8 hok 4 Z Z Z Zq Z Z Z Q6w (Qm hok 20 0 0 Z Z Z Zq Z Z Z Z (cs:=V5 ..) Z QQ Q1z Z Z (xS hok 5 Z (wD 1 1 Z Q9T tA_23 Z (Q3 (QV [0] [0] Z Z (Q7D 3 Z (fun c5 _=>(Q4u hok 6 Z Z Z Zq Z Z Z Q7K (Q1D (d:=66) (v':=.int .i64 ((l1.length:Nat):Int)) (S':=V10 ..) Z Z (Q4Y c5) ?_)))))))))))))))
 refine xP hok 7 Z (Q1D (d:=67) (v':=.bool (decide (64 ≤ l1.length))) (S':=V11 ..) Z Z (natge (a:=l1.length) (b:=64)) (xP hok 8 Z (Q1D (d:=68) (v':=.bool false) (S':=V12 ..) Z Z (Q1l cD) (xP hok 9 Z (xP hok 10 Z (Q1D (d:=70) (v':=.bool (decide (8 < bB))) (S':=V14 ..) Z Z (natgt (a:=bB) (b:=8)) (xP hok 11 Z (xP hok 12 Z (Q1D (d:=72) (v':=.bool true) (S':=V16 ..) Z Z (Q1l cK) (xO hok 13 Z (xO hok 14 Z (xO hok 15 Z (xO hok 16 Z ?_)))))))))))))
 refine xO hok 17 Z (xO hok 18 Z (xP hok 19 Z (xS hok 21 Z (wC [1,2,3,4] [0] Z Q6y Z (Q19 N b5 b0 b1 b2 l0 bA b6 b7 l1 bE bF bG l2 a3 aW aX true 204 a6 a7 a8 a9 aP aQ aR _ _ c4) (asK [0] Z) Z (H':=[_]) Z ?_))))
 rintro _ _ _ ⟨rfl,rfl,rfl⟩
 refine Q3 (QV [0] [] Z Z (Q11 hok Z ?_))
 have hE:=(Zi hm).symm
 refine Qs [4,0,1,2,3] Z (H':=V5 ..) Z ?_
 refine Q9 (bT,bU) hE [3,0] Z (asK [0] Z) Z
 obtain ⟨dY,hm⟩:=Qu hm
 obtain ⟨⟨bT,bU⟩,c4,hm⟩:=Q6 hm
 try dsimp only at hm
 refine Q18 [0,1,2,3,4,6,7,8,9,10,11,12,13,14,15,16,17,18,19,20] Z Z (fun hok=>(xP hok 0 Z (xP hok 1 Z (xP hok 2 Z (Q8 hok 3 Z Z Z Zq Z Z Z Q4r (Q8 hok 4 Z Z Z Zq Z Z Z Q6w (Qm hok 20 0 0 Z Z Z Zq Z Z Z Z (cs:=V5 ..) Z QQ Q1z Z Z (xS hok 5 Z (wD 1 1 Z Q9T tA_23 Z (Q3 (QV [0] [0] Z Z (Q7D 3 Z (fun c5 _=>(Q4u hok 6 Z Z Z Zq Z Z Z Q7K (Q1D (d:=66) (v':=.int .i64 ((l1.length:Nat):Int)) (S':=V10 ..) Z Z (Q4Y c5) ?_)))))))))))))))
 refine xP hok 7 Z (Q1D (d:=67) (v':=.bool (decide (64 ≤ l1.length))) (S':=V11 ..) Z Z (natge (a:=l1.length) (b:=64)) (xP hok 8 Z (Q1D (d:=68) (v':=.bool false) (S':=V12 ..) Z Z (Q1l cD) (xP hok 9 Z (xP hok 10 Z (Q1D (d:=70) (v':=.bool (decide (8 < bB))) (S':=V14 ..) Z Z (natgt (a:=bB) (b:=8)) (xP hok 11 Z (xP hok 12 Z (Q1D (d:=72) (v':=.bool false) (S':=V16 ..) Z Z (Q1l cK) (Q8 hok 13 Z Z Z Zq Z Z Z Q1s (Qm hok 14 0 4 Z Z Z Zq Z Z Z Z (cs:=[_]) Z Q1U Q2b Z Z (Q4u hok 15 Z Z Z Zq Z Z Z Q1Q (xP hok 16 Z ?_)))))))))))))
 refine xP hok 17 Z (Q1D (d:=77) (v':=.int .i64 (((aR.length:Nat):Int) - ((bB:Nat):Int))) (S':=V21 ..) Z Z (i64_in dY) (xP hok 18 Z (xP hok 19 Z (xS hok 21 Z (wC [1,2,3,4] [0] Z Q6y Z (Q19 N b5 b0 b1 b2 l0 bA b6 b7 l1 bE bF bG l2 a3 aW aX (decide ((((aR.length:Nat):Int) - ((bB:Nat):Int)) > 8)) 204 a6 a7 a8 a9 aP aQ aR _ _ c4) (asK [0] Z) Z (H':=[_]) Z ?_)))))
 rintro _ _ _ ⟨rfl,rfl,rfl⟩
 refine Q3 (QV [0] [4] Z Z (Q11 hok Z ?_))
 have hE:=(Zi hm).symm
 refine Qs [4,0,1,2,3] Z (H':=V5 ..) Z ?_
 refine Q9 (bT,bU) hE [3,0] Z (asK [0] Z) Z
 rintro ⟨bC,bD⟩ hE
 try dsimp only
 have hm:=hLj_5
 rw [hE] at hm
 try dsimp only at hm
 refine Q5 (Q1 (wP Z (wP Z (wF Z Q7h (wS 1 2 Z Q6Q (all':=V6 ..) Z (H':=V5 ..) Z (Q3 (Q4 (Q2 [3,0] (S':=[_,_]) Z (Q5 (Q1 (wP Z (wP Z (wF Z tF_206_2 ?_)))))))))))))
 refine wS 1 3 Z Q1A (all':=V6 ..) Z (H':=V5 ..) Z (Q3 (Q4 (Q2 [3,0] (S':=[_,_]) Z (Q5 (Q1 (wF Z Q1V (wD 0 1 Z Q27 Q2E Z (wF Z Q4q (wD 0 2 Z Q1A Q1N Z (Q13 Z Z Z Zq Z tZ_52 tP_52 Z (out:=V5 ..) Z (QE Z Z Z Zq Z tZ_52 Z (fun g7=>(wS 0 0 Z Q4W (all':=V5 ..) Z (H':=V6 ..) Z (Q3 ?_))))))))))))))
 refine Q4 (Q2 [7,3,0] (S':=V3 ..) Z (Q5 ?_))
 obtain ⟨d7,hm,hLj_6⟩:=Q6 hm
 refine QI (σ:=(List QN) × (List Q1c) × (List ByteArray) × Int × Int × Int × OA × Nat × Nat × OA × Nat × Nat × OA × Nat × Nat) (fun (j,q,s,bH,bI,bJ,aG,aH,b3,aI,aJ,b4,aS,aT,aU)=>d7 = (j,q,s,bH,bI,bJ)) (fun (j,q,s,bH,bI,bJ,aG,aH,b3,aI,aJ,b4,aS,aT,aU)=>[(7,.pointer (some ⟨g7,0,none⟩)),(0,.pointer (some ⟨b5,0,none⟩))]) (fun (j,q,s,bH,bI,bJ,aG,aH,b3,aI,aJ,b4,aS,aT,aU)=>[]) (fun (j,q,s,bH,bI,bJ,aG,aH,b3,aI,aJ,b4,aS,aT,aU)=>[.blk g7 [.string a7,.int .i64 a8,.int .i64 0,.slice aG b3 aH,.slice aI b4 aJ] 52,.own 67 10 QZ (.slice aG b3 aH) j,.own 81 4 Q1n (.slice aI b4 aJ) q,.blk b5 [.slice b0 b1 b2,.slice bA b6 b7,.slice aS aU aT,.int .i64 bH,.int .i64 bI,.int .i64 bJ] 206,.own 69 2 Qf (.slice b0 b1 b2) l0,.own 52 5 Qe (.slice bA b6 b7) l1,.own 9 1 Q1y (.slice aS aU aT) s,.own 9 1 Q1y (.slice bE bF bG) l2]) ?_ ?_
 refine Q5 (Q1 (wP Z (Q3 (Q4 (Qw (Q3i 67 10 QZ (Q3i 81 4 Q1n (Q3i 9 1 Q1y (Q4X [3,2,1,4,5,6,7,0,8] Z (H':=V9 ..) Z (Q1E (σ:=Nat × Nat × (List QN) × (List Q1c) × (List ByteArray) × Int × Int × Int × OA × Nat × Nat × OA × Nat × Nat × OA × Nat × Nat) (fun (cB,bM,z,a0,aK,aY,aV,aZ,a1,aA,aL,aB,aC,aM,aD,aE,aF)=>Q1M (Q3L N aR l0 l1 a7 a8) cB (bM,z,a0,aK,aY,aV,aZ) = some d7) (fun (cB,bM,z,a0,aK,aY,aV,aZ,a1,aA,aL,aB,aC,aM,aD,aE,aF)=>cB) (fun (cB,bM,z,a0,aK,aY,aV,aZ,a1,aA,aL,aB,aC,aM,aD,aE,aF)=>[(8,.int .i64 ((bM:Nat):Int)),(7,.pointer (some ⟨g7,0,none⟩)),(3,.pointer (some ⟨g3,0,none⟩)),(0,.pointer (some ⟨b5,0,none⟩))]) (fun (cB,bM,z,a0,aK,aY,aV,aZ,a1,aA,aL,aB,aC,aM,aD,aE,aF)=>[.sli 5 Qi aP aQ aR]) (fun (cB,bM,z,a0,aK,aY,aV,aZ,a1,aA,aL,aB,aC,aM,aD,aE,aF)=>[.blk g7 [.string a7,.int .i64 a8,.int .i64 0,.slice a1 aL aA,.slice aB aM aC] 52,.own 67 10 QZ (.slice a1 aL aA) z,.own 81 4 Q1n (.slice aB aM aC) a0,.blk g3 [.int .u8 a6,.string a7,.int .i64 a8,.int .i64 a9,.slice aP aR.length aQ] 159,.blk b5 [.slice b0 b1 b2,.slice bA b6 b7,.slice aD aF aE,.int .i64 aY,.int .i64 aV,.int .i64 aZ] 206,.own 69 2 Qf (.slice b0 b1 b2) l0,.own 52 5 Qe (.slice bA b6 b7) l1,.own 9 1 Q1y (.slice aD aF aE) aK,.own 9 1 Q1y (.slice bE bF bG) l2]) (N,0,[],[],[],0,bC,bD,none,0,0,none,0,0,none,0,0) hm [8,7,3,0] Z (asK [0] Z) Z (fun s_ hm=>?_)))))))))))
 obtain ⟨cB,bM,z,a0,aK,aY,aV,aZ,a1,aA,aL,aB,aC,aM,aD,aE,aF⟩:=s_
 try dsimp only at hm ⊢
 obtain ⟨eS,eT,dZ,hq,hLu3⟩:=Q1e hm
 clear hm
 subst dZ
 replace hm:=hq
 clear hq
 unfold Q3L at hm
 try dsimp only at hm
 refine Q5 (Q5 ?_)
 obtain ⟨e0,hm,hLj_7⟩:=Q6 hm
 refine QI (σ:=Bool) (fun bN=>e0 = bN) (fun bN=>[(8,.int .i64 ((bM:Nat):Int)),(7,.pointer (some ⟨g7,0,none⟩)),(3,.pointer (some ⟨g3,0,none⟩)),(0,.pointer (some ⟨b5,0,none⟩)),(105,.bool bN)]) (fun bN=>[.sli 5 Qi aP aQ aR]) (fun bN=>[.blk g7 [.string a7,.int .i64 a8,.int .i64 0,.slice a1 aL aA,.slice aB aM aC] 52,.own 67 10 QZ (.slice a1 aL aA) z,.own 81 4 Q1n (.slice aB aM aC) a0,.blk g3 [.int .u8 a6,.string a7,.int .i64 a8,.int .i64 a9,.slice aP aR.length aQ] 159,.blk b5 [.slice b0 b1 b2,.slice bA b6 b7,.slice aD aF aE,.int .i64 aY,.int .i64 aV,.int .i64 aZ] 206,.own 69 2 Qf (.slice b0 b1 b2) l0,.own 52 5 Qe (.slice bA b6 b7) l1,.own 9 1 Q1y (.slice aD aF aE) aK,.own 9 1 Q1y (.slice bE bF bG) l2]) ?_ ?_
 refine Q1 (wP Z (wF Z Q1s (wD 3 4 Z Q1U Q2b Z (wN Z Q1Q (wP Z (QH (d:=97) (v':=.bool (decide (bM < aR.length))) (S':=V8 ..) Z Z (Q2z (a:=bM) (b:=aR.length)) (wP Z ?_)))))))
 refine Qt (d:=98) (S':=V9 ..) Z Z (fun cL=>?_) (fun cL=>?_)
 replace hm:=QA hm cL
 refine wP Z (wP Z (wF Z Q9x (wF Z Q9v (wD 4 4 Z tS_32 tA_32 Z (wP Z (wP Z (Q3 ?_)))))))
 have hE:=(Zi hm).symm
 refine Q9 (aV == 0) hE [8,7,3,0,105] Z (asK [0] Z) Z
 replace hm:=Qz hm cL
 refine wO Z (wO Z (wO Z (wO Z (wO Z (wO Z (wP Z (Q3 ?_)))))))
 have hE:=(Zi hm).symm
 refine Q9 false hE [8,7,3,0,105] Z (asK [0] Z) Z
 rintro bN hE
 try dsimp only
 have hm:=hLj_7
 rw [hE] at hm
 refine Qj Z (fun cC=>?_) (fun cC=>?_)
 replace hm:=QA hm cC
 refine Q2 [8,7,3,0] (S':=V4 ..) Z (Qq (Q4 (Q5 (Qw ?_))))
 obtain ⟨c6,dB,hm⟩:=Q6 hm
 obtain ⟨⟨cP,cQ,cR,cS,cT,cU⟩,dC,hm⟩:=Q6 hm
 try dsimp only at hm
 refine Q18 [0,1,2,3,4,5,6] Z Z (fun hok=>(xP hok 0 Z (Qm hok 1 0 0 Z Z Z Zq Z Z Z Z (cs:=V5 ..) Z Q4W tA_52 Z Z (Q8 hok 2 Z Z Z Zq Z Z Z Q1s (Qm hok 3 3 4 Z Z Z Zq Z Z Z Z (cs:=[_]) Z Q1U Q2b Z Z (xP hok 4 Z (Q4L hok 5 0 bM Z Z Z Zq Z Z Z Z Z Z dB Q1Q QQ (fun eI eJ e6 e1=>(Q6c Q1t 1 Z (fun d8 dD _=>?_))))))))))
 subst dD
 refine Q7n hok 6 1 0 Z Z Z Zq Z Z Z Z (cs:=V5 ..) Z QQ Q1z Z Z (xS hok 7 Z (Q15 1 Z (fun bZ _=>?_)))
 subst bZ
 refine Q15 2 Z (fun c0 _=>?_)
 subst c0
 refine wC [4,5,6,7,1,2] [0,3,8] Z fn_175 Z (Q7S N b5 b0 b1 b2 l0 bA b6 b7 l1 aD aF aE aK aY aV aZ a7 a8 0 a1 z.length aA z aB a0.length aC a0 c6.kind c6.text c6.num c6.at_ d8.1 d8.2 c6.kids _ _ _ _ _ _ dC) (asK [0] Z) Z (H':=V3 ..) Z ?_
 rintro _ _ _ ⟨cV,cW,cX,cY,cZ,d0,d1,d2,d3,rfl,rfl,rfl⟩
 refine Q3 (QV [0,1,2,3] [7] Z Z (xS hok 8 Z (wS 6 0 Z Q4W (all':=V5 ..) Z (H':=V9 ..) Z (Q3 (QV [0,1,2,3] [] Z Z (Q11 hok Z (Qh (Q4 (Q2 [8,7,3,0] (S':=V4 ..) Z (Q1 (wP Z (wP Z ?_))))))))))))
 obtain ⟨dE,hm⟩:=Qu hm
 refine QH (d:=107) (v':=.int .i64 ((bM + 1:Nat):Int)) (S':=V5 ..) Z Z (Q1J (a:=bM) (b:=1) dE) (Q1b (S':=V5 ..) Z Z Z Z Z (Q3 ?_))
 have hE:=(Zi hm).symm
 replace hE:=QO hLu3 hE
 refine Qs [6,0,1,7,2,3,4,5,8] Z (H':=V9 ..) Z ?_
 refine Q1a (_,bM + 1,cP,cQ,cR,cS,cT,cU,cV,cW,cX,cY,cZ,d0,d1,d2,d3) (Nat.lt_succ_self _) hE [8,7,3,0] Z (asK [3] Z) Z
 replace hm:=Qz hm cC
 refine Q2 [7,0] (S':=[_,_]) Z (Q1x (Qk (Qk (QJ ?_))))
 have hE:=(Zi hm).symm
 replace hE:=Qv hLu3 hE
 refine Qs [0,1,2,4,5,6,7,8] Z (H':=V8 ..) Z ?_
 refine Q9 (z,a0,aK,aY,aV,aZ,a1,aA,aL,aB,aC,aM,aD,aE,aF) hE [7,0] Z (asK [] Z) Z
 rintro ⟨j,q,s,bH,bI,bJ,aG,aH,b3,aI,aJ,b4,aS,aT,aU⟩ hE
 try dsimp only
 have hm:=hLj_6
 rw [hE] at hm
 try dsimp only at hm
 refine Q5 (Q1 (wP Z (wP Z (wF Z Q7h (wD 3 2 Z Q6Q Q9q Z (Q15 6 Z (fun dF _=>(wN Z Q2c (QH (d:=120) (v':=.int .i64 ((s.length:Nat):Int)) (S':=V6 ..) Z Z (Q4Y dF) (wF Z QaL (wS 0 2 Z Q1A (all':=V5 ..) Z (H':=V8 ..) Z (Q3 (Q4 (Q2 [7,0] (S':=[_,_]) Z ?_))))))))))))))
 obtain ⟨cM,hm⟩:=Qu hm
 refine Q18 [0,1,2,3,4,5,9,10,11] Z Z (fun hok=>(xP hok 0 Z (xP hok 1 Z (xP hok 2 Z (Q8 hok 3 Z Z Z Zq Z Z Z Q4r (Q8 hok 4 Z Z Z Zq Z Z Z Q6w (Qm hok 5 3 1 Z Z Z Zq Z Z Z Z (cs:=[_]) Z Q9T tA_23 Z Z (xS hok 6 Z (QR 0 0 Z Z Z Zq Z Z Z (cs:=V5 ..) Z Q4W tA_52 Z Z (Q3 (QV [] [3] Z Z (xS hok 7 Z (Qy Z Z Z Zq Z Q7K Q4W tZ_52 Z (zs:=[.string ((⟨#[]⟩ : ByteArray)),.int .i64 0,.int .i64 0,V1,V1]) (by kernel_rfl) Z (out:=V5 ..) Z (fun eK=>(Q3 ?_)))))))))))))))
 refine QV [] [4] Z Z (xS hok 8 Z (Q15 2 Z (fun bW _=>?_)))
 subst bW
 refine Q2w 2 Z (H':=V8 ..) Z (Q3f (.sli 10 QZ aG aH j) (fun F w hφ=>Q1K (hφ _ (Q10 (k:=0) Z))) (Q15 2 Z (fun bX _=>?_)))
 subst bX
 refine Q2w 2 Z (H':=V7 ..) Z (Q3f (.sli 4 Q1n aI aJ q) (fun F w hφ=>Q1K (hφ _ (Q10 (k:=0) Z))) (Q1S ([(⟨a7,a8,(((s.length:Nat):Int)),j,q⟩ : Qp)]) 4 0 Z Z Z Zq Z Z Z Z Z (fun F w hφ=>⟨[.string a7,.int .i64 a8,.int .i64 ((s.length:Nat):Int),.slice aG j.length aH,.slice aI q.length aJ],[],Z,Z,⟨((aG,aH),(aI,aJ)),Z,(QS (hφ _ (Q10 (k:=2) Z)) (QS (hφ _ (Q10 (k:=0) Z)) Qr))⟩,Z⟩) Q7K tR_52 Z Z (Nat.le_trans cM (by decide)) (Nat.le_trans (Nat.mul_le_mul_right _ cM) (by decide)) (H2:=fun cN cO=>[_,_,_,_,.own 52 5 Qe (.slice cN ((l1 ++ ([(⟨a7,a8,(((s.length:Nat):Int)),j,q⟩ : Qp)])).length) cO) (l1 ++ ([(⟨a7,a8,(((s.length:Nat):Int)),j,q⟩ : Qp)])),_,_]) (fun _ _=>Z) (fun cN cO=>(Q2s 0 Z (H':=V6 ..) Z (Q3 (QV [] [] Z Z (xP hok 9 Z (Q8 hok 10 Z Z Z Zq Z Z Z Q4r (Q8 hok 11 Z Z Z Zq Z Z Z Q6w (xS hok 12 Z (wS 1 1 Z Q9T (all':=V6 ..) Z (H':=V6 ..) Z (Q3 (QV [0,1,2,3] [] Z Z (Q11 hok Z ?_))))))))))))))
 have hE:=(Zi hm).symm
 obtain ⟨hE0,hF1⟩:=Prod.mk.inj hE
 obtain ⟨hE1,hF2⟩:=Prod.mk.inj hF1
 obtain ⟨hE2,hF3⟩:=Prod.mk.inj hF2
 obtain ⟨hE3,hE4⟩:=Prod.mk.inj hF3
 clear hE hF1 hF2 hF3
 replace hE0:=hE0.symm
 subst hE0
 replace hE1:=hE1.symm
 subst hE1
 replace hE2:=hE2.symm
 subst hE2
 replace hE3:=hE3.symm
 subst hE3
 replace hE4:=hE4.symm
 subst hE4
 refine Q4o (Hr:=V5 ..) [1,2,3,4,5] Tryz.results130 ⟨cN,cO,(l1 ++ ([(⟨a7,a8,(((s.length:Nat):Int)),j,q⟩ : Qp)])).length,aS,aT,aU,Z,Z,Z⟩ (asK [] Z) Z Z (.inr Z)
theorem Q7P (N:Nat) (b2:Nat) (bY:OA) (bZ:Nat) (c0:Nat) (l0:List Qn) (aW:OA) (aX:Nat) (aY:Nat) (l1:List Qp) (aZ:OA) (b0:Nat) (b1:Nat) (l2:List ByteArray) (a3:Int) (a4:Int) (a5:Int) (a6:Int) (a7:ByteArray) (a8:Int) (a9:Int) (b5:OA) (aU:Nat) (aV:Nat) (b4:List Qa) (o2:List Qn) (o4:Int) (o5:Int) (hm:Q46 N l0 l1 l2 a3 a4 a5 a6 a7 a8 a9 b4 = some (o2,o4,o5)):Q1o Tryz.prog 129 [.pointer (some ⟨b2,0,none⟩),.agg #[.int .u8 a6,.string a7,.int .i64 a8,.int .i64 a9,.slice b5 aU aV]] [] [.blk b2 [.slice bY bZ c0,.slice aW aX aY,.slice aZ b0 b1,.int .i64 a3,.int .i64 a4,.int .i64 a5] 206,.own 69 2 Qf (.slice bY bZ c0) l0,.own 52 5 Qe (.slice aW aX aY) l1,.own 9 1 Q1y (.slice aZ b0 b1) l2,.own 159 5 Qi (.slice b5 aU aV) b4] (fun v Φr Hr=>∃ (o0:OA) (o1:Nat) (o3:Nat),v = .tuple #[] ∧ Φr = [] ∧ Hr = [.blk b2 [.slice o0 o3 o1,.slice aW aX aY,.slice aZ b0 b1,.int .i64 a3,.int .i64 o4,.int .i64 o5] 206,.own 69 2 Qf (.slice o0 o3 o1) o2,.own 52 5 Qe (.slice aW aX aY) l1,.own 9 1 Q1y (.slice aZ b0 b1) l2,.own 159 5 Qi (.slice b5 aU aV) b4]):=by
 unfold Q46 at hm
 refine QD Tryz.func129 Z Tryz.ntmps129 Z (S:=[_,_]) Z (fun C=>(Q5 (Q1 (wB Z (fun g3=>(Q3 (Q4 (Q2 [3,0] (S':=[_,_]) Z (Q5 (Q1 (wP Z (Q3 (Q4 (Qw (Q4X [0,5,1,2,3,4] Z (H':=V6 ..) Z ?_)))))))))))))))
 refine Q1E (σ:=Nat × Nat × (List Qn) × Int × Int × OA × Nat × Nat) (fun (b9,aF,j,aD,aE,q,s,z)=>Q1M (Q3v N b4 l1 l2 a3) b9 (aF,j,aD,aE) = some (o2,o4,o5)) (fun (b9,aF,j,aD,aE,q,s,z)=>b9) (fun (b9,aF,j,aD,aE,q,s,z)=>[(4,.int .i64 ((aF:Nat):Int)),(3,.pointer (some ⟨g3,0,none⟩)),(0,.pointer (some ⟨b2,0,none⟩))]) (fun (b9,aF,j,aD,aE,q,s,z)=>[]) (fun (b9,aF,j,aD,aE,q,s,z)=>[.blk g3 [.int .u8 a6,.string a7,.int .i64 a8,.int .i64 a9,.slice b5 aU aV] 159,.own 159 5 Qi (.slice b5 aU aV) b4,.blk b2 [.slice q z s,.slice aW aX aY,.slice aZ b0 b1,.int .i64 a3,.int .i64 aD,.int .i64 aE] 206,.own 69 2 Qf (.slice q z s) j,.own 52 5 Qe (.slice aW aX aY) l1,.own 9 1 Q1y (.slice aZ b0 b1) l2]) (N,0,l0,a4,a5,bY,c0,bZ) hm [4,3,0] Z (asK [] Z) Z (fun s_ hm=>?_)
 obtain ⟨b9,aF,j,aD,aE,q,s,z⟩:=s_
 try dsimp only at hm ⊢
 obtain ⟨d6,d7,c5,hq,hLu1⟩:=Q1e hm
 clear hm
 subst c5
 replace hm:=hq
 clear hq
 unfold Q3v at hm
 try dsimp only at hm
 refine Q5 (Q5 (Q1 (wP Z (wF Z Q1s (wD 0 4 Z Q1U Q2b Z (Q15 1 Z (fun c6 _=>(wN Z Q1Q (QH (d:=11) (v':=.int .i64 ((b4.length:Nat):Int)) (S':=V6 ..) Z Z (Q4Y c6) (wP Z (QH (d:=12) (v':=.bool (decide (aF < b4.length))) (S':=V7 ..) Z Z (Q2z (a:=aF) (b:=b4.length)) (Q3 (Q4 (Q2 [12,4,3,0] (S':=V4 ..) Z ?_))))))))))))))
 refine Qj Z (fun bF=>?_) (fun bF=>?_)
 replace hm:=QA hm bF
 refine Q2 [4,3,0] (S':=V3 ..) Z (Qq (Q4 (Q5 ?_)))
 obtain ⟨c7,hm,hLj_1⟩:=Q6 hm
 unfold Q5u at hm
 refine QI (σ:=(List Qn) × Int × Int × OA × Nat × Nat) (fun (a1,aM,aN,aA,aB,aC)=>c7 = (a1,aM,aN)) (fun (a1,aM,aN,aA,aB,aC)=>[(4,.int .i64 ((aF:Nat):Int)),(3,.pointer (some ⟨g3,0,none⟩)),(0,.pointer (some ⟨b2,0,none⟩))]) (fun (a1,aM,aN,aA,aB,aC)=>[]) (fun (a1,aM,aN,aA,aB,aC)=>[.blk g3 [.int .u8 a6,.string a7,.int .i64 a8,.int .i64 a9,.slice b5 aU aV] 159,.own 159 5 Qi (.slice b5 aU aV) b4,.blk b2 [.slice aA aC aB,.slice aW aX aY,.slice aZ b0 b1,.int .i64 a3,.int .i64 aM,.int .i64 aN] 206,.own 69 2 Qf (.slice aA aC aB) a1,.own 52 5 Qe (.slice aW aX aY) l1,.own 9 1 Q1y (.slice aZ b0 b1) l2]) ?_ ?_
 refine Qw (Q5 (Q1 (wF Z Q1s (wD 0 4 Z Q1U Q2b Z (wP Z ?_)))))
 obtain ⟨a0,bU,hm⟩:=Q6 hm
 refine Q5D 1 aF Z Z Z Zq Z Z Z Z Z (Q2t bU) Q1Q QQ (fun b6 c8=>?_)
 subst c8
 refine Q1T Q1t 1 aF 0 Z Z Z Zq Z Z Z bU QQ Q1z (v:=fun aG=>.agg #[.int .u8 (a0.kind),.string a0.text,.int .i64 (a0.num),.int .i64 (a0.at_),.slice aG.1 a0.kids.length aG.2]) (fun _=>Z) (fun _=>Z) (fun aG _=>(QE Z Z Z Zq Z Q2j Z (fun g5=>(wS 0 0 Z QQ (all':=V5 ..) Z (H':=V7 ..) Z (Q3 (Q4 (Q2 [5,4,3,0] (S':=V4 ..) Z (Q5 (Q5 (Q1 (wF Z Q2F (wD 0 0 Z Q34 Q6O Z (wP Z (Q3 (Q4 ?_)))))))))))))))
 refine Q2 [22,5,4,3,0] (S':=V5 ..) Z ?_
 refine Qj Z (fun bG=>?_) (fun bG=>?_)
 replace hm:=QA hm bG
 refine Q2 [4,3,0] (S':=V3 ..) Z (Q1x (Qk (QJ ?_)))
 have hE:=(Zi hm).symm
 refine Qs [1,2,3,4,5,6] Z (H':=V6 ..) Z ?_
 refine Q9 (j,aD,aE,q,s,z) hE [4,3,0] Z (asK [] Z) Z
 replace hm:=Qz hm bG
 refine Q2 [5,4,3,0] (S':=V4 ..) Z (Qq (Q4 (Q5 ?_)))
 obtain ⟨cU,c9,hm⟩:=Q6 hm
 obtain ⟨⟨bH,bI⟩,cA,hm⟩:=Q6 hm
 try dsimp only at hm
 refine Q18 [0,1,2,3,5,6] Z Z (fun hok=>(xP hok 0 Z (xP hok 1 Z (Q8 hok 2 Z Z Z Zq Z Z Z Q1V (Qm hok 3 0 1 Z Z Z Zq Z Z Z Z (cs:=[_]) Z Q27 Q2E Z Z (Qm hok 6 0 0 Z Z Z Zq Z Z Z Z (cs:=V5 ..) Z QQ Q1z Z Z (xS hok 4 Z (wC [3,4,5,6] [0,1,2] Z fn_173 Z (Q6b N b2 q z s j aW aX aY l1 aZ b0 b1 l2 a3 aD aE a0.text _ c9) (asK [] Z) Z (H':=V3 ..) Z ?_))))))))
 rintro _ _ _ ⟨rfl,rfl,rfl⟩
 refine Q3 (QV [0] [4] Z Z (xP hok 5 Z (xS hok 7 Z (wC [0,1,2,3] [4,5,6] Z Q6y Z (Q19 N b2 q z s j aW aX aY l1 aZ b0 b1 l2 a3 aD aE (decide (cU ≥ 0)) 210 a0.kind a0.text a0.num a0.at_ aG.1 aG.2 a0.kids _ _ cA) (asK [0] Z) Z (H':=V3 ..) Z ?_))))
 rintro _ _ _ ⟨rfl,rfl,rfl⟩
 refine Q3 (QV [0] [4] Z Z (Q11 hok Z (Q4 (Q2 [5,4,3,0] (S':=V4 ..) Z (Q5 ?_)))))
 obtain ⟨cB,hm,hLj_2⟩:=Q6 hm
 refine QI (σ:=Int × Int) (fun (aO,aP)=>cB = (aO,aP)) (fun (aO,aP)=>[(5,.pointer (some ⟨g5,0,none⟩)),(4,.int .i64 ((aF:Nat):Int)),(3,.pointer (some ⟨g3,0,none⟩)),(0,.pointer (some ⟨b2,0,none⟩))]) (fun (aO,aP)=>[.sli 5 Qi aG.1 aG.2 a0.kids]) (fun (aO,aP)=>[.blk g5 [.int .u8 (a0.kind),.string a0.text,.int .i64 (a0.num),.int .i64 (a0.at_),.slice aG.1 a0.kids.length aG.2] 159,.blk g3 [.int .u8 a6,.string a7,.int .i64 a8,.int .i64 a9,.slice (some ⟨b6,0,none⟩) aU aV] 159,.own 159 5 Qi (.slice (some ⟨b6,0,none⟩) aU aV) b4,.blk b2 [.slice q z s,.slice aW aX aY,.slice aZ b0 b1,.int .i64 a3,.int .i64 aO,.int .i64 aP] 206,.own 69 2 Qf (.slice q z s) j,.own 52 5 Qe (.slice aW aX aY) l1,.own 9 1 Q1y (.slice aZ b0 b1) l2]) ?_ ?_
 rcases QG hm with ⟨bJ,hm⟩ | ⟨bJ,hm⟩
 obtain ⟨⟨bA,bB⟩,bK,hm⟩:=Q6 hm
 try dsimp only at hm
 refine Q18 [0,1,2,3,4,6,7,8,9,10,11,12,13,14] Z Z (fun hok=>(xP hok 0 Z (xP hok 1 Z (xP hok 2 Z (Q8 hok 3 Z Z Z Zq Z Z Z Q4r (Q8 hok 4 Z Z Z Zq Z Z Z Q4V (Qm hok 14 4 0 Z Z Z Zq Z Z Z Z (cs:=V5 ..) Z QQ Q1z Z Z (xS hok 5 Z (wD 0 0 Z Q8y Q91 Z (Q3 (QV [0] [4] Z Z (Q7D 1 Z (fun bL _=>(Q4u hok 6 Z Z Z Zq Z Z Z Q7z (Q1D (d:=37) (v':=.int .i64 ((j.length:Nat):Int)) (S':=V11 ..) Z Z (Q4Y bL) ?_)))))))))))))))
 refine xP hok 7 Z (Q1D (d:=38) (v':=.bool (decide (32 ≤ j.length))) (S':=V12 ..) Z Z (natge (a:=j.length) (b:=32)) (xP hok 8 Z (Q1D (d:=39) (v':=.bool true) (S':=V13 ..) Z Z (Q1l bJ) (xO hok 9 Z (xO hok 10 Z (xO hok 11 Z (xO hok 12 Z (xP hok 13 Z (xS hok 15 Z (wC [0,1,2,3] [4,5,6] Z Q6y Z (Q19 N b2 q z s j aW aX aY l1 aZ b0 b1 l2 a3 bH bI true 204 a0.kind a0.text a0.num a0.at_ aG.1 aG.2 a0.kids _ _ bK) (asK [0] Z) Z (H':=V3 ..) Z ?_))))))))))
 rintro _ _ _ ⟨rfl,rfl,rfl⟩
 refine Q3 (QV [0] [] Z Z (Q11 hok Z ?_))
 have hE:=(Zi hm).symm
 refine Qs [4,5,6,0,1,2,3] Z (H':=V7 ..) Z ?_
 refine Q9 (bA,bB) hE [5,4,3,0] Z (asK [0] Z) Z
 obtain ⟨⟨bA,bB⟩,bK,hm⟩:=Q6 hm
 try dsimp only at hm
 refine Q18 [0,1,2,3,4,6,7,8,9,10,11,12,13,14] Z Z (fun hok=>(xP hok 0 Z (xP hok 1 Z (xP hok 2 Z (Q8 hok 3 Z Z Z Zq Z Z Z Q4r (Q8 hok 4 Z Z Z Zq Z Z Z Q4V (Qm hok 14 4 0 Z Z Z Zq Z Z Z Z (cs:=V5 ..) Z QQ Q1z Z Z (xS hok 5 Z (wD 0 0 Z Q8y Q91 Z (Q3 (QV [0] [4] Z Z (Q7D 1 Z (fun bL _=>(Q4u hok 6 Z Z Z Zq Z Z Z Q7z (Q1D (d:=37) (v':=.int .i64 ((j.length:Nat):Int)) (S':=V11 ..) Z Z (Q4Y bL) ?_)))))))))))))))
 refine xP hok 7 Z (Q1D (d:=38) (v':=.bool (decide (32 ≤ j.length))) (S':=V12 ..) Z Z (natge (a:=j.length) (b:=32)) (xP hok 8 Z (Q1D (d:=39) (v':=.bool false) (S':=V13 ..) Z Z (Q1l bJ) (Q8 hok 9 Z Z Z Zq Z Z Z Q1s (Qm hok 10 4 4 Z Z Z Zq Z Z Z Z (cs:=[_]) Z Q1U Q2b Z Z (Q4u hok 11 Z Z Z Zq Z Z Z Q1Q (xP hok 12 Z (Q1D (d:=43) (v':=.bool (decide (6 < a0.kids.length))) (S':=V17 ..) Z Z (natgt (a:=a0.kids.length) (b:=6)) (xP hok 13 Z (xS hok 15 Z (wC [0,1,2,3] [4,5,6] Z Q6y Z (Q19 N b2 q z s j aW aX aY l1 aZ b0 b1 l2 a3 bH bI (decide (6 < a0.kids.length)) 204 a0.kind a0.text a0.num a0.at_ aG.1 aG.2 a0.kids _ _ bK) (asK [0] Z) Z (H':=V3 ..) Z ?_)))))))))))
 rintro _ _ _ ⟨rfl,rfl,rfl⟩
 refine Q3 (QV [0] [4] Z Z (Q11 hok Z ?_))
 have hE:=(Zi hm).symm
 refine Qs [4,5,6,0,1,2,3] Z (H':=V7 ..) Z ?_
 refine Q9 (bA,bB) hE [5,4,3,0] Z (asK [0] Z) Z
 rintro ⟨aO,aP⟩ hE
 try dsimp only
 have hm:=hLj_2
 rw [hE] at hm
 try dsimp only at hm
 refine Q5 ?_
 obtain ⟨bV,hm,hLj_3⟩:=Q6 hm
 refine QI (σ:=Int × Int) (fun (aQ,aR)=>bV = (aQ,aR)) (fun (aQ,aR)=>[(5,.pointer (some ⟨g5,0,none⟩)),(4,.int .i64 ((aF:Nat):Int)),(3,.pointer (some ⟨g3,0,none⟩)),(0,.pointer (some ⟨b2,0,none⟩))]) (fun (aQ,aR)=>[.sli 5 Qi aG.1 aG.2 a0.kids]) (fun (aQ,aR)=>[.blk g5 [.int .u8 (a0.kind),.string a0.text,.int .i64 (a0.num),.int .i64 (a0.at_),.slice aG.1 a0.kids.length aG.2] 159,.blk g3 [.int .u8 a6,.string a7,.int .i64 a8,.int .i64 a9,.slice (some ⟨b6,0,none⟩) aU aV] 159,.own 159 5 Qi (.slice (some ⟨b6,0,none⟩) aU aV) b4,.blk b2 [.slice q z s,.slice aW aX aY,.slice aZ b0 b1,.int .i64 a3,.int .i64 aQ,.int .i64 aR] 206,.own 69 2 Qf (.slice q z s) j,.own 52 5 Qe (.slice aW aX aY) l1,.own 9 1 Q1y (.slice aZ b0 b1) l2]) ?_ ?_
 refine Q5 (Q1 (wP Z (Q3 (Q4 (Qw (Q1E (σ:=Nat × Nat × Int × Int) (fun (bC,aH,aI,aJ)=>Q1M (Q3w N a0 j l1 l2 a3) bC (aH,aI,aJ) = some bV) (fun (bC,aH,aI,aJ)=>bC) (fun (bC,aH,aI,aJ)=>[(6,.int .i64 ((aH:Nat):Int)),(5,.pointer (some ⟨g5,0,none⟩)),(4,.int .i64 ((aF:Nat):Int)),(3,.pointer (some ⟨g3,0,none⟩)),(0,.pointer (some ⟨b2,0,none⟩))]) (fun (bC,aH,aI,aJ)=>[.sli 5 Qi aG.1 aG.2 a0.kids]) (fun (bC,aH,aI,aJ)=>[.blk g5 [.int .u8 (a0.kind),.string a0.text,.int .i64 (a0.num),.int .i64 (a0.at_),.slice aG.1 a0.kids.length aG.2] 159,.blk g3 [.int .u8 a6,.string a7,.int .i64 a8,.int .i64 a9,.slice (some ⟨b6,0,none⟩) aU aV] 159,.own 159 5 Qi (.slice (some ⟨b6,0,none⟩) aU aV) b4,.blk b2 [.slice q z s,.slice aW aX aY,.slice aZ b0 b1,.int .i64 a3,.int .i64 aI,.int .i64 aJ] 206,.own 69 2 Qf (.slice q z s) j,.own 52 5 Qe (.slice aW aX aY) l1,.own 9 1 Q1y (.slice aZ b0 b1) l2]) (N,0,aO,aP) hm [6,5,4,3,0] Z (asK [0] Z) Z (fun s_ hm=>?_)))))))
 obtain ⟨bC,aH,aI,aJ⟩:=s_
 try dsimp only at hm ⊢
 obtain ⟨d8,d9,cC,hq,hLu2⟩:=Q1e hm
 clear hm
 subst cC
 replace hm:=hq
 clear hq
 unfold Q3w at hm
 try dsimp only at hm
 refine Q5 (Q5 (Q1 (wP Z (wF Z Q1s (wD 0 4 Z Q1U Q2b Z (wN Z Q1Q (wP Z (QH (d:=51) (v':=.bool (decide (aH < a0.kids.length))) (S':=V9 ..) Z Z (Q2z (a:=aH) (b:=a0.kids.length)) (Q3 (Q4 (Q2 [51,6,5,4,3,0] (S':=V6 ..) Z ?_)))))))))))
 refine Qj Z (fun bM=>?_) (fun bM=>?_)
 replace hm:=QA hm bM
 refine Q2 [6,5,4,3,0] (S':=V5 ..) Z (Qq (Q4 (Q5 ?_)))
 obtain ⟨bW,hm,hLj_4⟩:=Q6 hm
 refine QI (σ:=Int × Int) (fun (aS,aT)=>bW = (aS,aT)) (fun (aS,aT)=>[(6,.int .i64 ((aH:Nat):Int)),(5,.pointer (some ⟨g5,0,none⟩)),(4,.int .i64 ((aF:Nat):Int)),(3,.pointer (some ⟨g3,0,none⟩)),(0,.pointer (some ⟨b2,0,none⟩))]) (fun (aS,aT)=>[.sli 5 Qi aG.1 aG.2 a0.kids]) (fun (aS,aT)=>[.blk g5 [.int .u8 (a0.kind),.string a0.text,.int .i64 (a0.num),.int .i64 (a0.at_),.slice aG.1 a0.kids.length aG.2] 159,.blk g3 [.int .u8 a6,.string a7,.int .i64 a8,.int .i64 a9,.slice (some ⟨b6,0,none⟩) aU aV] 159,.own 159 5 Qi (.slice (some ⟨b6,0,none⟩) aU aV) b4,.blk b2 [.slice q z s,.slice aW aX aY,.slice aZ b0 b1,.int .i64 a3,.int .i64 aS,.int .i64 aT] 206,.own 69 2 Qf (.slice q z s) j,.own 52 5 Qe (.slice aW aX aY) l1,.own 9 1 Q1y (.slice aZ b0 b1) l2]) ?_ ?_
 refine Qw (Q5 (Q1 (wP Z (Q3 (Q4 (Qw (Q1E (σ:=Nat × Nat × Int × Int) (fun (bD,b3,aK,aL)=>Q1M (Q3x N aH a0 j l1 l2 a3) bD (b3,aK,aL) = some bW) (fun (bD,b3,aK,aL)=>bD) (fun (bD,b3,aK,aL)=>[(7,.int .i64 ((b3:Nat):Int)),(6,.int .i64 ((aH:Nat):Int)),(5,.pointer (some ⟨g5,0,none⟩)),(4,.int .i64 ((aF:Nat):Int)),(3,.pointer (some ⟨g3,0,none⟩)),(0,.pointer (some ⟨b2,0,none⟩))]) (fun (bD,b3,aK,aL)=>[.sli 5 Qi aG.1 aG.2 a0.kids]) (fun (bD,b3,aK,aL)=>[.blk g5 [.int .u8 (a0.kind),.string a0.text,.int .i64 (a0.num),.int .i64 (a0.at_),.slice aG.1 a0.kids.length aG.2] 159,.blk g3 [.int .u8 a6,.string a7,.int .i64 a8,.int .i64 a9,.slice (some ⟨b6,0,none⟩) aU aV] 159,.own 159 5 Qi (.slice (some ⟨b6,0,none⟩) aU aV) b4,.blk b2 [.slice q z s,.slice aW aX aY,.slice aZ b0 b1,.int .i64 a3,.int .i64 aK,.int .i64 aL] 206,.own 69 2 Qf (.slice q z s) j,.own 52 5 Qe (.slice aW aX aY) l1,.own 9 1 Q1y (.slice aZ b0 b1) l2]) (N,0,aI,aJ) hm [7,6,5,4,3,0] Z (asK [0] Z) Z (fun s_ hm=>?_))))))))
 obtain ⟨bD,b3,aK,aL⟩:=s_
 try dsimp only at hm ⊢
 obtain ⟨dA,dB,cD,hq,hLu3⟩:=Q1e hm
 clear hm
 subst cD
 replace hm:=hq
 clear hq
 unfold Q3x at hm
 try dsimp only at hm
 refine Q5 (Q5 (Q1 (wP Z (wP Z (wP Z (QH (d:=56) (v':=.bool (decide (b3 < aH))) (S':=V8 ..) Z Z (Q2z (a:=b3) (b:=aH)) (Q3 (Q4 (Q2 [56,7,6,5,4,3,0] (S':=V7 ..) Z ?_)))))))))
 refine Qj Z (fun bN=>?_) (fun bN=>?_)
 replace hm:=QA hm bN
 refine Q2 [7,6,5,4,3,0] (S':=V6 ..) Z (Qq (Q4 (Q5 (Qw ?_))))
 obtain ⟨cV,cE,hm⟩:=Q6 hm
 obtain ⟨cW,cF,hm⟩:=Q6 hm
 obtain ⟨bO,cG,hm⟩:=Q6 hm
 obtain ⟨⟨c1,c2⟩,cH,hm⟩:=Q6 hm
 try dsimp only at hm
 refine Q18 [0,1,2,3,4,5,6,7,8,9,10,11,12,13,14,15,16,17,18] Z Z (fun hok=>(xP hok 0 Z (Q8 hok 1 Z Z Z Zq Z Z Z Q1s (Qm hok 2 0 4 Z Z Z Zq Z Z Z Z (cs:=[_]) Z Q1U Q2b Z Z (xP hok 3 Z (Q4L hok 4 0 b3 Z Z Z Zq Z Z Z Z Z Z cE Q1Q QQ (fun dC dD d3 cX=>(Q6c Q1t 1 Z (fun dE cI _=>?_)))))))))
 subst cI
 refine Q8 hok 5 Z Z Z Zq Z Z Z Q1V (Q7n hok 6 1 1 Z Z Z Zq Z Z Z Z (cs:=[_]) Z Q27 Q2E Z Z (Q8 hok 7 Z Z Z Zq Z Z Z Q1s (Qm hok 8 0 4 Z Z Z Zq Z Z Z Z (cs:=[_]) Z Q1U Q2b Z Z (xP hok 9 Z (Q4L hok 10 3 aH Z Z Z Zq Z Z Z Z Z Z cF Q1Q QQ (fun dF dG d4 cY=>(Q6c Q1t 1 Z (fun dH cJ _=>?_))))))))
 subst cJ
 refine Q8 hok 11 Z Z Z Zq Z Z Z Q1V (Q7n hok 12 1 1 Z Z Z Zq Z Z Z Z (cs:=[_]) Z Q27 Q2E Z Z (xP hok 13 Z (Q8 hok 14 Z Z Z Zq Z Z Z Q1s (Qm hok 15 0 4 Z Z Z Zq Z Z Z Z (cs:=[_]) Z Q1U Q2b Z Z (xP hok 16 Z (Q4L hok 17 6 aH Z Z Z Zq Z Z Z Z Z Z cG Q1Q QQ (fun dI dJ d5 cZ=>(Q6c Q1t 1 Z (fun cK cL _=>?_)))))))))
 subst cL
 refine Q7n hok 18 1 0 Z Z Z Zq Z Z Z Z (cs:=V5 ..) Z QQ Q1z Z Z (xS hok 19 Z (wC [3,4,5,6] [0,1,2] Z Q6y Z (Q19 N b2 q z s j aW aX aY l1 aZ b0 b1 l2 a3 aK aL (cV.text.toList == cW.text.toList) 210 bO.kind bO.text bO.num bO.at_ cK.1 cK.2 bO.kids _ _ cH) (asK [0] Z) Z (H':=V3 ..) Z ?_))
 rintro _ _ _ ⟨rfl,rfl,rfl⟩
 refine Q3 (QV [0,1,2,3,4,5,6,7,8,9] [4,4,4] Z Z (Q11 hok Z (Qh (Q4 (Q2 [7,6,5,4,3,0] (S':=V6 ..) Z (Q1 (wP Z (wP Z ?_))))))))
 obtain ⟨cM,hm⟩:=Qu hm
 refine QH (d:=58) (v':=.int .i64 ((b3 + 1:Nat):Int)) (S':=V7 ..) Z Z (Q1J (a:=b3) (b:=1) cM) (Q1b (S':=V7 ..) Z Z Z Z Z (Q3 ?_))
 have hE:=(Zi hm).symm
 replace hE:=QO hLu3 hE
 refine Qs [4,5,6,0,1,2,3] Z (H':=V7 ..) Z ?_
 refine Q1a (_,b3 + 1,c1,c2) (Nat.lt_succ_self _) hE [7,6,5,4,3,0] Z (asK [9] Z) Z
 replace hm:=Qz hm bN
 refine Q2 [6,5,4,3,0] (S':=V5 ..) Z (Q1x (Qk (Qk (QJ (Qh ?_)))))
 have hE:=(Zi hm).symm
 replace hE:=Qv hLu3 hE
 refine Q9 (aK,aL) hE [6,5,4,3,0] Z (asK [0] Z) Z
 rintro ⟨aS,aT⟩ hE
 try dsimp only
 have hm:=hLj_4
 rw [hE] at hm
 try dsimp only at hm
 refine Q1 (wP Z (wP Z ?_))
 obtain ⟨cN,hm⟩:=Qu hm
 refine QH (d:=53) (v':=.int .i64 ((aH + 1:Nat):Int)) (S':=V6 ..) Z Z (Q1J (a:=aH) (b:=1) cN) (Q1b (S':=V6 ..) Z Z Z Z Z (Q3 ?_))
 have hE:=(Zi hm).symm
 replace hE:=QO hLu2 hE
 refine Q1a (_,aH + 1,aS,aT) (Nat.lt_succ_self _) hE [6,5,4,3,0] Z (asK [0] Z) Z
 replace hm:=Qz hm bM
 refine Q2 [5,4,3,0] (S':=V4 ..) Z (Q1x (Qk (Qk (QJ ?_))))
 have hE:=(Zi hm).symm
 replace hE:=Qv hLu2 hE
 refine Q9 (aI,aJ) hE [5,4,3,0] Z (asK [0] Z) Z
 rintro ⟨aQ,aR⟩ hE
 try dsimp only
 have hm:=hLj_3
 rw [hE] at hm
 try dsimp only at hm
 obtain ⟨bX,hm⟩:=Qu hm
 refine Q18 [0,1,2,3,4,5,6,7,8,9,10,11,14,15,16] Z Z (fun hok=>(xP hok 0 Z (xP hok 1 Z (xP hok 2 Z (Q8 hok 3 Z Z Z Zq Z Z Z Q4r (Q8 hok 4 Z Z Z Zq Z Z Z Q4V (Qm hok 5 3 0 Z Z Z Zq Z Z Z Z (cs:=[_]) Z Q8y Q91 Z Z (Q8 hok 6 Z Z Z Zq Z Z Z Q1V (Qm hok 7 0 1 Z Z Z Zq Z Z Z Z (cs:=[_]) Z Q27 Q2E Z Z (Q8 hok 8 Z Z Z Zq Z Z Z Q1s (Qm hok 9 0 4 Z Z Z Zq Z Z Z Z (cs:=[_]) Z Q1U Q2b Z Z (Q4u hok 10 Z Z Z Zq Z Z Z Q1Q (Q6U hok 11 Z Z Z Zq Z Z tZ_69 tP_69 Z (out:=[_,_]) Z (xS hok 12 Z ?_))))))))))))))
 refine Qy Z Z Z Zq Z Q7z tS_69 tZ_69 Z (zs:=[.string ((⟨#[]⟩ : ByteArray)),.int .i64 0]) (by kernel_rfl) Z (out:=[_,_]) Z (fun dK=>(Q3 (QV [0] [1,1,4] Z Z (xS hok 13 Z (Q1S ([(⟨a0.text,(((a0.kids.length:Nat):Int))⟩ : Qn)]) 5 0 Z Z Z Zq Z Z Z Z Z (fun F w hφ=>⟨[.string a0.text,.int .i64 ((a0.kids.length:Nat):Int)],[],Z,Z,⟨(),Z,Qr⟩,Z⟩) Q7z tR_69 Z Z (Nat.le_trans bX (by decide)) (Nat.le_trans (Nat.mul_le_mul_right _ bX) (by decide)) (H2:=fun c3 c4=>[_,_,_,_,_,.own 69 2 Qf (.slice c3 ((j ++ ([(⟨a0.text,(((a0.kids.length:Nat):Int))⟩ : Qn)])).length) c4) (j ++ ([(⟨a0.text,(((a0.kids.length:Nat):Int))⟩ : Qn)])),_,_]) (fun _ _=>Z) (fun c3 c4=>(Q2s 0 Z (H':=V7 ..) Z (Q3 (QV [0] [0,0] Z Z (xP hok 14 Z (Q8 hok 15 Z Z Z Zq Z Z Z Q4r (Q8 hok 16 Z Z Z Zq Z Z Z Q4V (xS hok 17 Z (wS 3 0 Z Q8y (all':=V6 ..) Z (H':=V7 ..) Z (Q3 ?_)))))))))))))))
 refine QV [0] [] Z Z (Q11 hok Z (Qh ?_))
 have hE:=(Zi hm).symm
 refine Qs [1,2,3,4,5,6] Z (H':=V6 ..) Z ?_
 refine Q9 ((j ++ ([(⟨a0.text,(((a0.kids.length:Nat):Int))⟩ : Qn)])),aQ,aR,c3,c4,((j ++ ([(⟨a0.text,(((a0.kids.length:Nat):Int))⟩ : Qn)])).length)) hE [4,3,0] Z (asK [] Z) Z
 rintro ⟨a1,aM,aN,aA,aB,aC⟩ hE
 try dsimp only
 have hm:=hLj_1
 rw [hE] at hm
 try dsimp only at hm
 refine Q1 (wP Z (wP Z ?_))
 obtain ⟨cO,hm⟩:=Qu hm
 refine QH (d:=14) (v':=.int .i64 ((aF + 1:Nat):Int)) (S':=V4 ..) Z Z (Q1J (a:=aF) (b:=1) cO) (Q1b (S':=V4 ..) Z Z Z Z Z (Q3 ?_))
 have hE:=(Zi hm).symm
 replace hE:=QO hLu1 hE
 refine Q1a (_,aF + 1,a1,aM,aN,aA,aB,aC) (Nat.lt_succ_self _) hE [4,3,0] Z (asK [] Z) Z
 replace hm:=Qz hm bF
 refine Q2 [] (S':=[]) Z (Q1x (Qk (Qk (QJ ?_))))
 have hE:=(Zi hm).symm
 replace hE:=Qv hLu1 hE
 obtain ⟨hE0,hF1⟩:=Prod.mk.inj hE
 obtain ⟨hE1,hE2⟩:=Prod.mk.inj hF1
 clear hE hF1
 replace hE0:=hE0.symm
 subst hE0
 replace hE1:=hE1.symm
 subst hE1
 replace hE2:=hE2.symm
 subst hE2
 refine Q4o (Hr:=V5 ..) [2,3,4,5,1] Tryz.results129 ⟨q,s,z,Z,Z,Z⟩ (asK [] Z) Z Z (.inr Z)
theorem Q9K (N:Nat) (a0:Int) (a1:ByteArray) (a2:Int) (a3:Int) (b4:OA) (bM:Nat) (b5:Nat) (l4:List Qa) (o2:List Qn) (o6:List Qp) (o8:Int) (o9:Int) (hm:Q6L N a0 a1 a2 a3 l4 = some (o2,o6,o8,o9)):Q1o Tryz.prog 94 [.agg #[.int .u8 a0,.string a1,.int .i64 a2,.int .i64 a3,.slice b4 bM b5]] [] [.own 159 5 Qi (.slice b4 bM b5) l4] (fun v Φr Hr=>∃ (o0:OA) (o1:Nat) (o3:Nat) (o4:OA) (o5:Nat) (o7:Nat),v = .tuple #[.agg #[.slice o0 o3 o1,.slice o4 o7 o5],.agg #[.int .i64 o8,.int .i64 o9]] ∧ Φr = [] ∧ Hr = [.own 69 2 Qf (.slice o0 o3 o1) o2,.own 52 5 Qe (.slice o4 o7 o5) o6,.own 159 5 Qi (.slice b4 bM b5) l4]):=by
 unfold Q6L at hm
 refine QD Tryz.func94 Z Tryz.ntmps94 Z (S:=[_]) Z (fun C=>(Q5 (Q1 (wB Z (fun g1=>(QE Z Z Z Zq Z tZ_25 Z (fun g2=>(QE Z Z Z Zq Z Q6S Z (fun g3=>(Q3 (Q4 (Q2 [3,2,1] (S':=V3 ..) Z (Q5 (Q5 (Q1 (QR 2 0 Z Z Z Zq Z Z Z (cs:=V5 ..) Z QQ Q1z Z Z (Q15 3 Z (fun bN _=>?_))))))))))))))))))
 subst bN
 obtain ⟨v7,cA,hm⟩:=Q6 hm
 refine Q3g [] [0,1,2,3] [3] Z Z Z Zq Z Z fn_128 Z (Qav N a0 a1 a2 a3 b4 b5 l4 _ cA) (fun F w hφ hh=>(QS (Q1K (hh _ (Q10 (k:=0) Z))) Qr)) (fun _ _ _ hR=>by obtain ⟨rfl,rfl,rfl⟩:=hR; exact ⟨Z,(fun _ h=>Q2A h)⟩) Z Z (H':=V4 ..) Z ?_
 rintro _ _ _ ⟨rfl,rfl,rfl⟩
 refine wP Z (Q3 (Q4 (Q2 [8,3,2,1] (S':=V4 ..) Z ?_)))
 refine Qj Z (fun bO=>?_) (fun bO=>?_)
 replace hm:=QA hm bO
 refine Q2 [3,2] (S':=[_,_]) Z (Q5 (Q1 (Q13 Z Z Z Zq Z tZ_25 tP_25 Z (out:=[_,_]) Z (Q13 Z Z Z Zq Z Q6S Qa3 Z (out:=[_,_]) Z (wS 1 0 Z Q6R (all':=[_,_]) Z (H':=V4 ..) Z (wS 0 0 Z Q2H (all':=[_,_]) Z (H':=V4 ..) Z (Q3 (Q4 (Q2 [3,2] (S':=[_,_]) Z (Qb (Q7 ?_)))))))))))
 have hE:=(Zi hm).symm
 obtain ⟨hE0,hF1⟩:=Prod.mk.inj hE
 obtain ⟨hE1,hF2⟩:=Prod.mk.inj hF1
 obtain ⟨hE2,hE3⟩:=Prod.mk.inj hF2
 clear hE hF1 hF2
 replace hE0:=hE0.symm
 subst hE0
 replace hE1:=hE1.symm
 subst hE1
 replace hE2:=hE2.symm
 subst hE2
 replace hE3:=hE3.symm
 subst hE3
 refine Q23 69 2 Qf (Q23 52 5 Qe ?_)
 refine Q1r (Hr:=V3 ..) [1,0,5] Tryz.results94 (QW 3 Z Z Q6R Q9r Z Z) (QW 2 Z Z Q2H Q73 Z Z) ⟨none,0,0,none,0,0,Z,Z,Z⟩ (asK [] Z) Z Z (.inl Z)
 replace hm:=Qz hm bO
 refine Q2 [3,2,1] (S':=V3 ..) Z (Qq (Q4 (Q5 (Q1 (Q13 Z Z Z Zq Z tZ_206 tP_206 Z (out:=V6 ..) Z (wB Z (fun b6=>(wP Z (Q3 (Q4 (Q2 [4,3,2,1] (S':=V4 ..) Z (Q5 (Q1 (wP Z ?_))))))))))))))
 refine QR 3 0 Z Z Z Zq Z Z Z (cs:=V5 ..) Z QQ Q1z Z Z (Qbt 69 2 Qf (Qbt 52 5 Qe (Qbt 9 1 Q1y ?_)))
 obtain ⟨⟨b3,bP,bQ⟩,c3,hm⟩:=Q6 hm
 try dsimp only at hm
 refine wC [3,2,1,0,7] [4,5,6] Z fn_129 Z (Q7P N b6 none 0 0 [] none 0 0 [] none 0 0 [] 0 0 0 a0 a1 a2 a3 b4 l4.length b5 l4 _ _ _ c3) (asK [] Z) Z (H':=V3 ..) Z ?_
 rintro _ _ _ ⟨aZ,b0,b1,rfl,rfl,rfl⟩
 refine Q3 (Q4 (Q2 [4,3,2,1] (S':=V4 ..) Z (Q5 ?_)))
 obtain ⟨bH,hm,hLj_1⟩:=Q6 hm
 refine QI (σ:=(List Qp) × (List ByteArray) × Int × Int × Int × OA × Nat × Nat × OA × Nat × Nat) (fun (aN,aO,aW,aX,aY,aA,aB,aC,aP,aQ,aR)=>bH = (aN,aO,aW,aX,aY)) (fun (aN,aO,aW,aX,aY,aA,aB,aC,aP,aQ,aR)=>[(4,.pointer (some ⟨b6,0,none⟩)),(3,.pointer (some ⟨g3,0,none⟩)),(2,.pointer (some ⟨g2,0,none⟩))]) (fun (aN,aO,aW,aX,aY,aA,aB,aC,aP,aQ,aR)=>[]) (fun (aN,aO,aW,aX,aY,aA,aB,aC,aP,aQ,aR)=>[.blk b6 [.slice aZ b1 b0,.slice aA aC aB,.slice aP aR aQ,.int .i64 aW,.int .i64 aX,.int .i64 aY] 206,.own 69 2 Qf (.slice aZ b1 b0) b3,.own 52 5 Qe (.slice aA aC aB) aN,.own 9 1 Q1y (.slice aP aR aQ) aO,.blk g3 [.int .i64 0,.int .i64 0] 113,.blk g2 [V1,V1] 25,.own 159 5 Qi (.slice b4 l4.length b5) l4]) ?_ ?_
 refine Q5 (Q1 (wP Z (Q3 (Q4 (Qw (Q4X [0,1,2,3,5,6,7,4] Z (H':=V8 ..) Z (Q1E (σ:=Nat × Nat × (List Qp) × (List ByteArray) × Int × Int × Int × OA × Nat × Nat × OA × Nat × Nat) (fun (b9,aS,a7,a8,aD,a9,aE,j,q,s,z,a5,a6)=>Q1M (Q5t N l4 b3) b9 (aS,a7,a8,aD,a9,aE) = some bH) (fun (b9,aS,a7,a8,aD,a9,aE,j,q,s,z,a5,a6)=>b9) (fun (b9,aS,a7,a8,aD,a9,aE,j,q,s,z,a5,a6)=>[(5,.int .i64 ((aS:Nat):Int)),(4,.pointer (some ⟨b6,0,none⟩)),(3,.pointer (some ⟨g3,0,none⟩)),(2,.pointer (some ⟨g2,0,none⟩)),(1,.pointer (some ⟨g1,0,none⟩))]) (fun (b9,aS,a7,a8,aD,a9,aE,j,q,s,z,a5,a6)=>[]) (fun (b9,aS,a7,a8,aD,a9,aE,j,q,s,z,a5,a6)=>[.blk b6 [.slice aZ b1 b0,.slice j s q,.slice z a6 a5,.int .i64 aD,.int .i64 a9,.int .i64 aE] 206,.own 69 2 Qf (.slice aZ b1 b0) b3,.own 52 5 Qe (.slice j s q) a7,.own 9 1 Q1y (.slice z a6 a5) a8,.blk g3 [.int .i64 0,.int .i64 0] 113,.blk g2 [V1,V1] 25,.blk g1 [.int .u8 a0,.string a1,.int .i64 a2,.int .i64 a3,.slice b4 l4.length b5] 159,.own 159 5 Qi (.slice b4 l4.length b5) l4]) (N,0,[],[],0,bP,bQ,none,0,0,none,0,0) hm [5,4,3,2,1] Z (asK [] Z) Z (fun s_ hm=>?_))))))))
 obtain ⟨b9,aS,a7,a8,aD,a9,aE,j,q,s,z,a5,a6⟩:=s_
 try dsimp only at hm ⊢
 obtain ⟨cN,cO,c4,hq,hLu1⟩:=Q1e hm
 clear hm
 subst c4
 replace hm:=hq
 clear hq
 unfold Q5t at hm
 try dsimp only at hm
 refine Q5 (Q5 ?_)
 obtain ⟨c5,hm,hLj_2⟩:=Q6 hm
 refine QI (σ:=Bool) (fun b2=>c5 = b2) (fun b2=>[(5,.int .i64 ((aS:Nat):Int)),(4,.pointer (some ⟨b6,0,none⟩)),(3,.pointer (some ⟨g3,0,none⟩)),(2,.pointer (some ⟨g2,0,none⟩)),(1,.pointer (some ⟨g1,0,none⟩)),(28,.bool b2)]) (fun b2=>[]) (fun b2=>[.blk b6 [.slice aZ b1 b0,.slice j s q,.slice z a6 a5,.int .i64 aD,.int .i64 a9,.int .i64 aE] 206,.own 69 2 Qf (.slice aZ b1 b0) b3,.own 52 5 Qe (.slice j s q) a7,.own 9 1 Q1y (.slice z a6 a5) a8,.blk g3 [.int .i64 0,.int .i64 0] 113,.blk g2 [V1,V1] 25,.blk g1 [.int .u8 a0,.string a1,.int .i64 a2,.int .i64 a3,.slice b4 l4.length b5] 159,.own 159 5 Qi (.slice b4 l4.length b5) l4]) ?_ ?_
 refine Q1 (wP Z (wF Z Q1s (wD 6 4 Z Q1U Q2b Z (wN Z Q1Q (wP Z (QH (d:=20) (v':=.bool (decide (aS < l4.length))) (S':=V9 ..) Z Z (Q2z (a:=aS) (b:=l4.length)) (wP Z ?_)))))))
 refine Qt (d:=21) (S':=V10 ..) Z Z (fun bA=>?_) (fun bA=>?_)
 replace hm:=QA hm bA
 refine wP Z (wP Z (wF Z Q9x (wF Z Q9v (wD 0 4 Z tS_32 tA_32 Z (wP Z (wP Z (Q3 ?_)))))))
 have hE:=(Zi hm).symm
 refine Q9 (a9 == 0) hE [5,4,3,2,1,28] Z (asK [] Z) Z
 replace hm:=Qz hm bA
 refine wO Z (wO Z (wO Z (wO Z (wO Z (wO Z (wP Z (Q3 ?_)))))))
 have hE:=(Zi hm).symm
 refine Q9 false hE [5,4,3,2,1,28] Z (asK [] Z) Z
 rintro b2 hE
 try dsimp only
 have hm:=hLj_2
 rw [hE] at hm
 refine Qj Z (fun bB=>?_) (fun bB=>?_)
 replace hm:=QA hm bB
 refine Q2 [5,4,3,2,1] (S':=V5 ..) Z (Qq (Q4 (Q5 ?_)))
 obtain ⟨c6,hm,hLj_3⟩:=Q6 hm
 refine QI (σ:=(List Qp) × (List ByteArray) × Int × Int × Int × OA × Nat × Nat × OA × Nat × Nat) (fun (aF,aG,aT,aU,aV,aH,aI,aJ,aK,aL,aM)=>c6 = (aF,aG,aT,aU,aV)) (fun (aF,aG,aT,aU,aV,aH,aI,aJ,aK,aL,aM)=>[(5,.int .i64 ((aS:Nat):Int)),(4,.pointer (some ⟨b6,0,none⟩)),(3,.pointer (some ⟨g3,0,none⟩)),(2,.pointer (some ⟨g2,0,none⟩)),(1,.pointer (some ⟨g1,0,none⟩))]) (fun (aF,aG,aT,aU,aV,aH,aI,aJ,aK,aL,aM)=>[]) (fun (aF,aG,aT,aU,aV,aH,aI,aJ,aK,aL,aM)=>[.blk b6 [.slice aZ b1 b0,.slice aH aJ aI,.slice aK aM aL,.int .i64 aT,.int .i64 aU,.int .i64 aV] 206,.own 69 2 Qf (.slice aZ b1 b0) b3,.own 52 5 Qe (.slice aH aJ aI) aF,.own 9 1 Q1y (.slice aK aM aL) aG,.blk g3 [.int .i64 0,.int .i64 0] 113,.blk g2 [V1,V1] 25,.blk g1 [.int .u8 a0,.string a1,.int .i64 a2,.int .i64 a3,.slice b4 l4.length b5] 159,.own 159 5 Qi (.slice b4 l4.length b5) l4]) ?_ ?_
 refine Qw (Q5 (Q1 (wF Z Q1s (wD 6 4 Z Q1U Q2b Z (wP Z ?_)))))
 obtain ⟨cB,bI,hm⟩:=Q6 hm
 refine Q5D 7 aS Z Z Z Zq Z Z Z Z Z (Q2t bI) Q1Q QQ (fun cP c7=>?_)
 subst c7
 refine wF Z Q2F (Q1T Q1t 7 aS 0 Z Z Z Zq Z Z Z bI Q34 Q6O (v:=fun cC=>.int .u8 (cB.kind)) (fun _=>Z) (fun _=>Z) (fun cC _=>(wP Z (Q3 (Q4 (Q2 [37,5,4,3,2,1] (S':=V6 ..) Z ?_))))))
 refine Qj Z (fun bC=>?_) (fun bC=>?_)
 replace hm:=QA hm bC
 refine Q2 [5,4,3,2,1] (S':=V5 ..) Z (Q1 (wP Z (wF Z Q1s (wD 6 4 Z Q1U Q2b Z (wP Z ?_)))))
 obtain ⟨b7,bJ,hm⟩:=Q6 hm
 refine Q6X 7 aS Z Z Z Zq Z Z Z Z Z (Q2t bJ) Q1Q QQ (Q1T Q1t 7 aS 0 Z Z Z Zq Z Z Z bJ QQ Q1z (v:=fun bD=>.agg #[.int .u8 (b7.kind),.string b7.text,.int .i64 (b7.num),.int .i64 (b7.at_),.slice bD.1 b7.kids.length bD.2]) (fun _=>Z) (fun _=>Z) (fun bD _=>?_))
 obtain ⟨⟨bR,bS,bT,bU,bV⟩,c8,hm⟩:=Q6 hm
 try dsimp only at hm
 refine wC [0,1,2,3] [4,5,6,7] Z fn_130 Z (Q8Q N b6 aZ b1 b0 b3 j s q a7 z a6 a5 a8 aD a9 aE b7.kind b7.text b7.num b7.at_ bD.1 bD.2 b7.kids _ _ _ _ _ c8) (asK [0] Z) Z (H':=V4 ..) Z ?_
 rintro _ _ _ ⟨bW,bX,bY,bZ,c0,c1,rfl,rfl,rfl⟩
 refine Q3 (Qh ?_)
 have hE:=(Zi hm).symm
 refine Qs [0,1,2,3,5,6,7,8] Z (H':=V8 ..) Z ?_
 refine Q9 (bR,bS,bT,bU,bV,bW,bX,bY,bZ,c0,c1) hE [5,4,3,2,1] Z (asK [] Z) Z
 replace hm:=Qz hm bC
 refine Q2 [5,4,3,2,1] (S':=V5 ..) Z (Qq (Qh ?_))
 have hE:=(Zi hm).symm
 refine Q9 (a7,a8,aD,a9,aE,j,q,s,z,a5,a6) hE [5,4,3,2,1] Z (asK [] Z) Z
 rintro ⟨aF,aG,aT,aU,aV,aH,aI,aJ,aK,aL,aM⟩ hE
 try dsimp only
 have hm:=hLj_3
 rw [hE] at hm
 try dsimp only at hm
 refine Q1 (wP Z (wP Z ?_))
 obtain ⟨c9,hm⟩:=Qu hm
 refine QH (d:=30) (v':=.int .i64 ((aS + 1:Nat):Int)) (S':=V6 ..) Z Z (Q1J (a:=aS) (b:=1) c9) (Q1b (S':=V6 ..) Z Z Z Z Z (Q3 ?_))
 have hE:=(Zi hm).symm
 replace hE:=QO hLu1 hE
 refine Q1a (_,aS + 1,aF,aG,aT,aU,aV,aH,aI,aJ,aK,aL,aM) (Nat.lt_succ_self _) hE [5,4,3,2,1] Z (asK [] Z) Z
 replace hm:=Qz hm bB
 refine Q2 [4,3,2] (S':=V3 ..) Z (Q1x (Qk (Qk (QJ ?_))))
 have hE:=(Zi hm).symm
 replace hE:=Qv hLu1 hE
 refine Qs [0,1,2,3,4,5,7] Z (H':=V7 ..) Z ?_
 refine Q9 (a7,a8,aD,a9,aE,j,q,s,z,a5,a6) hE [4,3,2] Z (asK [] Z) Z
 rintro ⟨aN,aO,aW,aX,aY,aA,aB,aC,aP,aQ,aR⟩ hE
 try dsimp only
 have hm:=hLj_1
 rw [hE] at hm
 try dsimp only at hm
 refine Q5 (Q5 (Q1 (wP Z (wP Z (wF Z Q9x (wF Z Q9v (wD 0 4 Z tS_32 tA_32 Z (wP Z (Q3 (Q4 (Q2 [50,4,3,2] (S':=V4 ..) Z ?_)))))))))))
 refine Qj Z (fun bE=>?_) (fun bE=>?_)
 replace hm:=QA hm bE
 refine Q2 [4,3,2] (S':=V3 ..) Z (Q5 (Q18 [0,1,2,3,4] Z Z (fun hok=>(Q6U hok 0 Z Z Z Zq Z Z tZ_25 tP_25 Z (out:=[_,_]) Z (xP hok 1 Z (xP hok 2 Z (Q8 hok 3 Z Z Z Zq Z Z Z Q9x (Qm hok 4 0 4 Z Z Z Zq Z Z Z Z (cs:=[_,_]) Z Q2H Q73 Z Z (xS hok 5 Z (wS 5 0 Z Q6R (all':=[_,_]) Z (H':=V7 ..) Z (Q3 (QV [] [0] Z Z (xS hok 6 Z (wS 4 0 Z Q2H (all':=[_,_]) Z (H':=V7 ..) Z ?_))))))))))))))
 refine Q3 (QV [] [] Z Z (Q11 hok Z (Q4 (Q2 [3,2] (S':=[_,_]) Z (Qb (Q7 ?_))))))
 have hE:=(Zi hm).symm
 obtain ⟨hE0,hF1⟩:=Prod.mk.inj hE
 obtain ⟨hE1,hF2⟩:=Prod.mk.inj hF1
 obtain ⟨hE2,hE3⟩:=Prod.mk.inj hF2
 clear hE hF1 hF2
 replace hE0:=hE0.symm
 subst hE0
 replace hE1:=hE1.symm
 subst hE1
 replace hE2:=hE2.symm
 subst hE2
 replace hE3:=hE3.symm
 subst hE3
 refine Q23 69 2 Qf (Q23 52 5 Qe ?_)
 refine Q1r (Hr:=V3 ..) [1,0,8] Tryz.results94 (QW 7 Z Z Q6R Q9r Z Z) (QW 6 Z Z Q2H Q73 Z Z) ⟨none,0,0,none,0,0,Z,Z,Z⟩ (asK [] Z) Z Z (.inl Z)
 replace hm:=Qz hm bE
 refine Q2 [4,3,2] (S':=V3 ..) Z (Qq (Q4 (Q5 (Q1 (wP Z (wP Z (wF Z Q4r (QR 0 0 Z Z Z Zq Z Z Z (cs:=[_,_]) Z Q6R Q9r Z Z (Q13 Z Z Z Zq Z Q6S Qa3 Z (out:=[_,_]) Z (wS 5 0 Z Q6R (all':=[_,_]) Z (H':=V7 ..) Z (wS 4 0 Z Q2H (all':=[_,_]) Z (H':=V7 ..) Z (Q3 (Q4 ?_)))))))))))))
 refine Q2 [3,2] (S':=[_,_]) Z (Qb ?_)
 have hE:=(Zi hm).symm
 obtain ⟨hE0,hF1⟩:=Prod.mk.inj hE
 obtain ⟨hE1,hF2⟩:=Prod.mk.inj hF1
 obtain ⟨hE2,hE3⟩:=Prod.mk.inj hF2
 clear hE hF1 hF2
 replace hE0:=hE0.symm
 subst hE0
 replace hE1:=hE1.symm
 subst hE1
 replace hE2:=hE2.symm
 subst hE2
 replace hE3:=hE3.symm
 subst hE3
 refine Q1r (Hr:=V3 ..) [1,2,6] Tryz.results94 (QW 5 Z Z Q6R Q9r Z Z) (QW 4 Z Z Q2H Q73 Z Z) ⟨aZ,b0,b1,aA,aB,aC,Z,Z,Z⟩ (asK [] Z) Z Z (.inl Z)
theorem Qaa (N:Nat) (a0:ByteArray) (o2:List Qn) (o6:List Qp) (o8:Int) (o9:Int) (hm:Q5Y N a0 = some (o2,o6,o8,o9)):Q1o Tryz.prog 52 [.string a0] [] [] (fun v Φr Hr=>∃ (o0:OA) (o1:Nat) (o3:Nat) (o4:OA) (o5:Nat) (o7:Nat),v = .tuple #[.agg #[.slice o0 o3 o1,.slice o4 o7 o5],.agg #[.int .i64 o8,.int .i64 o9]] ∧ Φr = [] ∧ Hr = [.own 69 2 Qf (.slice o0 o3 o1) o2,.own 52 5 Qe (.slice o4 o7 o5) o6]):=by
 unfold Q5Y at hm
 refine QD Tryz.func52 Z Tryz.ntmps52 Z (S:=[_]) Z (fun C=>(Q5 (Q1 (QE Z Z Z Zq Z tZ_25 Z (fun g2=>(QE Z Z Z Zq Z Q6S Z (fun g3=>(Q3 (Q4 (Q5 (Q1 (wP Z ?_))))))))))))
 obtain ⟨⟨aA,s,z,aU⟩,aF,hm⟩:=Q6 hm
 try dsimp only at hm
 refine wC [] [0,1] Z fn_93 Z (Q9I N a0 _ _ _ _ aF) (asK [] Z) Z (H':=[_,_]) Z ?_
 rintro _ _ _ ⟨aB,aC,aV,rfl,rfl,rfl⟩
 refine wP Z (wP Z (wP Z (QE Z Z Z Zq Z Q2j Z (fun g4=>(QE Z Z Z Zq Z Q6S Z (fun g5=>(wS 1 0 Z QQ (all':=V5 ..) Z (H':=V5 ..) Z (wS 0 0 Z Q2H (all':=[_,_]) Z (H':=V5 ..) Z (Q3 (Q4 (Q2 [5,4,3,2] (S':=V4 ..) Z (Q5 (Q5 (Q1 (wF Z Q9v ?_)))))))))))))))
 refine wD 0 0 Z tS_32 tA_32 Z (wP Z (QH (d:=13) (v':=.bool (z != 0)) (S':=V6 ..) Z Z (natne (a:=z) (b:=0)) (Q3 (Q4 (Q2 [13,5,4,3,2] (S':=V5 ..) Z ?_)))))
 refine Qj Z (fun j=>?_) (fun j=>?_)
 replace hm:=QA hm j
 refine Q2 [5,3,2] (S':=V3 ..) Z (Q5 (Q18 [0,1] Z Z (fun hok=>(Q6U hok 0 Z Z Z Zq Z Z tZ_25 tP_25 Z (out:=[_,_]) Z (Qm hok 1 0 0 Z Z Z Zq Z Z Z Z (cs:=[_,_]) Z Q2H Q73 Z Z (xS hok 2 Z (wS 4 0 Z Q6R (all':=[_,_]) Z (H':=V5 ..) Z (Q3 (QV [] [0] Z Z (xS hok 3 Z (wS 3 0 Z Q2H (all':=[_,_]) Z (H':=V5 ..) Z (Q3 (QV [] [] Z Z (Q11 hok Z ?_))))))))))))))
 refine Q4 (Q2 [3,2] (S':=[_,_]) Z (Qb (Q7 ?_)))
 have hE:=(Zi hm).symm
 obtain ⟨hE0,hF1⟩:=Prod.mk.inj hE
 obtain ⟨hE1,hF2⟩:=Prod.mk.inj hF1
 obtain ⟨hE2,hE3⟩:=Prod.mk.inj hF2
 clear hE hF1 hF2
 replace hE0:=hE0.symm
 subst hE0
 replace hE1:=hE1.symm
 subst hE1
 replace hE2:=hE2.symm
 subst hE2
 replace hE3:=hE3.symm
 subst hE3
 refine Q23 69 2 Qf (Q23 52 5 Qe ?_)
 refine Q1r (Hr:=[_,_]) [1,0] Tryz.results52 (QW 6 Z Z Q6R Q9r Z Z) (QW 5 Z Z Q2H Q73 Z Z) ⟨none,0,0,none,0,0,Z,Z,Z⟩ (asK [] Z) Z Z (.inl Z)
 replace hm:=Qz hm j
 refine Q2 [4,3,2] (S':=V3 ..) Z (Qq (Q4 (Q5 (Q1 (QR 1 0 Z Z Z Zq Z Z Z (cs:=V5 ..) Z QQ Q1z Z Z (Q15 2 Z (fun q _=>?_)))))))
 subst q
 obtain ⟨⟨aG,aH,aI,aJ⟩,aD,hm⟩:=Q6 hm
 try dsimp only at hm
 refine wC [2] [0,1,3,4] Z fn_94 Z (Q9K N ((aA:Nat):Int) (⟨#[]⟩ : ByteArray) 0 0 aB s.length aC s _ _ _ _ aD) (asK [] Z) Z (H':=V4 ..) Z ?_
 rintro _ _ _ ⟨a1,a5,a6,a7,a8,a9,rfl,rfl,rfl⟩
 refine wP Z (wP Z (wS 6 0 Z Q6R (all':=[_,_]) Z (H':=V7 ..) Z (wS 5 0 Z Q2H (all':=[_,_]) Z (H':=V7 ..) Z (Q3 (Q4 (Q2 [3,2] (S':=[_,_]) Z (Qb ?_)))))))
 have hE:=(Zi hm).symm
 obtain ⟨hE0,hF1⟩:=Prod.mk.inj hE
 obtain ⟨hE1,hF2⟩:=Prod.mk.inj hF1
 obtain ⟨hE2,hE3⟩:=Prod.mk.inj hF2
 clear hE hF1 hF2
 replace hE0:=hE0.symm
 subst hE0
 replace hE1:=hE1.symm
 subst hE1
 replace hE2:=hE2.symm
 subst hE2
 replace hE3:=hE3.symm
 subst hE3
 refine Q1r (Hr:=[_,_]) [0,1] Tryz.results52 (QW 6 Z Z Q6R Q9r Z Z) (QW 5 Z Z Q2H Q73 Z Z) ⟨a1,a5,a6,a7,a8,a9,Z,Z,Z⟩ (asK [] Z) Z Z (.inl Z)
theorem Q4G (N:Nat)  (o2:List Qn) (o6:List Qp) (hm:Q3W N = some (o2,o6)):Q1o Tryz.prog 24 [] [] [] (fun v Φr Hr=>∃ (o0:OA) (o1:Nat) (o3:Nat) (o4:OA) (o5:Nat) (o7:Nat),v = .agg #[.slice o0 o3 o1,.slice o4 o7 o5] ∧ Φr = [] ∧ Hr = [.own 69 2 Qf (.slice o0 o3 o1) o2,.own 52 5 Qe (.slice o4 o7 o5) o6]):=by
 unfold Q3W at hm
 refine QD Tryz.func24 Z Tryz.ntmps24 Z (S:=[]) Z (fun C=>(Q5 (Q1 (QE Z Z Z Zq Z tZ_25 Z (fun g0=>(Q3 (Q4 (Q5 (Q1 ?_)))))))))
 obtain ⟨⟨v4_0,v4_1,v4_2,v4_3⟩,hc4,hm⟩:=Q6 hm
 try dsimp only at hm
 refine wC [] [0] Z fn_52 Z (Qaa N (⟨#[102,97,99,116,32,112,40,97,44,32,98,41,59,32,114,117,108,101,32,114,32,123,32,112,40,63,120,44,32,49,41,59,32,112,40,63,120,44,32,63,121,41,59,32,61,62,32,97,115,115,101,114,116,32,112,40,63,121,44,32,63,120,32,43,32,49,41,59,32,114,101,116,114,97,99,116,32,50,59,32,125]⟩ : ByteArray) _ _ _ _ hc4) (asK [] Z) Z (H':=[_]) Z ?_
 rintro _ _ _ ⟨p4_0,c4_1,c4_2,p4_3,c4_4,c4_5,rfl,rfl,rfl⟩
 refine wP Z (wP Z (wP Z (QE Z Z Z Zq Z tZ_25 Z (fun g1=>(QE Z Z Z Zq Z Q6S Z (fun g2=>(wS 1 0 Z Q6R (all':=[_,_]) Z (H':=V5 ..) Z (wS 0 0 Z Q2H (all':=[_,_]) Z (H':=V5 ..) Z (Q3 (Q4 (Q2 [1,0] (S':=[_,_]) Z (Q5 (Q1 (QR 1 0 Z Z Z Zq Z Z Z (cs:=[_,_]) Z Q6R Q9r Z Z (wS 4 0 Z Q6R (all':=[_,_]) Z (H':=V5 ..) Z ?_)))))))))))))))
 refine Q3 (Q4 (Q2 [0] (S':=[_]) Z (Qb ?_)))
 have hE:=(Zi hm).symm
 obtain ⟨hE0,hE1⟩:=Prod.mk.inj hE
 clear hE
 replace hE0:=hE0.symm
 subst hE0
 replace hE1:=hE1.symm
 subst hE1
 refine Ql (Hr:=[_,_]) [2,3] Tryz.results24 (QW 4 Z Z Q6R Q9r Z Z) ⟨p4_0,c4_1,c4_2,p4_3,c4_4,c4_5,Z,Z,Z⟩ (asK [] Z) Z Z (.inl Z)
theorem Q20 (N:Nat) (a0:Int) (a1:Int) (a2:Int)  (hm:Q2q N a0 a1 a2 = some ()):Q1o Tryz.prog 21 [.int .i64 a0,.int .i64 a1,.int .i64 a2] [] [] (fun v Φr Hr=>∃ (o0:Nat),v = .agg #[.int .i64 a0,.int .i64 0,.slice (some ⟨o0,0,none⟩) 2 2] ∧ Φr = [] ∧ Hr = [.blk o0 [.int .u8 1,.int .i64 a1,.string ((⟨#[]⟩ : ByteArray)),.int .u8 1,.int .i64 a2,.string ((⟨#[]⟩ : ByteArray))] 57]):=by
 unfold Q2q at hm
 refine QD Tryz.func21 Z Tryz.ntmps21 Z (S:=V3 ..) Z (fun C=>(Q5 (Q1 (QE Z Z Z Zq Z tZ_71 Z (fun g6=>(Q3 (Q4 (Q5 (Q1 (wP Z (wP Z (Q13 Z Z Z Zq Z Q2Y Q8x Z (out:=V3 ..) Z (wP Z (Q13 Z Z Z Zq Z Q2Y Q8x Z (out:=V3 ..) Z (Qy Z Z Z Zq Z Q5a Q1H Q2Y Z (zs:=[.int .u8 0,.int .i64 0,.string ((⟨#[]⟩ : ByteArray)),.int .u8 0,.int .i64 0,.string ((⟨#[]⟩ : ByteArray))]) (by kernel_rfl) Z (out:=V6 ..) Z (fun g12=>?_))))))))))))))))
 refine Q13 Z Z Z Zq Z tZ_71 tP_71 Z (out:=V3 ..) Z (wS 1 0 Z Q4s (all':=V3 ..) Z (H':=[_,_]) Z (Q3 (Q4 (Q2 [6] (S':=[_]) Z (Qb ?_)))))
 have hE:=(Zi hm).symm
 refine Ql (Hr:=[_]) [0] Tryz.results21 (QW 1 Z Z Q4s tA_71 Z Z) ⟨g12,Z,Z,Z⟩ (asK [] Z) Z Z (.inl Z)
theorem w_value_named_s (N:Nat) (a0:ByteArray) (o0:Bool) (hm:Qa1 N a0 = some o0):Q1o Tryz.prog 107 [.string a0] [] [] (fun v Φr Hr=>v = .bool o0 ∧ Φr = [] ∧ Hr = []):=by
 unfold Qa1 at hm
 refine QD Tryz.func107 Z Tryz.ntmps107 Z (S:=[_]) Z (fun C=>(Q5 (Q1 (wP Z (Q3 (Q4 (Q2 [0] (S':=[_]) Z (Q5 ?_))))))))
 obtain ⟨a6,hm,hLj_1⟩:=Q6 hm
 unfold Qal at hm
 refine QI (σ:=Bool) (fun j=>a6 = j) (fun j=>[(2,.bool j)]) (fun j=>[]) (fun j=>[]) ?_ ?_
 refine Q1 (wP Z (wP Z (wP Z ?_)))
 refine Qt (d:=5) (S':=V3 ..) Z Z (fun a1=>?_) (fun a1=>?_)
 replace hm:=QA hm a1
 refine wP Z (Q1B Z Z Z Zq (Q3y Z Z Q64) (wP Z (QH (d:=8) (v':=.bool (decide (a0.size ≤ 24))) (S':=V6 ..) Z Z (natle (a:=a0.size) (b:=24)) (wP Z (wP Z ?_)))))
 refine Qt (d:=10) (S':=V8 ..) Z Z (fun q=>?_) (fun q=>?_)
 replace hm:=QA hm q
 refine wP Z ?_
 obtain ⟨a8,a7,hm⟩:=Q6 hm
 refine Q1B Z Z Z Zq (Q3P 0 Z Z Z Z a7 Q64) (wC [] [] Z fn_141 Z (sh_IndexByte (⟨#[97,98,99,100,101,102,103,104,105,106,107,108,109,110,111,112,113,114,115,116,117,118,119,120,121,122]⟩ : ByteArray) ((a8.toNat:Nat):Int) ) (asK [] Z) Z (H':=[]) Z ?_)
 rintro _ _ _ ⟨rfl,rfl,rfl⟩
 refine wP Z (wP Z (wP Z ?_))
 refine Qt (d:=16) (S':=V14 ..) Z Z (fun s=>?_) (fun s=>?_)
 replace hm:=QA hm s
 refine wP Z ?_
 obtain ⟨z,hm⟩:=Qu hm
 refine wC [] [] Z fn_142 Z (sh_Trim a0 (⟨#[97,98,99,100,101,102,103,104,105,106,107,108,109,110,111,112,113,114,115,116,117,118,119,120,121,122,48,49,50,51,52,53,54,55,56,57,95]⟩ : ByteArray) (by decide) (ascii_of_all (by decide)) z) (asK [] Z) Z (H':=[]) Z ?_
 rintro _ _ _ ⟨rfl,rfl,rfl⟩
 refine wP Z (wP Z (wP Z (Q3 ?_)))
 have hE:=(Zi hm).symm
 refine Q9 ((⟨(Lib.trimS a0.data.toList (⟨#[97,98,99,100,101,102,103,104,105,106,107,108,109,110,111,112,113,114,115,116,117,118,119,120,121,122,48,49,50,51,52,53,54,55,56,57,95]⟩ : ByteArray).data.toList).toArray⟩ : ByteArray).toList == (⟨#[]⟩ : ByteArray).toList) hE [2] Z (asK [] Z) Z
 replace hm:=Qz hm s
 refine wO Z (wO Z (wO Z (wP Z (wP Z (Q3 ?_)))))
 have hE:=(Zi hm).symm
 refine Q9 false hE [2] Z (asK [] Z) Z
 replace hm:=Qz hm q
 refine wO Z (wO Z (wO Z (wO Z (wP Z (wP Z (wO Z (wO Z (wO Z (wP Z (wP Z (Q3 ?_)))))))))))
 have hE:=(Zi hm).symm
 refine Q9 false hE [2] Z (asK [] Z) Z
 replace hm:=Qz hm a1
 refine wO Z (wO Z (wO Z (wP Z (wP Z (wO Z (wO Z (wO Z (wO Z (wP Z (wP Z (wO Z (wO Z (wO Z ?_)))))))))))))
 refine wP Z (wP Z (Q3 ?_))
 have hE:=(Zi hm).symm
 refine Q9 false hE [2] Z (asK [] Z) Z
 rintro j hE
 try dsimp only
 have hm:=hLj_1
 rw [hE] at hm
 refine Qb ?_
 have hE:=(Zi hm).symm
 replace hE:=hE.symm
 subst hE
 refine Ql (Hr:=[]) [] Tryz.results107 (Qc Z) ⟨Z,Z,Z⟩ (asK [] Z) Z Z (.inl Z)
theorem Q4K (N:Nat) (a0:Int) (a1:Int) (a2:ByteArray) (o0:Bool) (hm:Q4a N a0 a1 a2 = some o0):Q1o Tryz.prog 64 [.agg #[.int .u8 a0,.int .i64 a1,.string a2]] [] [] (fun v Φr Hr=>v = .bool o0 ∧ Φr = [] ∧ Hr = []):=by
 unfold Q4a at hm
 refine QD Tryz.func64 Z Tryz.ntmps64 Z (S:=[_]) Z (fun C=>(Q5 (Q1 (wB Z (fun g1=>(wP Z (Q3 (Q4 (Q2 [1] (S':=[_]) Z (Q5 (Q5 (Q1 (wF Z tF_57_0 (wD 0 0 Z tS_55 tA_55 Z (Q3 ?_)))))))))))))))
 refine Q4 (Q2 [4,1] (S':=[_,_]) Z (Qw (Q5 (Q1 (wP Z (wP Z (Q3 (Q4 (Q2 [5,4,1] (S':=V3 ..) Z ?_)))))))))
 refine Qj Z (fun hb5=>?_) (fun hb5=>?_)
 replace hm:=QA hm hb5
 refine Q2 [1] (S':=[_]) Z (Q5 (Q1 (wF Z tF_57_2 (wD 0 2 Z Q27 Q2E Z (wP Z (wP Z (Q3 (Q4 (Q2 [2] (S':=[_]) Z (Qb (Qg (Q7 ?_))))))))))))
 have hE:=(Zi hm).symm
 replace hE:=hE.symm
 subst hE
 refine Ql (Hr:=[]) [] Tryz.results64 (Qc Z) ⟨Z,Z,Z⟩ (asK [] Z) Z Z (.inl Z)
 replace hm:=Qz hm hb5
 refine Q2 [4,1] (S':=[_,_]) Z (Q5 (Q1 (wP Z (wP Z (Q3 (Q4 (Q2 [10,1] (S':=[_,_]) Z ?_)))))))
 refine Qj Z (fun hb10=>?_) (fun hb10=>?_)
 replace hm:=QA hm hb10
 refine Q2 [1] (S':=[_]) Z (Q5 (Q1 (wF Z Q31 (wD 0 1 Z tS_2 tA_2 Z (wP Z (wP Z ?_))))))
 refine Qt (d:=15) (S':=V4 ..) Z Z (fun hs15=>?_) (fun hs15=>?_)
 replace hm:=QA hm hs15
 refine wF Z tF_57_2 (wD 0 2 Z Q27 Q2E Z ?_)
 obtain ⟨v18,hc18,hm⟩:=Q6 hm
 refine wC [] [0] Z fn_107 Z (w_value_named_s N a2 _ hc18) (asK [] Z) Z (H':=[_]) Z ?_
 rintro _ _ _ ⟨rfl,rfl,rfl⟩
 refine wP Z (wP Z (Q3 (Q4 (Q2 [2] (S':=[_]) Z (Qb (Qg (Q7 ?_)))))))
 have hE:=(Zi hm).symm
 replace hE:=hE.symm
 subst hE
 refine Ql (Hr:=[]) [] Tryz.results64 (Qc Z) ⟨Z,Z,Z⟩ (asK [] Z) Z Z (.inl Z)
 replace hm:=Qz hm hs15
 refine wO Z (wO Z (wO Z (wP Z (wP Z (Q3 (Q4 (Q2 [2] (S':=[_]) Z (Qb (Qg (Q7 ?_))))))))))
 have hE:=(Zi hm).symm
 replace hE:=hE.symm
 subst hE
 refine Ql (Hr:=[]) [] Tryz.results64 (Qc Z) ⟨Z,Z,Z⟩ (asK [] Z) Z Z (.inl Z)
 replace hm:=Qz hm hb10
 refine Q2 [] (S':=[]) Z (Qq (Qh (Q4 (Q5 (Q1 (wP Z (Q3 (Q4 (Qb ?_)))))))))
 have hE:=(Zi hm).symm
 replace hE:=hE.symm
 subst hE
 refine Ql (Hr:=[]) [] Tryz.results64 (Qc Z) ⟨Z,Z,Z⟩ (asK [] Z) Z Z (.inl Z)
theorem Q68 (N:Nat) (a0:ByteArray) (o0:Bool) (hm:Q8j N a0 = some o0):Q1o Tryz.prog 58 [.string a0] [] [] (fun v Φr Hr=>v = .bool o0 ∧ Φr = [] ∧ Hr = []):=by
 unfold Q8j at hm
 refine QD Tryz.func58 Z Tryz.ntmps58 Z (S:=[_]) Z (fun C=>(Q5 (Q1 (wP Z (Q3 (Q4 (Q2 [0] (S':=[_]) Z (Q5 (Q1 (wP Z (Q13 Z Z Z Zq Z Q2Y Q8x Z (out:=V3 ..) Z ?_)))))))))))
 obtain ⟨v5,hc5,hm⟩:=Q6 hm
 refine wC [] [] Z fn_64 Z (Q4K N 2 0 a0 _ hc5) (asK [] Z) Z (H':=[]) Z ?_
 rintro _ _ _ ⟨rfl,rfl,rfl⟩
 refine wP Z (Q3 (Q4 (Q2 [2] (S':=[_]) Z (Qb ?_))))
 have hE:=(Zi hm).symm
 replace hE:=hE.symm
 subst hE
 refine Ql (Hr:=[]) [] Tryz.results58 (Qc Z) ⟨Z,Z,Z⟩ (asK [] Z) Z Z (.inl Z)
theorem QaT (N:Nat) (a0:ByteArray) (a1:Int) (qg0:Nat) (a2:ByteArray)  (hm:Q6z N a0 a1 a2 = some ()):Q1o Tryz.prog 99 [.agg #[.string a0,.int .i64 a1],.pointer (some ⟨qg0,0,none⟩)] [] [.blk qg0 [.string a2] 9] (fun v Φr Hr=>v = .bool (a0.toList == a2.toList) ∧ Φr = [] ∧ Hr = [.blk qg0 [.string a2] 9]):=by
 unfold Q6z at hm
 refine QD Tryz.func99 Z Tryz.ntmps99 Z (S:=[_,_]) Z (fun C=>(Q5 (Q1 (wB Z (fun g2=>(wP Z (Q3 (Q4 (Q2 [2,1] (S':=[_,_]) Z (Q5 (Q1 (wF Z QaO (wD 0 0 Z Q27 Q2E Z (wD 1 0 Z Q27 Q2E Z (wP Z ?_)))))))))))))))
 refine wP Z (Q3 (Q4 (Q2 [3] (S':=[_]) Z (Qb ?_))))
 have hE:=(Zi hm).symm
 refine Ql (Hr:=[_]) [1] Tryz.results99 (Qc Z) ⟨Z,Z,Z⟩ (asK [] Z) Z Z (.inl Z)
theorem Q9O (N:Nat) (a0:OA) (a5:Nat) (l0:List Qn) (q:Nat) (a1:ByteArray) (o0:Int) (hm:Q5y N l0 a1 = some o0):Q1o Tryz.prog 98 [.slice a0 l0.length a5,.func (.func 99) #[] #[.pointer (some ⟨q,0,none⟩)]] [.sli 2 Qf a0 a5 l0] [.blk q [.string a1] 9] (fun v Φr Hr=>v = .int .i64 o0 ∧ Φr = [] ∧ Hr = [.blk q [.string a1] 9]):=by
 unfold Q5y at hm
 refine QD Tryz.func98 Z Tryz.ntmps98 Z (S:=[_,_]) Z (fun C=>(Q5 (Q1 (wP Z (Q3 (Q4 (Q2 [0,1] (S':=[_,_]) Z (Q5 ?_))))))))
 obtain ⟨a7,hm,hLj_1⟩:=Q1w hm
 refine QI (σ:=Unit) (fun _=>a7 = .inl ()) (fun _=>[]) (fun _=>[]) (fun _=>[.blk q [.string a1] 9]) ?_ ?_
 refine Q5 (Q1 (wP Z (wN Z Q7z (wP Z (Q3 (Q4 (Q2 [8,7,0,1] (S':=V4 ..) Z (Qw (Q1E (σ:=Nat × Nat) (fun (s,j)=>Q1M (Q4n N l0 a1) s j = some a7) (fun (s,j)=>s) (fun (s,j)=>[(8,.int .i64 ((j:Nat):Int)),(7,.int .i64 ((l0.length:Nat):Int)),(0,.slice a0 l0.length a5),(1,.func (.func 99) #[] #[.pointer (some ⟨q,0,none⟩)])]) (fun (s,j)=>[.sli 2 Qf a0 a5 l0]) (fun (s,j)=>[.blk q [.string a1] 9]) (N,0) hm [8,7,0,1] Z (asK [0] Z) Z (fun s_ hm=>?_))))))))))
 obtain ⟨s,j⟩:=s_
 try dsimp only at hm ⊢
 obtain ⟨aJ,aK,aA,hq,hLu1⟩:=Q1e hm
 clear hm
 subst aA
 replace hm:=hq
 clear hq
 unfold Q4n at hm
 try dsimp only at hm
 refine Q5 (Q1 (wP Z (QH (d:=9) (v':=.bool (decide (j < l0.length))) (S':=V4 ..) Z Z (Q2z (a:=j) (b:=l0.length)) (Q3 (Q4 (Q5 ?_))))))
 refine Qj Z (fun a9=>?_) (fun a9=>?_)
 replace hm:=QA hm a9
 refine Q2 [8,7,0,1] (S':=V4 ..) Z (Qq (Q4 (Q5 (Qw (Q5 (Q1 (wP Z (wP Z (Q3 (Q4 (Q2 [5,8,7,0,1] (S':=V5 ..) Z (Q5 (Q1 ?_)))))))))))))
 refine wP Z (wP Z (wP Z ?_))
 obtain ⟨aB,aC,hm⟩:=Q6 hm
 refine Q1F 0 j Z Z Z Zq Z Z Z Z Z aC Q7z tS_69 (fun aL aM aI aG=>(Q22 Q37 1 Z (fun aN aD _=>?_)))
 subst aD
 refine Q21 0 0 Z Z Z Zq Z Z Z (cs:=[_,_]) Z tS_69 tA_69 Z Z ?_
 obtain ⟨_,aE,hm⟩:=Q6 hm
 try dsimp only at hm
 refine Q1R [0] [] Z Z Z Zq Z Z Z fn_99 Z Z (QaT N aB.name aB.fields q a1 aE) (asK [] Z) Z (H':=[]) Z ?_
 rintro _ _ _ ⟨rfl,rfl,rfl⟩
 refine Q3 (Q4 (Q2 [16,5,8,7,0,1] (S':=V6 ..) Z ?_))
 refine Qj Z (fun z=>?_) (fun z=>?_)
 replace hm:=QA hm z
 refine Q2 [5] (S':=[_]) Z (Q5 (Q1 (wP Z (wP Z (Q3 (Q4 (Q2 [4] (S':=[_]) Z (Qb (Qg (Q7 (Q7 (Qg (Q7 ?_)))))))))))))
 have hE:=(Zi hm).symm
 replace hE:=Qv hLu1 hE
 replace hE:=Qv hLj_1 hE
 replace hE:=hE.symm
 subst hE
 refine Ql (Hr:=[_]) [0] Tryz.results98 (Qc Z) ⟨Z,Z,Z⟩ (asK [] Z) Z Z (.inl Z)
 replace hm:=Qz hm z
 refine Q2 [8,7,0,1] (S':=V4 ..) Z (Qq (Qh (Q4 (Q1 (wP Z ?_)))))
 obtain ⟨aF,hm⟩:=Qu hm
 refine QH (d:=18) (v':=.int .i64 ((j + 1:Nat):Int)) (S':=V4 ..) Z Z (Q1J (a:=j) (b:=1) aF) (Q1b (S':=V4 ..) Z Z Z Z Z (Q3 ?_))
 have hE:=(Zi hm).symm
 replace hE:=QO hLu1 hE
 refine Q1a (_,j + 1) (Nat.lt_succ_self _) hE [8,7,0,1] Z (asK [2] Z) Z
 replace hm:=Qz hm a9
 refine Q2 [] (S':=[]) Z (Q1x (Qk (Qk (QJ ?_))))
 have hE:=(Zi hm).symm
 replace hE:=Qv hLu1 hE
 refine Q9 () hE [] Z (asK [] Z) Z
 rintro _ hE
 try dsimp only
 have hm:=QO hLj_1 hE
 try dsimp only at hm
 refine Q5 (Q1 (wP Z (Q3 (Q4 (Qb ?_)))))
 have hE:=(Zi hm).symm
 replace hE:=hE.symm
 subst hE
 refine Ql (Hr:=[_]) [0] Tryz.results98 (Qc Z) ⟨Z,Z,Z⟩ (asK [] Z) Z Z (.inl Z)
theorem Qbm (N:Nat) (qg0:Nat) (qp1:OA) (qc2:Nat) (l0:List Qn) (qp3:OA) (qc4:Nat) (l1:List Qp) (a2:Int) (a3:Int) (a4:ByteArray) (o0:Int) (hm:Q7q N l0 l1 a2 a3 a4 = some o0):Q1o Tryz.prog 59 [.pointer (some ⟨qg0,0,none⟩),.string a4] [.sli 2 Qf qp1 qc2 l0,.sli 5 Qe qp3 qc4 l1] [.blk qg0 [.slice qp1 l0.length qc2,.slice qp3 l1.length qc4,.int .i64 a2,.int .i64 a3] 124] (fun v Φr Hr=>v = .int .i64 o0 ∧ Φr = [.sli 2 Qf qp1 qc2 l0,.sli 5 Qe qp3 qc4 l1] ∧ Hr = [.blk qg0 [.slice qp1 l0.length qc2,.slice qp3 l1.length qc4,.int .i64 a2,.int .i64 a3] 124]):=by
 unfold Q7q at hm
 refine QD Tryz.func59 Z Tryz.ntmps59 Z (S:=[_,_]) Z (fun C=>(Q5 (Q1 (wB Z (fun g3=>(wP Z (Q3 (Q4 (Q2 [3,0] (S':=[_,_]) Z (Q5 (Q1 (wP Z (wP Z (wF Z tF_122_0 (wF Z Q4V ?_)))))))))))))))
 refine wD 1 0 Z Q8y Q91 Z (QY Z Z Z Zq Z Z ?_)
 obtain ⟨v11,hc11,hm⟩:=Q6 hm
 refine wC [0] [1] Z fn_98 Z (Q9O N qp1 qc2 l0 g3 a4 _ hc11) (asK [0] Z) Z (H':=[_]) Z ?_
 rintro _ _ _ ⟨rfl,rfl,rfl⟩
 refine wP Z (Q3 (Q4 (Q2 [4] (S':=[_]) Z (Qb ?_))))
 have hE:=(Zi hm).symm
 replace hE:=hE.symm
 subst hE
 refine Ql (Hr:=[_]) [1] Tryz.results59 (Qc Z) ⟨Z,Z,Z⟩ (asK [0,1] Z) Z Z (.inl Z)
theorem QaU (N:Nat) (a0:ByteArray) (a1:Int) (a2:Int) (qp0:OA) (qc1:Nat) (l3:List QN) (qp2:OA) (qc3:Nat) (l4:List Q1c) (qg4:Nat) (a5:ByteArray)  (hm:Q6A N a0 a1 a2 l3 l4 a5 = some ()):Q1o Tryz.prog 101 [.agg #[.string a0,.int .i64 a1,.int .i64 a2,.slice qp0 l3.length qc1,.slice qp2 l4.length qc3],.pointer (some ⟨qg4,0,none⟩)] [.sli 10 QZ qp0 qc1 l3,.sli 4 Q1n qp2 qc3 l4] [.blk qg4 [.string a5] 9] (fun v Φr Hr=>v = .bool (a0.toList == a5.toList) ∧ Φr = [] ∧ Hr = [.blk qg4 [.string a5] 9]):=by
 unfold Q6A at hm
 refine QD Tryz.func101 Z Tryz.ntmps101 Z (S:=[_,_]) Z (fun C=>(Q5 (Q1 (wB Z (fun g2=>(wP Z (Q3 (Q4 (Q2 [2,1] (S':=[_,_]) Z (Q5 (Q1 (wF Z tF_52_0 (wD 0 0 Z Q27 Q2E Z (wD 1 0 Z Q27 Q2E Z (wP Z ?_)))))))))))))))
 refine wP Z (Q3 (Q4 (Q2 [3] (S':=[_]) Z (Qb ?_))))
 have hE:=(Zi hm).symm
 refine Ql (Hr:=[_]) [1] Tryz.results101 (Qc Z) ⟨Z,Z,Z⟩ (asK [] Z) Z Z (.inl Z)
theorem Q9N (N:Nat) (a5:OA) (a6:Nat) (l0:List Qp) (q:Nat) (a1:ByteArray) (o0:Int) (hm:Q5x N l0 a1 = some o0):Q1o Tryz.prog 100 [.slice a5 l0.length a6,.func (.func 101) #[] #[.pointer (some ⟨q,0,none⟩)]] [.sli 5 Qe a5 a6 l0] [.blk q [.string a1] 9] (fun v Φr Hr=>v = .int .i64 o0 ∧ Φr = [] ∧ Hr = [.blk q [.string a1] 9]):=by
 unfold Q5x at hm
 refine QD Tryz.func100 Z Tryz.ntmps100 Z (S:=[_,_]) Z (fun C=>(Q5 (Q1 (wP Z (Q3 (Q4 (Q2 [0,1] (S':=[_,_]) Z (Q5 ?_))))))))
 obtain ⟨a9,hm,hLj_1⟩:=Q1w hm
 refine QI (σ:=Unit) (fun _=>a9 = .inl ()) (fun _=>[]) (fun _=>[]) (fun _=>[.blk q [.string a1] 9]) ?_ ?_
 refine Q5 (Q1 (wP Z (wN Z Q7K (wP Z (Q3 (Q4 (Q2 [8,7,0,1] (S':=V4 ..) Z (Qw (Q1E (σ:=Nat × Nat) (fun (s,j)=>Q1M (Q4m N l0 a1) s j = some a9) (fun (s,j)=>s) (fun (s,j)=>[(8,.int .i64 ((j:Nat):Int)),(7,.int .i64 ((l0.length:Nat):Int)),(0,.slice a5 l0.length a6),(1,.func (.func 101) #[] #[.pointer (some ⟨q,0,none⟩)])]) (fun (s,j)=>[.sli 5 Qe a5 a6 l0]) (fun (s,j)=>[.blk q [.string a1] 9]) (N,0) hm [8,7,0,1] Z (asK [0] Z) Z (fun s_ hm=>?_))))))))))
 obtain ⟨s,j⟩:=s_
 try dsimp only at hm ⊢
 obtain ⟨aK,aL,aC,hq,hLu1⟩:=Q1e hm
 clear hm
 subst aC
 replace hm:=hq
 clear hq
 unfold Q4m at hm
 try dsimp only at hm
 refine Q5 (Q1 (wP Z (QH (d:=9) (v':=.bool (decide (j < l0.length))) (S':=V4 ..) Z Z (Q2z (a:=j) (b:=l0.length)) (Q3 (Q4 (Q5 ?_))))))
 refine Qj Z (fun aB=>?_) (fun aB=>?_)
 replace hm:=QA hm aB
 refine Q2 [8,7,0,1] (S':=V4 ..) Z (Qq (Q4 (Q5 (Qw (Q5 (Q1 (wP Z (wP Z (Q3 (Q4 (Q2 [5,8,7,0,1] (S':=V5 ..) Z (Q5 (Q1 ?_)))))))))))))
 refine wP Z (wP Z (wP Z ?_))
 obtain ⟨z,aD,hm⟩:=Q6 hm
 refine Q1F 0 j Z Z Z Zq Z Z Z Z Z aD Q7K Q4W (fun aM aN aJ aH=>(Q22 Q3T 1 Z (fun a8 aE _=>?_)))
 subst aE
 refine Q21 2 0 Z Z Z Zq Z Z Z (cs:=V5 ..) Z Q4W tA_52 Z Z ?_
 obtain ⟨_,aF,hm⟩:=Q6 hm
 try dsimp only at hm
 refine Q1R [0] [] Z Z Z Zq Z Z Z fn_101 Z Z (QaU N z.name z.salience z.vars a8.1.1 a8.1.2 z.conds a8.2.1 a8.2.2 z.acts q a1 aF) (asK [0,1] Z) Z (H':=[]) Z ?_
 rintro _ _ _ ⟨rfl,rfl,rfl⟩
 refine Q3 (Q4 (Q2 [16,5,8,7,0,1] (S':=V6 ..) Z ?_))
 refine Qj Z (fun a0=>?_) (fun a0=>?_)
 replace hm:=QA hm a0
 refine Q2 [5] (S':=[_]) Z (Q5 (Q1 (wP Z (wP Z (Q3 (Q4 (Q2 [4] (S':=[_]) Z (Qb (Qg (Q7 (Q7 (Qg (Q7 ?_)))))))))))))
 have hE:=(Zi hm).symm
 replace hE:=Qv hLu1 hE
 replace hE:=Qv hLj_1 hE
 replace hE:=hE.symm
 subst hE
 refine Ql (Hr:=[_]) [0] Tryz.results100 (Qc Z) ⟨Z,Z,Z⟩ (asK [] Z) Z Z (.inl Z)
 replace hm:=Qz hm a0
 refine Q2 [8,7,0,1] (S':=V4 ..) Z (Qq (Qh (Q4 (Q1 (wP Z ?_)))))
 obtain ⟨aG,hm⟩:=Qu hm
 refine QH (d:=18) (v':=.int .i64 ((j + 1:Nat):Int)) (S':=V4 ..) Z Z (Q1J (a:=j) (b:=1) aG) (Q1b (S':=V4 ..) Z Z Z Z Z (Q3 ?_))
 have hE:=(Zi hm).symm
 replace hE:=QO hLu1 hE
 refine Q1a (_,j + 1) (Nat.lt_succ_self _) hE [8,7,0,1] Z (asK [4] Z) Z
 replace hm:=Qz hm aB
 refine Q2 [] (S':=[]) Z (Q1x (Qk (Qk (QJ ?_))))
 have hE:=(Zi hm).symm
 replace hE:=Qv hLu1 hE
 refine Q9 () hE [] Z (asK [] Z) Z
 rintro _ hE
 try dsimp only
 have hm:=QO hLj_1 hE
 try dsimp only at hm
 refine Q5 (Q1 (wP Z (Q3 (Q4 (Qb ?_)))))
 have hE:=(Zi hm).symm
 replace hE:=hE.symm
 subst hE
 refine Ql (Hr:=[_]) [0] Tryz.results100 (Qc Z) ⟨Z,Z,Z⟩ (asK [] Z) Z Z (.inl Z)
theorem Q8z (N:Nat) (qg0:Nat) (qp1:OA) (qc2:Nat) (l0:List Qn) (qp3:OA) (qc4:Nat) (l1:List Qp) (a2:Int) (a3:Int) (a4:ByteArray) (o0:Int) (hm:Q7r N l0 l1 a2 a3 a4 = some o0):Q1o Tryz.prog 60 [.pointer (some ⟨qg0,0,none⟩),.string a4] [.sli 2 Qf qp1 qc2 l0,.sli 5 Qe qp3 qc4 l1] [.blk qg0 [.slice qp1 l0.length qc2,.slice qp3 l1.length qc4,.int .i64 a2,.int .i64 a3] 124] (fun v Φr Hr=>v = .int .i64 o0 ∧ Φr = [.sli 2 Qf qp1 qc2 l0,.sli 5 Qe qp3 qc4 l1] ∧ Hr = [.blk qg0 [.slice qp1 l0.length qc2,.slice qp3 l1.length qc4,.int .i64 a2,.int .i64 a3] 124]):=by
 unfold Q7r at hm
 refine QD Tryz.func60 Z Tryz.ntmps60 Z (S:=[_,_]) Z (fun C=>(Q5 (Q1 (wB Z (fun g3=>(wP Z (Q3 (Q4 (Q2 [3,0] (S':=[_,_]) Z (Q5 (Q1 (wP Z (wP Z (wF Z tF_122_0 (wF Z Q6w ?_)))))))))))))))
 refine wD 1 1 Z Q9T tA_23 Z (QY Z Z Z Zq Z Z ?_)
 obtain ⟨v11,hc11,hm⟩:=Q6 hm
 refine wC [0] [1] Z fn_100 Z (Q9N N qp3 qc4 l1 g3 a4 _ hc11) (asK [1] Z) Z (H':=[_]) Z ?_
 rintro _ _ _ ⟨rfl,rfl,rfl⟩
 refine wP Z (Q3 (Q4 (Q2 [4] (S':=[_]) Z (Qb ?_))))
 have hE:=(Zi hm).symm
 replace hE:=hE.symm
 subst hE
 refine Ql (Hr:=[_]) [1] Tryz.results60 (Qc Z) ⟨Z,Z,Z⟩ (asK [0,1] Z) Z Z (.inl Z)
theorem Q8B (N:Nat) (a1:Nat) (q:OA) (s:Nat) (l0:List Qn) (z:OA) (a0:Nat) (l1:List Qp) (a2:Int) (a3:Int) (a4:Int) (a5:Int) (o0:Bool) (hm:Q5O N l0 l1 a2 a3 a4 a5 = some o0):Q1o Tryz.prog 135 [.pointer (some ⟨a1,0,none⟩),.int .i64 a4,.int .i64 a5] [.sli 2 Qf q s l0,.sli 5 Qe z a0 l1] [.blk a1 [.slice q l0.length s,.slice z l1.length a0,.int .i64 a2,.int .i64 a3] 124] (fun v Φr Hr=>v = .bool o0 ∧ Φr = [.sli 2 Qf q s l0,.sli 5 Qe z a0 l1] ∧ Hr = [.blk a1 [.slice q l0.length s,.slice z l1.length a0,.int .i64 a2,.int .i64 a3] 124]):=by
 unfold Q5O at hm
 refine QD Tryz.func135 Z Tryz.ntmps135 Z (S:=V3 ..) Z (fun C=>(Q5 (Q1 (wP Z (Q3 (Q4 (Q2 [0,1,2] (S':=V3 ..) Z (Q5 (Q1 (wP Z (wP Z (wP Z ?_))))))))))))
 refine Qt (d:=9) (S':=V5 ..) Z Z (fun a6=>?_) (fun a6=>?_)
 replace hm:=QA hm a6
 refine wP Z (wP Z (wP Z (wF Z Qbl (wF Z tF_122_0 (wF Z Q4V (wD 0 0 Z Q8y Q91 Z (wN Z Q7z (wP Z (wP Z (wP Z ?_))))))))))
 refine Qt (d:=20) (S':=V16 ..) Z Z (fun j=>?_) (fun j=>?_)
 replace hm:=QA hm j
 refine wP Z (wP Z (wF Z Qbl (wF Z tF_122_0 (wF Z Q4V (wD 0 0 Z Q8y Q91 Z (wP Z ?_))))))
 obtain ⟨a9,hm⟩:=Qu hm
 obtain ⟨aG,aA,hm⟩:=Q6 hm
 refine Q1F 0 a4.toNat Z Z Z Zq Z Z Z Z (Q1G a9) aA Q7z tS_69 (fun aH aI aF aC=>(Q22 Q37 1 Z (fun aJ aB _=>?_)))
 subst aB
 refine wF Z Q97 (Q21 0 1 Z Z Z Zq Z Z Z (cs:=[_]) Z Q1A Q1N Z Z (wP Z (wP Z (wP Z (wP Z (Q3 (Q4 (Q2 [6] (S':=[_]) Z (Qb ?_)))))))))
 have hE:=(Zi hm).symm
 replace hE:=hE.symm
 subst hE
 refine Ql (Hr:=[_]) [0] Tryz.results135 (Qc Z) ⟨Z,Z,Z⟩ (asK [2,3] Z) Z Z (.inl Z)
 replace hm:=Qz hm j
 refine wO Z (wO Z (wO Z (wO Z (wO Z (wO Z (wO Z (wO Z (wO Z (wO Z (wO Z (wO Z (wP Z (wP Z ?_)))))))))))))
 refine Q3 (Q4 (Q2 [6] (S':=[_]) Z (Qb ?_)))
 have hE:=(Zi hm).symm
 replace hE:=hE.symm
 subst hE
 refine Ql (Hr:=[_]) [0] Tryz.results135 (Qc Z) ⟨Z,Z,Z⟩ (asK [0,1] Z) Z Z (.inl Z)
 replace hm:=Qz hm a6
 refine wO Z (wO Z (wO Z (wO Z (wO Z (wO Z (wO Z (wO Z (wO Z (wP Z (wP Z (wO Z (wO Z (wO Z ?_)))))))))))))
 refine wO Z (wO Z (wO Z (wO Z (wO Z (wO Z (wO Z (wO Z (wO Z (wP Z (wP Z (Q3 (Q4 (Q2 [6] (S':=[_]) Z ?_)))))))))))))
 refine Qb ?_
 have hE:=(Zi hm).symm
 replace hE:=hE.symm
 subst hE
 refine Ql (Hr:=[_]) [0] Tryz.results135 (Qc Z) ⟨Z,Z,Z⟩ (asK [0,1] Z) Z Z (.inl Z)
theorem Q4J (N:Nat) (a0:Int) (a1:Int) (a2:Int) (a3:ByteArray) (a4:Int) (a5:Int) (aD:OA) (aE:Nat) (l6:List Qo) (a7:Bool) (a8:Bool) (a9:Bool) (o0:Bool) (hm:Q6f N a0 a1 a2 a3 a4 a5 l6 a7 a8 a9 = some o0):Q1o Tryz.prog 136 [.agg #[.int .u8 a0,.int .u8 a1,.int .i64 a2,.string a3,.int .i64 a4,.int .u8 a5,.slice aD l6.length aE],.bool a7,.bool a8,.bool a9] [.sli 7 QB aD aE l6] [] (fun v Φr Hr=>v = .bool o0 ∧ Φr = [] ∧ Hr = []):=by
 unfold Q6f at hm
 refine QD Tryz.func136 Z Tryz.ntmps136 Z (S:=V4 ..) Z (fun C=>(Q5 (Q1 (wB Z (fun g4=>(wP Z (Q3 (Q4 (Q2 [4,1,2,3] (S':=V4 ..) Z (Q5 ?_))))))))))
 obtain ⟨aF,hm,hLj_1⟩:=Q6 hm
 unfold Qaj at hm
 refine QI (σ:=Bool) (fun s=>aF = s) (fun s=>[(8,.bool s)]) (fun s=>[]) (fun s=>[]) ?_ ?_
 refine Q1 (wP Z (wP Z ?_))
 refine Qt (d:=10) (S':=V5 ..) Z Z (fun aB=>?_) (fun aB=>?_)
 replace hm:=QA hm aB
 refine wO Z (wO Z (wO Z (wO Z (wP Z (wP Z (wP Z (wP Z ?_)))))))
 refine Qt (d:=18) (S':=V13 ..) Z Z (fun z=>?_) (fun z=>?_)
 replace hm:=QA hm z
 refine wO Z (wO Z (wO Z (wP Z (wP Z (wP Z (wP Z (wP Z ?_)))))))
 refine Qt (d:=26) (S':=V21 ..) Z Z (fun j=>?_) (fun j=>?_)
 replace hm:=QA hm j
 refine wO Z (wO Z (wO Z (wO Z (wO Z (wO Z (wO Z (wO Z (wO Z (wP Z (wP Z (wP Z (Q3 ?_))))))))))))
 have hE:=(Zi hm).symm
 refine Qs [] Z (H':=[]) Z ?_
 refine Q9 true hE [8] Z (asK [] Z) Z
 replace hm:=Qz hm j
 refine wF Z Q96 (wD 0 5 Z tS_62 tA_62 Z (wP Z (wP Z ?_)))
 refine Qt (d:=30) (S':=V25 ..) Z Z (fun q=>?_) (fun q=>?_)
 replace hm:=QA hm q
 refine wF Z QaM (wD 0 6 Z Q92 Q9s Z (wN Z Q66 (wP Z (QH (d:=34) (v':=.bool (l6.length == 0)) (S':=V29 ..) Z Z (Q3c (a:=l6.length) (b:=0)) (wP Z (wP Z (wP Z (wP Z (Q3 ?_)))))))))
 have hE:=(Zi hm).symm
 refine Qs [] Z (H':=[]) Z ?_
 refine Q9 (l6.length == 0) hE [8] Z (asK [] Z) Z
 replace hm:=Qz hm q
 refine wO Z (wO Z (wO Z (wO Z (wP Z (wP Z (wP Z (wP Z (Q3 ?_))))))))
 have hE:=(Zi hm).symm
 refine Qs [] Z (H':=[]) Z ?_
 refine Q9 false hE [8] Z (asK [] Z) Z
 replace hm:=Qz hm z
 refine wF Z Q9R (wD 0 4 Z Q1A Q1N Z (wP Z (wP Z (wP Z (wP Z ?_)))))
 refine Qt (d:=24) (S':=V19 ..) Z Z (fun a6=>?_) (fun a6=>?_)
 replace hm:=QA hm a6
 refine wP Z (wP Z ?_)
 refine Qt (d:=26) (S':=V21 ..) Z Z (fun j=>?_) (fun j=>?_)
 replace hm:=QA hm j
 refine wO Z (wO Z (wO Z (wO Z (wO Z (wO Z (wO Z (wO Z (wO Z (wP Z (wP Z (wP Z (Q3 ?_))))))))))))
 have hE:=(Zi hm).symm
 refine Qs [] Z (H':=[]) Z ?_
 refine Q9 true hE [8] Z (asK [] Z) Z
 replace hm:=Qz hm j
 refine wF Z Q96 (wD 0 5 Z tS_62 tA_62 Z (wP Z (wP Z ?_)))
 refine Qt (d:=30) (S':=V25 ..) Z Z (fun q=>?_) (fun q=>?_)
 replace hm:=QA hm q
 refine wF Z QaM (wD 0 6 Z Q92 Q9s Z (wN Z Q66 (wP Z (QH (d:=34) (v':=.bool (l6.length == 0)) (S':=V29 ..) Z Z (Q3c (a:=l6.length) (b:=0)) (wP Z (wP Z (wP Z (wP Z (Q3 ?_)))))))))
 have hE:=(Zi hm).symm
 refine Qs [] Z (H':=[]) Z ?_
 refine Q9 (l6.length == 0) hE [8] Z (asK [] Z) Z
 replace hm:=Qz hm q
 refine wO Z (wO Z (wO Z (wO Z (wP Z (wP Z (wP Z (wP Z (Q3 ?_))))))))
 have hE:=(Zi hm).symm
 refine Qs [] Z (H':=[]) Z ?_
 refine Q9 false hE [8] Z (asK [] Z) Z
 replace hm:=Qz hm a6
 refine wO Z (wO Z (wO Z (wO Z (wO Z (wO Z (wO Z (wO Z (wO Z (wO Z (wO Z (wO Z (wP Z (wP Z ?_)))))))))))))
 refine Q3 ?_
 have hE:=(Zi hm).symm
 refine Qs [] Z (H':=[]) Z ?_
 refine Q9 false hE [8] Z (asK [] Z) Z
 replace hm:=Qz hm aB
 refine wF Z tF_65_1 (QR 0 1 Z Z Z Zq Z Z Z (cs:=V3 ..) Z Q1H Q2u Z Z (Q13 Z Z Z Zq Z Q2Y Q8x Z (out:=V3 ..) Z (Q7Q Z Z Z Zq Z Z Z (eqlV _ _ (⟨a1,a2,a3⟩ : V) (⟨0,0,(⟨#[]⟩ : ByteArray)⟩ : V)) (wP Z (wP Z ?_)))))
 refine Qt (d:=16) (S':=V11 ..) Z Z (fun aC=>?_) (fun aC=>?_)
 replace hm:=QA hm aC
 refine wP Z (wP Z ?_)
 refine Qt (d:=18) (S':=V13 ..) Z Z (fun z=>?_) (fun z=>?_)
 replace hm:=QA hm z
 refine wO Z (wO Z (wO Z (wP Z (wP Z (wP Z (wP Z (wP Z ?_)))))))
 refine Qt (d:=26) (S':=V21 ..) Z Z (fun j=>?_) (fun j=>?_)
 replace hm:=QA hm j
 refine wO Z (wO Z (wO Z (wO Z (wO Z (wO Z (wO Z (wO Z (wO Z (wP Z (wP Z (wP Z (Q3 ?_))))))))))))
 have hE:=(Zi hm).symm
 refine Qs [] Z (H':=[]) Z ?_
 refine Q9 true hE [8] Z (asK [] Z) Z
 replace hm:=Qz hm j
 refine wF Z Q96 (wD 0 5 Z tS_62 tA_62 Z (wP Z (wP Z ?_)))
 refine Qt (d:=30) (S':=V25 ..) Z Z (fun q=>?_) (fun q=>?_)
 replace hm:=QA hm q
 refine wF Z QaM (wD 0 6 Z Q92 Q9s Z (wN Z Q66 (wP Z (QH (d:=34) (v':=.bool (l6.length == 0)) (S':=V29 ..) Z Z (Q3c (a:=l6.length) (b:=0)) (wP Z (wP Z (wP Z (wP Z (Q3 ?_)))))))))
 have hE:=(Zi hm).symm
 refine Qs [] Z (H':=[]) Z ?_
 refine Q9 (l6.length == 0) hE [8] Z (asK [] Z) Z
 replace hm:=Qz hm q
 refine wO Z (wO Z (wO Z (wO Z (wP Z (wP Z (wP Z (wP Z (Q3 ?_))))))))
 have hE:=(Zi hm).symm
 refine Qs [] Z (H':=[]) Z ?_
 refine Q9 false hE [8] Z (asK [] Z) Z
 replace hm:=Qz hm z
 refine wF Z Q9R (wD 0 4 Z Q1A Q1N Z (wP Z (wP Z (wP Z (wP Z ?_)))))
 refine Qt (d:=24) (S':=V19 ..) Z Z (fun a6=>?_) (fun a6=>?_)
 replace hm:=QA hm a6
 refine wP Z (wP Z ?_)
 refine Qt (d:=26) (S':=V21 ..) Z Z (fun j=>?_) (fun j=>?_)
 replace hm:=QA hm j
 refine wO Z (wO Z (wO Z (wO Z (wO Z (wO Z (wO Z (wO Z (wO Z (wP Z (wP Z (wP Z (Q3 ?_))))))))))))
 have hE:=(Zi hm).symm
 refine Qs [] Z (H':=[]) Z ?_
 refine Q9 true hE [8] Z (asK [] Z) Z
 replace hm:=Qz hm j
 refine wF Z Q96 (wD 0 5 Z tS_62 tA_62 Z (wP Z (wP Z ?_)))
 refine Qt (d:=30) (S':=V25 ..) Z Z (fun q=>?_) (fun q=>?_)
 replace hm:=QA hm q
 refine wF Z QaM (wD 0 6 Z Q92 Q9s Z (wN Z Q66 (wP Z (QH (d:=34) (v':=.bool (l6.length == 0)) (S':=V29 ..) Z Z (Q3c (a:=l6.length) (b:=0)) (wP Z (wP Z (wP Z (wP Z (Q3 ?_)))))))))
 have hE:=(Zi hm).symm
 refine Qs [] Z (H':=[]) Z ?_
 refine Q9 (l6.length == 0) hE [8] Z (asK [] Z) Z
 replace hm:=Qz hm q
 refine wO Z (wO Z (wO Z (wO Z (wP Z (wP Z (wP Z (wP Z (Q3 ?_))))))))
 have hE:=(Zi hm).symm
 refine Qs [] Z (H':=[]) Z ?_
 refine Q9 false hE [8] Z (asK [] Z) Z
 replace hm:=Qz hm a6
 refine wO Z (wO Z (wO Z (wO Z (wO Z (wO Z (wO Z (wO Z (wO Z (wO Z (wO Z (wO Z (wP Z (wP Z ?_)))))))))))))
 refine Q3 ?_
 have hE:=(Zi hm).symm
 refine Qs [] Z (H':=[]) Z ?_
 refine Q9 false hE [8] Z (asK [] Z) Z
 replace hm:=Qz hm aC
 refine wO Z (wO Z (wO Z (wO Z (wO Z (wO Z (wP Z (wP Z (wO Z (wO Z (wO Z (wO Z (wO Z (wO Z ?_)))))))))))))
 refine wO Z (wO Z (wO Z (wO Z (wO Z (wO Z (wP Z (wP Z (Q3 ?_))))))))
 have hE:=(Zi hm).symm
 refine Qs [] Z (H':=[]) Z ?_
 refine Q9 false hE [8] Z (asK [] Z) Z
 rintro s hE
 try dsimp only
 have hm:=hLj_1
 rw [hE] at hm
 refine Qb ?_
 have hE:=(Zi hm).symm
 replace hE:=hE.symm
 subst hE
 refine Ql (Hr:=[]) [] Tryz.results136 (Qc Z) ⟨Z,Z,Z⟩ (asK [] Z) Z Z (.inl Z)
end Go.Proofs.YtbgodclhmgmcgaaGreatDoor
