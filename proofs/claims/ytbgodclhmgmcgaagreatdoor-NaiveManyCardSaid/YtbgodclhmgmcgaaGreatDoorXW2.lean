import Derived.Test.YtbgodclhmgmcgaaGreatDoorXW1
namespace Go.Proofs.YtbgodclhmgmcgaaGreatDoor
open Go.RowKit
set_option maxRecDepth 100000
set_option maxHeartbeats 4000000
theorem Q7l (N:Nat) (rc:(List Q1f) → Int → Bool → Int → Option (Int × ByteArray × Int × (List Qa) × Int × Bool)) (ih : ∀ (z:Nat) (j:OA) (q:Nat) (s:Nat) (l0:List Q1f) (a1:Int) (a2:Bool) (a3:Int) (o0:Int) (o1:ByteArray) (o2:Int) (o5:List Qa) (o6:Int) (o7:Bool),rc l0 a1 a2 a3 = some (o0,o1,o2,o5,o6,o7) → Q1o Tryz.prog 206 [.pointer (some ⟨z,0,none⟩),.int .i64 a3] [] [.blk z [.slice j q s,.int .i64 a1,.bool a2] 194,.own 197 3 QP (.slice j q s) l0] (fun v Φr Hr=>∃ (o3:OA) (o4:Nat),v = .agg #[.int .u8 o0,.string o1,.int .i64 0,.int .i64 o2,.slice o3 o5.length o4] ∧ Φr = [.sli 5 Qi o3 o4 o5] ∧ Hr = [.blk z [.slice j q s,.int .i64 o6,.bool o7] 194,.own 197 3 QP (.slice j q s) l0])) (z:Nat) (j:OA) (q:Nat) (s:Nat) (l0:List Q1f) (a1:Int) (a2:Bool) (o0:Int) (o1:ByteArray) (o2:Int) (o5:List Qa) (o6:Int) (o7:Bool) (hm:Q32 N rc l0 a1 a2 = some (o0,o1,o2,o5,o6,o7)):Q1o Tryz.prog 221 [.pointer (some ⟨z,0,none⟩)] [] [.blk z [.slice j q s,.int .i64 a1,.bool a2] 194,.own 197 3 QP (.slice j q s) l0] (fun v Φr Hr=>∃ (o3:OA) (o4:Nat),v = .agg #[.int .u8 o0,.string o1,.int .i64 0,.int .i64 o2,.slice o3 o5.length o4] ∧ Φr = [.sli 5 Qi o3 o4 o5] ∧ Hr = [.blk z [.slice j q s,.int .i64 o6,.bool o7] 194,.own 197 3 QP (.slice j q s) l0]):=by
 unfold Q32 at hm
 refine QD Tryz.func221 Z Tryz.ntmps221 Z (S:=[_]) Z (fun C=>(Q5 (Q1 (QE Z Z Z Zq Z Q2j Z (fun g2=>(Q3 (Q4 (Q5 (Q5 (Q1 (wP Z ?_)))))))))))
 obtain ⟨⟨aN,bD,bE⟩,aU,hm⟩:=Q6 hm
 try dsimp only at hm
 refine wC [1,2] [0] Z Q7o Z (Q1k N z j q s l0 a1 a2 _ _ _ aU) (asK [] Z) Z (H':=[_]) Z ?_
 rintro _ _ _ ⟨rfl,rfl,rfl⟩
 refine Q1B Z Z Z Zq (Q4p Z Z tFT_197_0 Qa2 Q8M (v:=.int .u8 aN) Z) (Q3 (Q4 (Q2 [6,2,0] (S':=V3 ..) Z (Qw (Q5 (Q1 (wP Z (wP Z (Q3 (Q4 (Q2 [7,6,2,0] (S':=V4 ..) Z ?_)))))))))))
 refine Qj Z (fun a9=>?_) (fun a9=>?_)
 replace hm:=QA hm a9
 refine Q2 [2,0] (S':=[_,_]) Z (Q5 (Q1 (wP Z ?_)))
 obtain ⟨⟨aV,aW,aX,aY⟩,aO,hm⟩:=Q6 hm
 try dsimp only at hm
 refine wC [0,1] [2] Z Q8I Z (Q1C N z j q s l0 a1 a2 4 14 _ _ _ _ aO) (asK [] Z) Z (H':=[_]) Z ?_
 rintro _ _ _ ⟨rfl,rfl,rfl⟩
 refine wS 2 0 Z QQ (all':=V5 ..) Z (H':=V3 ..) Z (Q3 (Q4 (Q2 [2] (S':=[_]) Z (Qb (Qg (Q7 ?_))))))
 have hE:=(Zi hm).symm
 obtain ⟨hE0,hF1⟩:=Prod.mk.inj hE
 obtain ⟨hE1,hF2⟩:=Prod.mk.inj hF1
 obtain ⟨hE2,hF3⟩:=Prod.mk.inj hF2
 obtain ⟨hE3,hF4⟩:=Prod.mk.inj hF3
 obtain ⟨hE4,hE5⟩:=Prod.mk.inj hF4
 clear hE hF1 hF2 hF3 hF4
 replace hE0:=hE0.symm
 subst hE0
 replace hE1:=hE1.symm
 subst hE1
 replace hE2:=hE2.symm
 subst hE2
 replace hE3:=hE3.symm
 subst hE3
 replace hE4:=hE4.symm
 subst hE4
 replace hE5:=hE5.symm
 subst hE5
 refine Q6W (.sli 5 Qi none 0 ([] : List Qa)) (fun _ _ _=>Q3Q) ?_
 refine Ql (Hr:=[_,_]) [0,1] Tryz.results221 (QW 2 Z Z QQ Q1z Z Z) ⟨none,0,Z,Z,Z⟩ (asK [0] Z) Z Z (.inl Z)
 replace hm:=Qz hm a9
 refine Q2 [6,2,0] (S':=V3 ..) Z (Q5 (Q1 (wP Z (wP Z (Q3 (Q4 (Q2 [11,6,2,0] (S':=V4 ..) Z ?_)))))))
 refine Qj Z (fun a5=>?_) (fun a5=>?_)
 replace hm:=QA hm a5
 refine Q2 [2,0] (S':=[_,_]) Z (Q5 (Q1 (wP Z ?_)))
 obtain ⟨⟨aZ,b0,b1,b2⟩,aP,hm⟩:=Q6 hm
 try dsimp only at hm
 refine wC [0,1] [2] Z Q8I Z (Q1C N z j q s l0 a1 a2 5 15 _ _ _ _ aP) (asK [] Z) Z (H':=[_]) Z ?_
 rintro _ _ _ ⟨rfl,rfl,rfl⟩
 refine wS 2 0 Z QQ (all':=V5 ..) Z (H':=V3 ..) Z (Q3 (Q4 (Q2 [2] (S':=[_]) Z (Qb (Qg (Q7 ?_))))))
 have hE:=(Zi hm).symm
 obtain ⟨hE0,hF1⟩:=Prod.mk.inj hE
 obtain ⟨hE1,hF2⟩:=Prod.mk.inj hF1
 obtain ⟨hE2,hF3⟩:=Prod.mk.inj hF2
 obtain ⟨hE3,hF4⟩:=Prod.mk.inj hF3
 obtain ⟨hE4,hE5⟩:=Prod.mk.inj hF4
 clear hE hF1 hF2 hF3 hF4
 replace hE0:=hE0.symm
 subst hE0
 replace hE1:=hE1.symm
 subst hE1
 replace hE2:=hE2.symm
 subst hE2
 replace hE3:=hE3.symm
 subst hE3
 replace hE4:=hE4.symm
 subst hE4
 replace hE5:=hE5.symm
 subst hE5
 refine Q6W (.sli 5 Qi none 0 ([] : List Qa)) (fun _ _ _=>Q3Q) ?_
 refine Ql (Hr:=[_,_]) [0,1] Tryz.results221 (QW 2 Z Z QQ Q1z Z Z) ⟨none,0,Z,Z,Z⟩ (asK [0] Z) Z Z (.inl Z)
 replace hm:=Qz hm a5
 refine Q2 [6,2,0] (S':=V3 ..) Z (Q5 (Q1 (wP Z (wP Z (Q3 (Q4 (Q2 [15,2,0] (S':=V3 ..) Z ?_)))))))
 refine Qj Z (fun a6=>?_) (fun a6=>?_)
 replace hm:=QA hm a6
 refine Q2 [2,0] (S':=[_,_]) Z (Q5 (Q1 (wP Z ?_)))
 obtain ⟨⟨b3,b4,b5,b6⟩,aQ,hm⟩:=Q6 hm
 try dsimp only at hm
 refine wC [0,1] [2] Z Q8I Z (Q1C N z j q s l0 a1 a2 3 13 _ _ _ _ aQ) (asK [] Z) Z (H':=[_]) Z ?_
 rintro _ _ _ ⟨rfl,rfl,rfl⟩
 refine wS 2 0 Z QQ (all':=V5 ..) Z (H':=V3 ..) Z (Q3 (Q4 (Q2 [2] (S':=[_]) Z (Qb (Qg (Q7 ?_))))))
 have hE:=(Zi hm).symm
 obtain ⟨hE0,hF1⟩:=Prod.mk.inj hE
 obtain ⟨hE1,hF2⟩:=Prod.mk.inj hF1
 obtain ⟨hE2,hF3⟩:=Prod.mk.inj hF2
 obtain ⟨hE3,hF4⟩:=Prod.mk.inj hF3
 obtain ⟨hE4,hE5⟩:=Prod.mk.inj hF4
 clear hE hF1 hF2 hF3 hF4
 replace hE0:=hE0.symm
 subst hE0
 replace hE1:=hE1.symm
 subst hE1
 replace hE2:=hE2.symm
 subst hE2
 replace hE3:=hE3.symm
 subst hE3
 replace hE4:=hE4.symm
 subst hE4
 replace hE5:=hE5.symm
 subst hE5
 refine Q6W (.sli 5 Qi none 0 ([] : List Qa)) (fun _ _ _=>Q3Q) ?_
 refine Ql (Hr:=[_,_]) [0,1] Tryz.results221 (QW 2 Z Z QQ Q1z Z Z) ⟨none,0,Z,Z,Z⟩ (asK [0] Z) Z Z (.inl Z)
 replace hm:=Qz hm a6
 refine Q2 [2,0] (S':=[_,_]) Z (Qq (Qh (Q4 (Q5 (Q1 (wP Z ?_))))))
 obtain ⟨⟨aA,aB⟩,aR,hm⟩:=Q6 hm
 try dsimp only at hm
 refine wC [0,1] [2] Z Q7F Z (Q1m N z j q s l0 a1 a2 (⟨#[40]⟩ : ByteArray) _ _ aR) (asK [] Z) Z (H':=[_]) Z ?_
 rintro _ _ _ ⟨rfl,rfl,rfl⟩
 refine Q3 (Q4 (Q2 [2,0] (S':=[_,_]) Z (Q5 (Q1 (wP Z ?_)))))
 obtain ⟨⟨b7,b8,b9,bA,aC,aD⟩,aS,hm⟩:=Q6 hm
 try dsimp only at hm
 refine wC [0,1] [2] Z fn_206 Z (ih z j q s l0 aA aB 0 _ _ _ _ _ _ aS) (asK [] Z) Z (H':=[_]) Z ?_
 rintro _ _ _ ⟨aE,aF,rfl,rfl,rfl⟩
 refine QE Z Z Z Zq Z Q2j Z (fun g3=>(wS 0 0 Z QQ (all':=V5 ..) Z (H':=V4 ..) Z (Q3 (Q4 (Q2 [3,2,0] (S':=V3 ..) Z (Q5 (Q1 (wP Z ?_))))))))
 obtain ⟨⟨bB,bC⟩,aT,hm⟩:=Q6 hm
 try dsimp only at hm
 refine wC [1,2] [0,3] Z Q7F Z (Q1m N z j q s l0 aC aD (⟨#[41]⟩ : ByteArray) _ _ aT) (asK [] Z) Z (H':=[_,_]) Z ?_
 rintro _ _ _ ⟨rfl,rfl,rfl⟩
 refine Q3 (Q4 (Q2 [3,2] (S':=[_,_]) Z (Q5 (Q1 (QR 2 0 Z Z Z Zq Z Z Z (cs:=V5 ..) Z QQ Q1z Z Z (wS 3 0 Z QQ (all':=V5 ..) Z (H':=V4 ..) Z (Q3 (Q4 (Q2 [2] (S':=[_]) Z (Qb ?_))))))))))
 have hE:=(Zi hm).symm
 obtain ⟨hE0,hF1⟩:=Prod.mk.inj hE
 obtain ⟨hE1,hF2⟩:=Prod.mk.inj hF1
 obtain ⟨hE2,hF3⟩:=Prod.mk.inj hF2
 obtain ⟨hE3,hF4⟩:=Prod.mk.inj hF3
 obtain ⟨hE4,hE5⟩:=Prod.mk.inj hF4
 clear hE hF1 hF2 hF3 hF4
 replace hE0:=hE0.symm
 subst hE0
 replace hE1:=hE1.symm
 subst hE1
 replace hE2:=hE2.symm
 subst hE2
 replace hE3:=hE3.symm
 subst hE3
 replace hE4:=hE4.symm
 subst hE4
 replace hE5:=hE5.symm
 subst hE5
 refine Ql (Hr:=[_,_]) [0,1] Tryz.results221 (QW 3 Z Z QQ Q1z Z Z) ⟨aE,aF,Z,Z,Z⟩ (asK [0] Z) Z Z (.inl Z)
theorem Q7R (N:Nat) (rc:(List Q1f) → Int → Bool → Int → Option (Int × ByteArray × Int × (List Qa) × Int × Bool)) (ih : ∀ (aG:Nat) (aB:OA) (aC:Nat) (aD:Nat) (l0:List Q1f) (a1:Int) (a2:Bool) (a3:Int) (o0:Int) (o1:ByteArray) (o2:Int) (o5:List Qa) (o6:Int) (o7:Bool),rc l0 a1 a2 a3 = some (o0,o1,o2,o5,o6,o7) → Q1o Tryz.prog 206 [.pointer (some ⟨aG,0,none⟩),.int .i64 a3] [] [.blk aG [.slice aB aC aD,.int .i64 a1,.bool a2] 194,.own 197 3 QP (.slice aB aC aD) l0] (fun v Φr Hr=>∃ (o3:OA) (o4:Nat),v = .agg #[.int .u8 o0,.string o1,.int .i64 0,.int .i64 o2,.slice o3 o5.length o4] ∧ Φr = [.sli 5 Qi o3 o4 o5] ∧ Hr = [.blk aG [.slice aB aC aD,.int .i64 o6,.bool o7] 194,.own 197 3 QP (.slice aB aC aD) l0])) (aG:Nat) (aB:OA) (aC:Nat) (aD:Nat) (l0:List Q1f) (a1:Int) (a2:Bool) (a3:Int) (o0:Int) (o1:ByteArray) (o2:Int) (o5:List Qa) (o6:Int) (o7:Bool) (hm:Q3E N rc l0 a1 a2 a3 = some (o0,o1,o2,o5,o6,o7)):Q1o Tryz.prog 206 [.pointer (some ⟨aG,0,none⟩),.int .i64 a3] [] [.blk aG [.slice aB aC aD,.int .i64 a1,.bool a2] 194,.own 197 3 QP (.slice aB aC aD) l0] (fun v Φr Hr=>∃ (o3:OA) (o4:Nat),v = .agg #[.int .u8 o0,.string o1,.int .i64 0,.int .i64 o2,.slice o3 o5.length o4] ∧ Φr = [.sli 5 Qi o3 o4 o5] ∧ Hr = [.blk aG [.slice aB aC aD,.int .i64 o6,.bool o7] 194,.own 197 3 QP (.slice aB aC aD) l0]):=by
 unfold Q3E at hm
 refine QD Tryz.func206 Z Tryz.ntmps206 Z (S:=[_,_]) Z (fun C=>(Q5 (Q1 (QE Z Z Z Zq Z Q2j Z (fun g4=>(Q3 (Q4 (Q5 (Q5 (Q1 (wP Z (wP Z (wF Z Q4U (wD 1 2 Z tS_4 tA_4 Z (Q3 ?_)))))))))))))))
 refine Q4 (Q2 [12,4,0,1] (S':=V4 ..) Z ?_)
 refine Qj Z (fun aZ=>?_) (fun aZ=>?_)
 replace hm:=QA hm aZ
 refine Q2 [4] (S':=[_]) Z (Q5 (Q1 (Q13 Z Z Z Zq Z Q2j Q8c Z (out:=V5 ..) Z (wS 0 0 Z QQ (all':=V5 ..) Z (H':=V3 ..) Z (Q3 (Q4 (Q2 [4] (S':=[_]) Z (Qb (Q7 ?_)))))))))
 have hE:=(Zi hm).symm
 obtain ⟨hE0,hF1⟩:=Prod.mk.inj hE
 obtain ⟨hE1,hF2⟩:=Prod.mk.inj hF1
 obtain ⟨hE2,hF3⟩:=Prod.mk.inj hF2
 obtain ⟨hE3,hF4⟩:=Prod.mk.inj hF3
 obtain ⟨hE4,hE5⟩:=Prod.mk.inj hF4
 clear hE hF1 hF2 hF3 hF4
 replace hE0:=hE0.symm
 subst hE0
 replace hE1:=hE1.symm
 subst hE1
 replace hE2:=hE2.symm
 subst hE2
 replace hE3:=hE3.symm
 subst hE3
 replace hE4:=hE4.symm
 subst hE4
 replace hE5:=hE5.symm
 subst hE5
 refine Q6W (.sli 5 Qi none 0 ([] : List Qa)) (fun _ _ _=>Q3Q) ?_
 refine Ql (Hr:=[_,_]) [1,2] Tryz.results206 (QW 0 Z Z QQ Q1z Z Z) ⟨none,0,Z,Z,Z⟩ (asK [0] Z) Z Z (.inl Z)
 replace hm:=Qz hm aZ
 refine Q2 [4,0,1] (S':=V3 ..) Z (Qq (Q4 (Q5 (Q1 (wP Z ?_)))))
 obtain ⟨⟨cE,cF,aS⟩,bW,hm⟩:=Q6 hm
 try dsimp only at hm
 refine wC [1,2] [0] Z Q7o Z (Q1k N aG aB aC aD l0 a1 a2 _ _ _ bW) (asK [] Z) Z (H':=[_]) Z ?_
 rintro _ _ _ ⟨rfl,rfl,rfl⟩
 refine Q1B Z Z Z Zq (Q4p Z Z Qam Q1N Q1A (v:=.int .i64 aS) Z) (wP Z (Q3 (Q4 (Q2 [5,4,0,1] (S':=V4 ..) Z (Q5 (Q5 (Q1 (wP Z (wP Z (Q3 (Q4 (Q2 [18,5,4,0,1] (S':=V5 ..) Z ?_))))))))))))
 refine Qj Z (fun b0=>?_) (fun b0=>?_)
 replace hm:=QA hm b0
 refine Q2 [5,4,0,1] (S':=V4 ..) Z (Q5 (Q5 ?_))
 obtain ⟨bX,hm,hLj_1⟩:=Q6 hm
 refine QI (σ:=Bool) (fun aO=>bX = aO) (fun aO=>[(5,.int .i64 aS),(4,.pointer (some ⟨g4,0,none⟩)),(0,.pointer (some ⟨aG,0,none⟩)),(1,.int .i64 a3),(24,.bool aO)]) (fun aO=>[]) (fun aO=>[.blk g4 [.int .u8 0,.string ((⟨#[]⟩ : ByteArray)),.int .i64 0,.int .i64 0,V1] 159,.blk aG [.slice aB aC aD,.int .i64 a1,.bool a2] 194,.own 197 3 QP (.slice aB aC aD) l0]) ?_ ?_
 refine Q1 (wP Z ?_)
 obtain ⟨cV,bY,hm⟩:=Q6 hm
 refine wC [0,1] [2] Z Q6h Z (Q17 N aG aB aC aD l0 a1 a2 (⟨#[45]⟩ : ByteArray) _ bY) (asK [] Z) Z (H':=[_]) Z ?_
 rintro _ _ _ ⟨rfl,rfl,rfl⟩
 refine wP Z ?_
 refine Qt (d:=21) (S':=V6 ..) Z Z (fun b1=>?_) (fun b1=>?_)
 replace hm:=QA hm b1
 refine wO Z (wO Z (wP Z (Q3 ?_)))
 have hE:=(Zi hm).symm
 refine Qs [2,0,1] Z (H':=V3 ..) Z ?_
 refine Q9 true hE [5,4,0,1,24] Z (asK [] Z) Z
 replace hm:=Qz hm b1
 refine wP Z ?_
 obtain ⟨cG,bZ,hm⟩:=Q6 hm
 refine wC [0,1] [2] Z Q6h Z (Q17 N aG aB aC aD l0 a1 a2 (⟨#[110,111,116]⟩ : ByteArray) _ bZ) (asK [] Z) Z (H':=[_]) Z ?_
 rintro _ _ _ ⟨rfl,rfl,rfl⟩
 refine wP Z (Q3 ?_)
 have hE:=(Zi hm).symm
 refine Qs [2,0,1] Z (H':=V3 ..) Z ?_
 refine Q9 cG hE [5,4,0,1,24] Z (asK [] Z) Z
 rintro aO hE
 try dsimp only
 have hm:=hLj_1
 rw [hE] at hm
 refine Qj Z (fun b2=>?_) (fun b2=>?_)
 replace hm:=QA hm b2
 refine Q2 [5,4,0,1] (S':=V4 ..) Z (Q5 (Q1 (wP Z ?_)))
 obtain ⟨⟨cH,bB,cI⟩,c0,hm⟩:=Q6 hm
 try dsimp only at hm
 refine wC [1,2] [0] Z Q7o Z (Q1k N aG aB aC aD l0 a1 a2 _ _ _ c0) (asK [] Z) Z (H':=[_]) Z ?_
 rintro _ _ _ ⟨rfl,rfl,rfl⟩
 refine Q1B Z Z Z Zq (Q4p Z Z tFT_197_1 Q2E Q27 (v:=.string bB) Z) (wP Z (Q13 Z Z Z Zq Z Q2j Q8c Z (out:=V5 ..) Z (QE Z Z Z Zq Z Q2j Z (fun g6=>(wS 0 0 Z QQ (all':=V5 ..) Z (H':=V4 ..) Z (Q3 (Q4 (Q2 [6,4,0,1] (S':=V4 ..) Z (Q5 (Q1 (wP Z ?_)))))))))))
 obtain ⟨cJ,c1,hm⟩:=Q6 hm
 refine wC [1,2] [0,3] Z Q7p Z (Q1h N aG aB aC aD l0 a1 a2 _ c1) (asK [] Z) Z (H':=[_,_]) Z ?_
 rintro _ _ _ ⟨rfl,rfl,rfl⟩
 refine Q3 (Q4 (Q2 [6,4,0,1] (S':=V4 ..) Z (Q5 (Q1 (wP Z (wP Z ?_))))))
 obtain ⟨⟨aT,aU,aV,aW,cK,cL⟩,c2,hm⟩:=Q6 hm
 try dsimp only at hm
 refine wC [0,1] [2,3] Z fn_206 Z (ih aG aB aC aD l0 cJ a2 a3 _ _ _ _ _ _ c2) (asK [] Z) Z (H':=[_,_]) Z ?_
 rintro _ _ _ ⟨b3,b4,rfl,rfl,rfl⟩
 refine Qy Z Z Z Zq Z Q1Q QQ Q2j Z (zs:=[.int .u8 0,.string ((⟨#[]⟩ : ByteArray)),.int .i64 0,.int .i64 0,V1]) (by kernel_rfl) Z (out:=V5 ..) Z (fun c3=>(wF Z Q1s (wS 3 4 Z Q1U (all':=V5 ..) Z (H':=V5 ..) Z (Q3 (Q4 (Q2 [6,4] (S':=[_,_]) Z (Q5 (Q1 (QR 3 0 Z Z Z Zq Z Z Z (cs:=V5 ..) Z QQ Q1z Z Z (wS 4 0 Z QQ (all':=V5 ..) Z (H':=V5 ..) Z (Q3 (Q4 (Q2 [4] (S':=[_]) Z (Qb ?_))))))))))))))
 refine Q7 (Q7 (we_row (sz:=5) (m:=1) Qi ([(⟨aT,aU,0,aV,aW⟩ : Qa)]) 0 Z (fun F w hφ=>⟨[.int .u8 aT,.string aU,.int .i64 0,.int .i64 aV,.slice b3 aW.length b4],[],Z,Z,(Q3d (b3,b4) Z (QS (hφ _ (Q10 (k:=0) Z)) Qr)),Z⟩) Z (by decide) (H':=V5 ..) Z (Q8g 0 Z (H':=V4 ..) Z (Q6W (.sli 5 Qi (some ⟨c3,0,none⟩) 1 ([(⟨aT,aU,0,aV,aW⟩ : Qa)])) (fun F w hφ=>Q1K (hφ _ (Q10 (k:=0) Z))) ?_))))
 have hE:=(Zi hm).symm
 obtain ⟨hE0,hF1⟩:=Prod.mk.inj hE
 obtain ⟨hE1,hF2⟩:=Prod.mk.inj hF1
 obtain ⟨hE2,hF3⟩:=Prod.mk.inj hF2
 obtain ⟨hE3,hF4⟩:=Prod.mk.inj hF3
 obtain ⟨hE4,hE5⟩:=Prod.mk.inj hF4
 clear hE hF1 hF2 hF3 hF4
 replace hE0:=hE0.symm
 subst hE0
 replace hE1:=hE1.symm
 subst hE1
 replace hE2:=hE2.symm
 subst hE2
 replace hE3:=hE3.symm
 subst hE3
 replace hE4:=hE4.symm
 subst hE4
 replace hE5:=hE5.symm
 subst hE5
 refine Ql (Hr:=[_,_]) [0,1] Tryz.results206 (QW 3 Z Z QQ Q1z Z Z) ⟨some ⟨c3,0,none⟩,1,Z,Z,Z⟩ (asK [0] Z) Z Z (.inl Z)
 replace hm:=Qz hm b2
 refine Q2 [4,0] (S':=[_,_]) Z (Qq (Q4 (Q5 (Q1 (wP Z ?_)))))
 obtain ⟨⟨cM,cN,cO,cP,cQ,cR⟩,c4,hm⟩:=Q6 hm
 try dsimp only at hm
 refine wC [1,2] [0] Z fn_221 Z (Q7l N rc ih aG aB aC aD l0 a1 a2 _ _ _ _ _ _ c4) (asK [] Z) Z (H':=[_]) Z ?_
 rintro _ _ _ ⟨bC,bD,rfl,rfl,rfl⟩
 refine wS 2 0 Z QQ (all':=V5 ..) Z (H':=V3 ..) Z (Q3 (Q4 (Q2 [4] (S':=[_]) Z (Qb (Q7 ?_)))))
 have hE:=(Zi hm).symm
 obtain ⟨hE0,hF1⟩:=Prod.mk.inj hE
 obtain ⟨hE1,hF2⟩:=Prod.mk.inj hF1
 obtain ⟨hE2,hF3⟩:=Prod.mk.inj hF2
 obtain ⟨hE3,hF4⟩:=Prod.mk.inj hF3
 obtain ⟨hE4,hE5⟩:=Prod.mk.inj hF4
 clear hE hF1 hF2 hF3 hF4
 replace hE0:=hE0.symm
 subst hE0
 replace hE1:=hE1.symm
 subst hE1
 replace hE2:=hE2.symm
 subst hE2
 replace hE3:=hE3.symm
 subst hE3
 replace hE4:=hE4.symm
 subst hE4
 replace hE5:=hE5.symm
 subst hE5
 refine Ql (Hr:=[_,_]) [0,1] Tryz.results206 (QW 2 Z Z QQ Q1z Z Z) ⟨bC,bD,Z,Z,Z⟩ (asK [0] Z) Z Z (.inl Z)
 replace hm:=Qz hm b0
 refine Q2 [5,4,0,1] (S':=V4 ..) Z (Qq (Q4 (Q5 (Q1 (wP Z (wP Z (wP Z ?_)))))))
 obtain ⟨c5,hm⟩:=Qu hm
 refine QH (d:=42) (v':=.int .i64 (a3 + 1)) (S':=V6 ..) Z Z (i64_in c5) ?_
 obtain ⟨⟨bE,bF,bG,bH,bI,bJ⟩,c6,hm⟩:=Q6 hm
 try dsimp only at hm
 refine wC [0,1] [2] Z fn_206 Z (ih aG aB aC aD l0 a1 a2 (a3 + 1) _ _ _ _ _ _ c6) (asK [] Z) Z (H':=[_]) Z ?_
 rintro _ _ _ ⟨bK,bL,rfl,rfl,rfl⟩
 refine QE Z Z Z Zq Z Q2j Z (fun g7=>(wS 0 0 Z QQ (all':=V5 ..) Z (H':=V4 ..) Z (Q3 (Q4 (Q2 [7,5,4,0,1] (S':=V5 ..) Z (Q5 ?_))))))
 obtain ⟨b9,hm,hLj_2⟩:=Q1w hm
 refine QI (σ:=Int × ByteArray × Int × (List Qa) × Int × Bool × OA × Nat) (fun (aH,aI,aJ,a7,aE,aF,a8,a9)=>b9 = .inl (aH,aI,aJ,a7,aE,aF)) (fun (aH,aI,aJ,a7,aE,aF,a8,a9)=>[(7,.pointer (some ⟨g7,0,none⟩)),(4,.pointer (some ⟨g4,0,none⟩))]) (fun (aH,aI,aJ,a7,aE,aF,a8,a9)=>[.sli 5 Qi a8 a9 a7]) (fun (aH,aI,aJ,a7,aE,aF,a8,a9)=>[.blk g7 [.int .u8 aH,.string aI,.int .i64 0,.int .i64 aJ,.slice a8 a7.length a9] 159,.blk g4 [.int .u8 0,.string ((⟨#[]⟩ : ByteArray)),.int .i64 0,.int .i64 0,V1] 159,.blk aG [.slice aB aC aD,.int .i64 aE,.bool aF] 194,.own 197 3 QP (.slice aB aC aD) l0]) ?_ ?_
 refine Qw (Q4X [0,3,1,2] Z (H':=V4 ..) Z (Q1E (σ:=Nat × Int × ByteArray × Int × (List Qa) × Int × Bool × OA × Nat) (fun (aX,z,a0,a5,j,aA,a6,q,s)=>Q1M (Q3r N l0 a3 rc aS) aX (z,a0,a5,j,aA,a6) = some b9) (fun (aX,z,a0,a5,j,aA,a6,q,s)=>aX) (fun (aX,z,a0,a5,j,aA,a6,q,s)=>[(7,.pointer (some ⟨g7,0,none⟩)),(5,.int .i64 aS),(4,.pointer (some ⟨g4,0,none⟩)),(0,.pointer (some ⟨aG,0,none⟩)),(1,.int .i64 a3)]) (fun (aX,z,a0,a5,j,aA,a6,q,s)=>[.sli 5 Qi q s j]) (fun (aX,z,a0,a5,j,aA,a6,q,s)=>[.blk g7 [.int .u8 z,.string a0,.int .i64 0,.int .i64 a5,.slice q j.length s] 159,.blk g4 [.int .u8 0,.string ((⟨#[]⟩ : ByteArray)),.int .i64 0,.int .i64 0,V1] 159,.blk aG [.slice aB aC aD,.int .i64 aA,.bool a6] 194,.own 197 3 QP (.slice aB aC aD) l0]) (N,bE,bF,bG,bH,bI,bJ,bK,bL) hm [7,5,4,0,1] Z (asK [0] Z) Z (fun s_ hm=>?_)))
 obtain ⟨aX,z,a0,a5,j,aA,a6,q,s⟩:=s_
 try dsimp only at hm ⊢
 obtain ⟨cW,cX,c7,hq,hLu1⟩:=Q1e hm
 clear hm
 subst c7
 replace hm:=hq
 clear hq
 unfold Q3r at hm
 try dsimp only at hm
 refine Q5 (Q5 (Q1 (wP Z (wP Z ?_))))
 obtain ⟨cY,c8,hm⟩:=Q6 hm
 refine wC [2,3] [0,1] Z fn_222 Z (Q7E N aG aB aC aD l0 aA a6 a3 _ c8) (asK [] Z) Z (H':=[_,_]) Z ?_
 rintro _ _ _ ⟨rfl,rfl,rfl⟩
 refine Q3 (Q4 (Q2 [46,7,5,4,0,1] (S':=V6 ..) Z ?_))
 refine Qj Z (fun b5=>?_) (fun b5=>?_)
 replace hm:=QA hm b5
 refine Q2 [7,5,4,0,1] (S':=V5 ..) Z (Qq (Q4 (Qw (Q5 (Q1 (wP Z ?_))))))
 obtain ⟨⟨cS,b6,cT⟩,c9,hm⟩:=Q6 hm
 try dsimp only at hm
 refine wC [0,1] [2,3] Z Q7o Z (Q1k N aG aB aC aD l0 aA a6 _ _ _ c9) (asK [] Z) Z (H':=[_,_]) Z ?_
 rintro _ _ _ ⟨rfl,rfl,rfl⟩
 refine Q1B Z Z Z Zq (Q4p Z Z tFT_197_1 Q2E Q27 (v:=.string b6) Z) (wP Z (Q13 Z Z Z Zq Z Q2j Q8c Z (out:=V5 ..) Z (QE Z Z Z Zq Z Q2j Z (fun g8=>(wS 0 0 Z QQ (all':=V5 ..) Z (H':=V5 ..) Z (Q3 (Q4 (Q2 [8,7,5,4,0,1] (S':=V6 ..) Z (Q5 (Q1 (wP Z ?_)))))))))))
 obtain ⟨cU,cA,hm⟩:=Q6 hm
 refine wC [1,2] [0,3,4] Z Q7p Z (Q1h N aG aB aC aD l0 aA a6 _ cA) (asK [] Z) Z (H':=V3 ..) Z ?_
 rintro _ _ _ ⟨rfl,rfl,rfl⟩
 refine Q3 (Q4 (Q2 [8,7,5,4,0,1] (S':=V6 ..) Z (Q5 ?_)))
 obtain ⟨cB,hm⟩:=Qu hm
 obtain ⟨⟨aK,aL,aM,aN,bM,bN⟩,cC,hm⟩:=Q6 hm
 try dsimp only at hm
 refine Q18 [0,1,2,3,6] Z Z (fun hok=>(Qm hok 0 3 0 Z Z Z Zq Z Z Z Z (cs:=V5 ..) Z QQ Q1z Z Z (xP hok 1 Z (xP hok 2 Z (xP hok 3 Z (Q1D (d:=57) (v':=.int .i64 (a3 + 1)) (S':=V9 ..) Z Z (i64_in cB) (xS hok 4 Z (wC [0,1] [2,3,4] Z fn_206 Z (ih aG aB aC aD l0 cU a6 (a3 + 1) _ _ _ _ _ _ cC) (asK [] Z) Z (H':=V3 ..) Z ?_))))))))
 rintro _ _ _ ⟨aP,aQ,rfl,rfl,rfl⟩
 refine Q3 (QV [1] [3] Z Z (xS hok 5 Z (Qy Z Z Z Zq Z Q1Q QQ Q2j Z (zs:=[.int .u8 0,.string ((⟨#[]⟩ : ByteArray)),.int .i64 0,.int .i64 0,V1,.int .u8 0,.string ((⟨#[]⟩ : ByteArray)),.int .i64 0,.int .i64 0,V1]) (by kernel_rfl) Z (out:=V10 ..) Z (fun b8=>(Q3 (QV [0,1] [] Z Z (Q8 hok 6 Z Z Z Zq Z Z Z Q1s (xS hok 7 Z (wS 3 4 Z Q1U (all':=V5 ..) Z (H':=V6 ..) Z (Q3 (QV [0,1] [] Z Z (Q11 hok Z (Q4 (Q2 [8,7,5,4,0,1] (S':=V6 ..) Z ?_))))))))))))))
 refine Q5 (Q1 (QR 3 0 Z Z Z Zq Z Z Z (cs:=V5 ..) Z QQ Q1z Z Z (wS 4 0 Z QQ (all':=V5 ..) Z (H':=V6 ..) Z (Q3 (Q4 (Q2 [7,5,4,0,1] (S':=V5 ..) Z (Q5 (Q1 (wP Z (wP Z (Q3 (Q4 (Q2 [63,7,5,4,0,1] (S':=V6 ..) Z ?_)))))))))))))
 refine Qj Z (fun b7=>?_) (fun b7=>?_)
 replace hm:=QA hm b7
 refine Q2 [7,4] (S':=[_,_]) Z (Q5 (Q1 (QR 4 0 Z Z Z Zq Z Z Z (cs:=V5 ..) Z QQ Q1z Z Z (wS 5 0 Z QQ (all':=V5 ..) Z (H':=V6 ..) Z (Q3 (Q4 (Q2 [4] (S':=[_]) Z (Qb (Qg (Q7 (Qg (Q7 (we_row (sz:=5) (m:=2) Qi ([(⟨z,a0,0,a5,j⟩ : Qa),(⟨aK,aL,0,aM,aN⟩ : Qa)]) 0 Z (fun F w hφ=>⟨[.int .u8 z,.string a0,.int .i64 0,.int .i64 a5,.slice q j.length s],[.int .u8 aK,.string aL,.int .i64 0,.int .i64 aM,.slice aP aN.length aQ],Z,Z,(Q3d (q,s) Z (QS (hφ _ (Q10 (k:=1) Z)) Qr)),⟨[.int .u8 aK,.string aL,.int .i64 0,.int .i64 aM,.slice aP aN.length aQ],[],Z,Z,(Q3d (aP,aQ) Z (QS (hφ _ (Q10 (k:=0) Z)) Qr)),Z⟩⟩) Z (by decide) (H':=V6 ..) Z ?_)))))))))))))
 refine Q8g 0 Z (H':=V5 ..) Z (Q6W (.sli 5 Qi (some ⟨b8,0,none⟩) 2 ([(⟨z,a0,0,a5,j⟩ : Qa),(⟨aK,aL,0,aM,aN⟩ : Qa)])) (fun F w hφ=>Q1K (hφ _ (Q10 (k:=0) Z))) ?_)
 have hE:=(Zi hm).symm
 replace hE:=Qv hLu1 hE
 replace hE:=Qv hLj_2 hE
 obtain ⟨hE0,hF1⟩:=Prod.mk.inj hE
 obtain ⟨hE1,hF2⟩:=Prod.mk.inj hF1
 obtain ⟨hE2,hF3⟩:=Prod.mk.inj hF2
 obtain ⟨hE3,hF4⟩:=Prod.mk.inj hF3
 obtain ⟨hE4,hE5⟩:=Prod.mk.inj hF4
 clear hE hF1 hF2 hF3 hF4
 replace hE0:=hE0.symm
 subst hE0
 replace hE1:=hE1.symm
 subst hE1
 replace hE2:=hE2.symm
 subst hE2
 replace hE3:=hE3.symm
 subst hE3
 replace hE4:=hE4.symm
 subst hE4
 replace hE5:=hE5.symm
 subst hE5
 refine Ql (Hr:=[_,_]) [0,1] Tryz.results206 (QW 4 Z Z QQ Q1z Z Z) ⟨some ⟨b8,0,none⟩,2,Z,Z,Z⟩ (asK [0] Z) Z Z (.inl Z)
 replace hm:=Qz hm b7
 refine Q2 [7,5,4,0,1] (S':=V5 ..) Z (Qq (Qh (we_row (sz:=5) (m:=2) Qi ([(⟨z,a0,0,a5,j⟩ : Qa),(⟨aK,aL,0,aM,aN⟩ : Qa)]) 0 Z (fun F w hφ=>⟨[.int .u8 z,.string a0,.int .i64 0,.int .i64 a5,.slice q j.length s],[.int .u8 aK,.string aL,.int .i64 0,.int .i64 aM,.slice aP aN.length aQ],Z,Z,(Q3d (q,s) Z (QS (hφ _ (Q10 (k:=1) Z)) Qr)),⟨[.int .u8 aK,.string aL,.int .i64 0,.int .i64 aM,.slice aP aN.length aQ],[],Z,Z,(Q3d (aP,aQ) Z (QS (hφ _ (Q10 (k:=0) Z)) Qr)),Z⟩⟩) Z (by decide) (H':=V6 ..) Z (Q8g 0 Z (H':=V5 ..) Z (Q6W (.sli 5 Qi (some ⟨b8,0,none⟩) 2 ([(⟨z,a0,0,a5,j⟩ : Qa),(⟨aK,aL,0,aM,aN⟩ : Qa)])) (fun F w hφ=>Q1K (hφ _ (Q10 (k:=0) Z))) ?_)))))
 have hE:=(Zi hm).symm
 replace hE:=QO hLu1 hE
 refine Qs [3,4,0,1] Z (H':=V4 ..) Z ?_
 refine Q1a (_,16,b6,aS,[(⟨z,a0,0,a5,j⟩ : Qa),(⟨aK,aL,0,aM,aN⟩ : Qa)],bM,bN,some ⟨b8,0,none⟩,2) (Nat.lt_succ_self _) hE [7,5,4,0,1] Z (asK [0] Z) Z
 replace hm:=Qz hm b5
 refine Q2 [7,4] (S':=[_,_]) Z (Q1x (Qk (Qk (QJ ?_))))
 have hE:=(Zi hm).symm
 replace hE:=Qv hLu1 hE
 refine Qs [2,3,0,1] Z (H':=V4 ..) Z ?_
 refine Q9 (z,a0,a5,j,aA,a6,q,s) hE [7,4] Z (asK [0] Z) Z
 rintro ⟨aH,aI,aJ,a7,aE,aF,a8,a9⟩ hE
 try dsimp only
 have hm:=QO hLj_2 hE
 try dsimp only at hm
 refine Q5 (Q1 (QR 0 0 Z Z Z Zq Z Z Z (cs:=V5 ..) Z QQ Q1z Z Z (wS 1 0 Z QQ (all':=V5 ..) Z (H':=V4 ..) Z (Q3 (Q4 (Q2 [4] (S':=[_]) Z (Qb ?_)))))))
 have hE:=(Zi hm).symm
 obtain ⟨hE0,hF1⟩:=Prod.mk.inj hE
 obtain ⟨hE1,hF2⟩:=Prod.mk.inj hF1
 obtain ⟨hE2,hF3⟩:=Prod.mk.inj hF2
 obtain ⟨hE3,hF4⟩:=Prod.mk.inj hF3
 obtain ⟨hE4,hE5⟩:=Prod.mk.inj hF4
 clear hE hF1 hF2 hF3 hF4
 replace hE0:=hE0.symm
 subst hE0
 replace hE1:=hE1.symm
 subst hE1
 replace hE2:=hE2.symm
 subst hE2
 replace hE3:=hE3.symm
 subst hE3
 replace hE4:=hE4.symm
 subst hE4
 replace hE5:=hE5.symm
 subst hE5
 refine Ql (Hr:=[_,_]) [2,3] Tryz.results206 (QW 1 Z Z QQ Q1z Z Z) ⟨a8,a9,Z,Z,Z⟩ (asK [0] Z) Z Z (.inl Z)
theorem Q3R : ∀ (N:Nat),∀ (qg0:Nat) (qp1:OA) (qn2:Nat) (qc3:Nat) (l0:List Q1f) (a1:Int) (a2:Bool) (a3:Int) (o0:Int) (o1:ByteArray) (o2:Int) (o5:List Qa) (o6:Int) (o7:Bool),Q2l N l0 a1 a2 a3 = some (o0,o1,o2,o5,o6,o7) → Q1o Tryz.prog 206 [.pointer (some ⟨qg0,0,none⟩),.int .i64 a3] [] [.blk qg0 [.slice qp1 qn2 qc3,.int .i64 a1,.bool a2] 194,.own 197 3 QP (.slice qp1 qn2 qc3) l0] (fun v Φr Hr=>∃ (o3:OA) (o4:Nat),v = .agg #[.int .u8 o0,.string o1,.int .i64 0,.int .i64 o2,.slice o3 o5.length o4] ∧ Φr = [.sli 5 Qi o3 o4 o5] ∧ Hr = [.blk qg0 [.slice qp1 qn2 qc3,.int .i64 o6,.bool o7] 194,.own 197 3 QP (.slice qp1 qn2 qc3) l0]):=by
 intro N
 induction N with
 | zero=>intro qg0 qp1 qn2 qc3 l0 a1 a2 a3 o0 o1 o2 o5 o6 o7 hm; cases hm
 | succ N ih=>intro qg0 qp1 qn2 qc3 l0 a1 a2 a3 o0 o1 o2 o5 o6 o7 hm; exact Q7R N (Q2l N) ih qg0 qp1 qn2 qc3 l0 a1 a2 a3 o0 o1 o2 o5 o6 o7 hm
theorem Q41 (N:Nat) (aM:Nat) (aJ:OA) (aK:Nat) (aL:Nat) (l0:List Q1f) (a1:Int) (a2:Bool) (a3:Int) (o2:List Qa) (o4:Int) (o5:Bool) (hm:Q2C N l0 a1 a2 a3 = some (o2,o4,o5)):Q1o Tryz.prog 164 [.pointer (some ⟨aM,0,none⟩),.int .i64 a3] [] [.blk aM [.slice aJ aK aL,.int .i64 a1,.bool a2] 194,.own 197 3 QP (.slice aJ aK aL) l0] (fun v Φr Hr=>∃ (o0:OA) (o1:Nat) (o3:Nat),v = .slice o0 o3 o1 ∧ Φr = [] ∧ Hr = [.own 159 5 Qi (.slice o0 o3 o1) o2,.blk aM [.slice aJ aK aL,.int .i64 o4,.bool o5] 194,.own 197 3 QP (.slice aJ aK aL) l0]):=by
 unfold Q2C at hm
 refine QD Tryz.func164 Z Tryz.ntmps164 Z (S:=[_,_]) Z (fun C=>(Q5 (Q1 (wP Z (Q3 (Q4 (Q2 [0,1] (S':=[_,_]) Z (Q5 (Q1 (wP Z (Q3 (Q4 (Q5 (Q1 ?_))))))))))))))
 refine wP Z ?_
 obtain ⟨⟨b8,b9⟩,c5,hm⟩:=Q6 hm
 try dsimp only at hm
 refine wC [0,1] [] Z Q7F Z (Q1m N aM aJ aK aL l0 a1 a2 (⟨#[40]⟩ : ByteArray) _ _ c5) (asK [] Z) Z (H':=[]) Z ?_
 rintro _ _ _ ⟨rfl,rfl,rfl⟩
 refine Q3 (Q4 (Q2 [5,0,1] (S':=V3 ..) Z (Q5 ?_)))
 obtain ⟨bA,hm,hLj_1⟩:=Q6 hm
 refine QI (σ:=(List Qa) × Int × Bool × OA × Nat × Nat) (fun (aN,aA,aB,aC,aD,aE)=>bA = (aN,aA,aB)) (fun (aN,aA,aB,aC,aD,aE)=>[(5,.slice aC aE aD),(0,.pointer (some ⟨aM,0,none⟩))]) (fun (aN,aA,aB,aC,aD,aE)=>[]) (fun (aN,aA,aB,aC,aD,aE)=>[.own 159 5 Qi (.slice aC aE aD) aN,.blk aM [.slice aJ aK aL,.int .i64 aA,.bool aB] 194,.own 197 3 QP (.slice aJ aK aL) l0]) ?_ ?_
 refine Q5 (Q1 (wP Z ?_))
 obtain ⟨c6,bS,hm⟩:=Q6 hm
 refine wC [0,1] [] Z Q6h Z (Q17 N aM aJ aK aL l0 b8 b9 (⟨#[41]⟩ : ByteArray) _ bS) (asK [] Z) Z (H':=[]) Z ?_
 rintro _ _ _ ⟨rfl,rfl,rfl⟩
 refine wP Z (wP Z (Q3 (Q4 (Q2 [6,5,0,1] (S':=V4 ..) Z (Qw (Q3i 159 5 Qi (Q1E (σ:=Nat × Bool × (List Qa) × Int × Bool × OA × Nat × Nat) (fun (b0,aY,j,s,q,a5,a6,a7)=>Q1M (Q3F N l0 a3) b0 (aY,j,s,q) = some bA) (fun (b0,aY,j,s,q,a5,a6,a7)=>b0) (fun (b0,aY,j,s,q,a5,a6,a7)=>[(6,.bool aY),(5,.slice a5 a7 a6),(0,.pointer (some ⟨aM,0,none⟩)),(1,.int .i64 a3)]) (fun (b0,aY,j,s,q,a5,a6,a7)=>[]) (fun (b0,aY,j,s,q,a5,a6,a7)=>[.own 159 5 Qi (.slice a5 a7 a6) j,.blk aM [.slice aJ aK aL,.int .i64 s,.bool q] 194,.own 197 3 QP (.slice aJ aK aL) l0]) (N,!c6,[],b8,b9,none,0,0) hm [6,5,0,1] Z (asK [] Z) Z (fun s_ hm=>?_))))))))
 obtain ⟨b0,aY,j,s,q,a5,a6,a7⟩:=s_
 try dsimp only at hm ⊢
 obtain ⟨cG,cH,bT,hq,hLu1⟩:=Q1e hm
 clear hm
 subst bT
 replace hm:=hq
 clear hq
 unfold Q3F at hm
 try dsimp only at hm
 refine Q5 (Q5 ?_)
 obtain ⟨bU,hm,hLj_2⟩:=Q6 hm
 refine QI (σ:=Bool) (fun aO=>bU = aO) (fun aO=>[(5,.slice a5 a7 a6),(0,.pointer (some ⟨aM,0,none⟩)),(1,.int .i64 a3),(19,.bool aO)]) (fun aO=>[]) (fun aO=>[.own 159 5 Qi (.slice a5 a7 a6) j,.blk aM [.slice aJ aK aL,.int .i64 s,.bool q] 194,.own 197 3 QP (.slice aJ aK aL) l0]) ?_ ?_
 refine Q1 (wP Z (wP Z ?_))
 refine Qt (d:=13) (S':=V5 ..) Z Z (fun b1=>?_) (fun b1=>?_)
 replace hm:=QA hm b1
 refine wP Z (wP Z (wF Z Q4U (wD 1 2 Z tS_4 tA_4 Z (wP Z (wP Z (Q3 ?_))))))
 have hE:=(Zi hm).symm
 refine Q9 (!q) hE [5,0,1,19] Z (asK [] Z) Z
 replace hm:=Qz hm b1
 refine wO Z (wO Z (wO Z (wO Z (wO Z (wP Z (Q3 ?_))))))
 have hE:=(Zi hm).symm
 refine Q9 false hE [5,0,1,19] Z (asK [] Z) Z
 rintro aO hE
 try dsimp only
 have hm:=hLj_2
 rw [hE] at hm
 refine Qj Z (fun b2=>?_) (fun b2=>?_)
 replace hm:=QA hm b2
 refine Q2 [5,0,1] (S':=V3 ..) Z (Qq (Q4 (Q5 ?_)))
 obtain ⟨bV,hm,hLj_3⟩:=Q6 hm
 unfold Q5G at hm
 refine QI (σ:=(List Qa) × Int × Bool × OA × Nat × Nat) (fun (aF,a8,a9,aG,aH,aI)=>bV = (aF,a8,a9)) (fun (aF,a8,a9,aG,aH,aI)=>[(5,.slice aG aI aH),(0,.pointer (some ⟨aM,0,none⟩)),(1,.int .i64 a3)]) (fun (aF,a8,a9,aG,aH,aI)=>[]) (fun (aF,a8,a9,aG,aH,aI)=>[.own 159 5 Qi (.slice aG aI aH) aF,.blk aM [.slice aJ aK aL,.int .i64 a8,.bool a9] 194,.own 197 3 QP (.slice aJ aK aL) l0]) ?_ ?_
 refine Qw (Q5 ?_)
 obtain ⟨bW,hm,hLj_4⟩:=Q6 hm
 refine QI (σ:=Int × Bool) (fun (z,a0)=>bW = (z,a0)) (fun (z,a0)=>[(5,.slice a5 a7 a6),(0,.pointer (some ⟨aM,0,none⟩)),(1,.int .i64 a3)]) (fun (z,a0)=>[]) (fun (z,a0)=>[.own 159 5 Qi (.slice a5 a7 a6) j,.blk aM [.slice aJ aK aL,.int .i64 z,.bool a0] 194,.own 197 3 QP (.slice aJ aK aL) l0]) ?_ ?_
 refine Q5 (Q1 (wP Z (Q15 0 Z (fun bX _=>(wN Z Q1Q (QH (d:=23) (v':=.int .i64 ((j.length:Nat):Int)) (S':=V4 ..) Z Z (Q4Y bX) (wP Z (QH (d:=24) (v':=.bool (decide (0 < j.length))) (S':=V5 ..) Z Z (natgt (a:=j.length) (b:=0)) (Q3 (Q4 (Q2 [24,5,0,1] (S':=V4 ..) Z ?_)))))))))))
 refine Qj Z (fun b3=>?_) (fun b3=>?_)
 replace hm:=QA hm b3
 refine Q2 [5,0,1] (S':=V3 ..) Z (Q1 (wP Z ?_))
 obtain ⟨⟨bE,bF⟩,bY,hm⟩:=Q6 hm
 try dsimp only at hm
 refine wC [1,2] [0] Z Q7F Z (Q1m N aM aJ aK aL l0 s q (⟨#[44]⟩ : ByteArray) _ _ bY) (asK [] Z) Z (H':=[_]) Z ?_
 rintro _ _ _ ⟨rfl,rfl,rfl⟩
 refine Q3 ?_
 have hE:=(Zi hm).symm
 refine Qs [2,0,1] Z (H':=V3 ..) Z ?_
 refine Q9 (bE,bF) hE [5,0,1] Z (asK [] Z) Z
 replace hm:=Qz hm b3
 refine Q2 [5,0,1] (S':=V3 ..) Z (Qq ?_)
 have hE:=(Zi hm).symm
 refine Q9 (s,q) hE [5,0,1] Z (asK [] Z) Z
 rintro ⟨z,a0⟩ hE
 try dsimp only
 have hm:=hLj_4
 rw [hE] at hm
 try dsimp only at hm
 refine Q5 (Q1 (wP Z (Q3 (Q4 (Qw (Q5 (Q1 (wP Z (wP Z (Q3 (Q4 (Q2 [33,27,5,0,1] (S':=V5 ..) Z ?_))))))))))))
 refine Qj Z (fun b4=>?_) (fun b4=>?_)
 replace hm:=QA hm b4
 refine Q2 [5,0,1] (S':=V3 ..) Z (Q1 (wP Z (wP Z ?_)))
 obtain ⟨⟨aP,aQ,bG,bH⟩,bZ,hm⟩:=Q6 hm
 try dsimp only at hm
 refine wC [1,2] [0] Z Q8I Z (Q1C N aM aJ aK aL l0 z a0 2 3 _ _ _ _ bZ) (asK [] Z) Z (H':=[_]) Z ?_
 rintro _ _ _ ⟨rfl,rfl,rfl⟩
 refine Qy Z Z Z Zq Z Q1Q QQ Q2j Z (zs:=[.int .u8 0,.string ((⟨#[]⟩ : ByteArray)),.int .i64 0,.int .i64 0,V1]) (by kernel_rfl) Z (out:=V5 ..) Z (fun cI=>?_)
 obtain ⟨bB,hm⟩:=Qu hm
 refine Q1S ([(⟨3,aP,0,aQ,[]⟩ : Qa)]) 3 0 Z Z Z Zq Z Z Z Z Z (fun F w hφ=>⟨[.int .u8 3,.string aP,.int .i64 0,.int .i64 aQ,V1],[],Z,Z,(Q3d (none,0) Z (QS Q3Q Qr)),Z⟩) Q1Q tR_159 Z Z (Nat.le_trans bB (by decide)) (Nat.le_trans (Nat.mul_le_mul_right _ bB) (by decide)) (H2:=fun bI bJ=>[_,_,_,.own 159 5 Qi (.slice bI ((j ++ ([(⟨3,aP,0,aQ,[]⟩ : Qa)])).length) bJ) (j ++ ([(⟨3,aP,0,aQ,[]⟩ : Qa)]))]) (fun _ _=>Z) (fun bI bJ=>(Q2s 0 Z (H':=V3 ..) Z (Q1b (S':=V7 ..) Z Z Z Z Z (Q3 (Qh (Qh ?_))))))
 have hE:=(Zi hm).symm
 refine Qs [2,0,1] Z (H':=V3 ..) Z ?_
 refine Q9 ((j ++ ([(⟨3,aP,0,aQ,[]⟩ : Qa)])),bG,bH,bI,bJ,((j ++ ([(⟨3,aP,0,aQ,[]⟩ : Qa)])).length)) hE [5,0,1] Z (asK [] Z) Z
 replace hm:=Qz hm b4
 refine Q2 [27,5,0,1] (S':=V4 ..) Z (Q5 (Q1 (wP Z (wP Z (Q3 (Q4 (Q2 [40,5,0,1] (S':=V4 ..) Z ?_)))))))
 refine Qj Z (fun b5=>?_) (fun b5=>?_)
 replace hm:=QA hm b5
 refine Q2 [5,0,1] (S':=V3 ..) Z (Q1 (wP Z (wP Z ?_)))
 obtain ⟨⟨aR,aS,aT,bK,bL⟩,c0,hm⟩:=Q6 hm
 try dsimp only at hm
 refine wC [1,2] [0] Z fn_205 Z (Q8P N aM aJ aK aL l0 z a0 _ _ _ _ _ c0) (asK [] Z) Z (H':=[_]) Z ?_
 rintro _ _ _ ⟨rfl,rfl,rfl⟩
 refine Qy Z Z Z Zq Z Q1Q QQ Q2j Z (zs:=[.int .u8 0,.string ((⟨#[]⟩ : ByteArray)),.int .i64 0,.int .i64 0,V1]) (by kernel_rfl) Z (out:=V5 ..) Z (fun cJ=>?_)
 obtain ⟨bC,hm⟩:=Qu hm
 refine Q1S ([(⟨aR,aS,0,aT,[]⟩ : Qa)]) 3 0 Z Z Z Zq Z Z Z Z Z (fun F w hφ=>⟨[.int .u8 aR,.string aS,.int .i64 0,.int .i64 aT,V1],[],Z,Z,(Q3d (none,0) Z (QS Q3Q Qr)),Z⟩) Q1Q tR_159 Z Z (Nat.le_trans bC (by decide)) (Nat.le_trans (Nat.mul_le_mul_right _ bC) (by decide)) (H2:=fun bM bN=>[_,_,_,.own 159 5 Qi (.slice bM ((j ++ ([(⟨aR,aS,0,aT,[]⟩ : Qa)])).length) bN) (j ++ ([(⟨aR,aS,0,aT,[]⟩ : Qa)]))]) (fun _ _=>Z) (fun bM bN=>(Q2s 0 Z (H':=V3 ..) Z (Q1b (S':=V7 ..) Z Z Z Z Z (Q3 (Qh (Qh ?_))))))
 have hE:=(Zi hm).symm
 refine Qs [2,0,1] Z (H':=V3 ..) Z ?_
 refine Q9 ((j ++ ([(⟨aR,aS,0,aT,[]⟩ : Qa)])),bK,bL,bM,bN,((j ++ ([(⟨aR,aS,0,aT,[]⟩ : Qa)])).length)) hE [5,0,1] Z (asK [] Z) Z
 replace hm:=Qz hm b5
 refine Q2 [5,0,1] (S':=V3 ..) Z (Q1 (wP Z (wP Z ?_)))
 obtain ⟨⟨aU,aV,aW,aX,bO,bP⟩,c1,hm⟩:=Q6 hm
 try dsimp only at hm
 refine wC [1,2] [0] Z fn_206 Z (Q3R N aM aJ aK aL l0 z a0 0 _ _ _ _ _ _ c1) (asK [] Z) Z (H':=[_]) Z ?_
 rintro _ _ _ ⟨b6,b7,rfl,rfl,rfl⟩
 refine Qy Z Z Z Zq Z Q1Q QQ Q2j Z (zs:=[.int .u8 0,.string ((⟨#[]⟩ : ByteArray)),.int .i64 0,.int .i64 0,V1]) (by kernel_rfl) Z (out:=V5 ..) Z (fun cK=>?_)
 obtain ⟨bD,hm⟩:=Qu hm
 refine Q1S ([(⟨aU,aV,0,aW,aX⟩ : Qa)]) 3 0 Z Z Z Zq Z Z Z Z Z (fun F w hφ=>⟨[.int .u8 aU,.string aV,.int .i64 0,.int .i64 aW,.slice b6 aX.length b7],[],Z,Z,(Q3d (b6,b7) Z (QS (hφ _ (Q10 (k:=0) Z)) Qr)),Z⟩) Q1Q tR_159 Z Z (Nat.le_trans bD (by decide)) (Nat.le_trans (Nat.mul_le_mul_right _ bD) (by decide)) (H2:=fun bQ bR=>[_,_,_,.own 159 5 Qi (.slice bQ ((j ++ ([(⟨aU,aV,0,aW,aX⟩ : Qa)])).length) bR) (j ++ ([(⟨aU,aV,0,aW,aX⟩ : Qa)]))]) (fun _ _=>Z) (fun bQ bR=>(Q2s 0 Z (H':=V3 ..) Z (Q1b (S':=V7 ..) Z Z Z Z Z (Q3 (Qh (Qh ?_))))))
 have hE:=(Zi hm).symm
 refine Qs [2,0,1] Z (H':=V3 ..) Z ?_
 refine Q9 ((j ++ ([(⟨aU,aV,0,aW,aX⟩ : Qa)])),bO,bP,bQ,bR,((j ++ ([(⟨aU,aV,0,aW,aX⟩ : Qa)])).length)) hE [5,0,1] Z (asK [] Z) Z
 rintro ⟨aF,a8,a9,aG,aH,aI⟩ hE
 try dsimp only
 have hm:=hLj_3
 rw [hE] at hm
 try dsimp only at hm
 refine Q1 (wP Z ?_)
 obtain ⟨c7,c2,hm⟩:=Q6 hm
 refine wC [1,2] [0] Z Q6h Z (Q17 N aM aJ aK aL l0 a8 a9 (⟨#[44]⟩ : ByteArray) _ c2) (asK [] Z) Z (H':=[_]) Z ?_
 rintro _ _ _ ⟨rfl,rfl,rfl⟩
 refine wP Z (Q3 ?_)
 have hE:=(Zi hm).symm
 replace hE:=QO hLu1 hE
 refine Qs [2,0,1] Z (H':=V3 ..) Z ?_
 refine Q1a (_,c7,aF,a8,a9,aG,aH,aI) (Nat.lt_succ_self _) hE [6,5,0,1] Z (asK [] Z) Z
 replace hm:=Qz hm b2
 refine Q2 [5,0] (S':=[_,_]) Z (Q1x (Qk (Qk (QJ ?_))))
 have hE:=(Zi hm).symm
 replace hE:=Qv hLu1 hE
 refine Q9 (j,s,q,a5,a6,a7) hE [5,0] Z (asK [] Z) Z
 rintro ⟨aN,aA,aB,aC,aD,aE⟩ hE
 try dsimp only
 have hm:=hLj_1
 rw [hE] at hm
 try dsimp only at hm
 refine Q5 (Q1 (wP Z ?_))
 obtain ⟨⟨c8,c9⟩,c3,hm⟩:=Q6 hm
 try dsimp only at hm
 refine wC [1,2] [0] Z Q7F Z (Q1m N aM aJ aK aL l0 aA aB (⟨#[41]⟩ : ByteArray) _ _ c3) (asK [] Z) Z (H':=[_]) Z ?_
 rintro _ _ _ ⟨rfl,rfl,rfl⟩
 refine Q3 (Q4 (Q2 [5] (S':=[_]) Z (Q5 (Q1 (wP Z (wP Z (Q3 (Q4 (Q2 [4] (S':=[_]) Z (Qb ?_))))))))))
 have hE:=(Zi hm).symm
 obtain ⟨hE0,hF1⟩:=Prod.mk.inj hE
 obtain ⟨hE1,hE2⟩:=Prod.mk.inj hF1
 clear hE hF1
 replace hE0:=hE0.symm
 subst hE0
 replace hE1:=hE1.symm
 subst hE1
 replace hE2:=hE2.symm
 subst hE2
 refine Ql (Hr:=V3 ..) [2,0,1] Tryz.results164 (Qc Z) ⟨aC,aD,aE,Z,Z,Z⟩ (asK [] Z) Z Z (.inl Z)
theorem Q5C (N:Nat) (a0:Nat) (q:OA) (s:Nat) (z:Nat) (l0:List Q1f) (a1:Int) (a2:Bool) (o0:Int) (o1:Int) (o2:Bool) (hm:Q2Q N l0 a1 a2 = some (o0,o1,o2)):Q1o Tryz.prog 166 [.pointer (some ⟨a0,0,none⟩)] [] [.blk a0 [.slice q s z,.int .i64 a1,.bool a2] 194,.own 197 3 QP (.slice q s z) l0] (fun v Φr Hr=>v = .int .i64 o0 ∧ Φr = [] ∧ Hr = [.blk a0 [.slice q s z,.int .i64 o1,.bool o2] 194,.own 197 3 QP (.slice q s z) l0]):=by
 unfold Q2Q at hm
 refine QD Tryz.func166 Z Tryz.ntmps166 Z (S:=[_]) Z (fun C=>(Q5 (Q1 (wP Z (Q3 (Q4 (Q2 [0] (S':=[_]) Z (Q5 (Q1 (wP Z ?_))))))))))
 obtain ⟨⟨aN,a8,aO⟩,aG,hm⟩:=Q6 hm
 try dsimp only at hm
 refine wC [0,1] [] Z Q7o Z (Q1k N a0 q s z l0 a1 a2 _ _ _ aG) (asK [] Z) Z (H':=[]) Z ?_
 rintro _ _ _ ⟨rfl,rfl,rfl⟩
 refine Q1B Z Z Z Zq (Q4p Z Z tFT_197_1 Q2E Q27 (v:=.string a8) Z) ?_
 obtain ⟨⟨a9,aP⟩,aH,hm⟩:=Q6 hm
 try dsimp only at hm
 refine wC [] [0,1] Z fn_202 Z (Q2O N a8 _ _ aH) (asK [] Z) Z (H':=[_,_]) Z ?_
 rintro _ _ _ ⟨rfl,rfl,rfl⟩
 refine wP Z (wP Z (wP Z (wP Z (wP Z (Q3 (Q4 (Q2 [4,3,0] (S':=V3 ..) Z (Q5 (Q5 ?_)))))))))
 obtain ⟨aD,hm,hLj_1⟩:=Q6 hm
 unfold Q59 at hm
 refine QI (σ:=Bool) (fun j=>aD = j) (fun j=>[(3,.int .i64 a9),(0,.pointer (some ⟨a0,0,none⟩)),(23,.bool j)]) (fun j=>[]) (fun j=>[.blk a0 [.slice q s z,.int .i64 a1,.bool a2] 194,.own 197 3 QP (.slice q s z) l0]) ?_ ?_
 refine Q1 (wP Z ?_)
 obtain ⟨⟨aB,aI,aJ⟩,aE,hm⟩:=Q6 hm
 try dsimp only at hm
 refine wC [0,1] [] Z Q7o Z (Q1k N a0 q s z l0 a1 a2 _ _ _ aE) (asK [] Z) Z (H':=[]) Z ?_
 rintro _ _ _ ⟨rfl,rfl,rfl⟩
 refine Q1B Z Z Z Zq (Q4p Z Z tFT_197_0 Qa2 Q8M (v:=.int .u8 aB) Z) (wP Z (wP Z ?_))
 refine Qt (d:=16) (S':=V7 ..) Z Z (fun a5=>?_) (fun a5=>?_)
 replace hm:=QA hm a5
 refine wO Z (wO Z (wP Z (wP Z (wO Z (wO Z (wP Z (Q3 ?_)))))))
 have hE:=(Zi hm).symm
 refine Q9 true hE [3,0,23] Z (asK [] Z) Z
 replace hm:=Qz hm a5
 refine wP Z (wP Z (wP Z (wP Z ?_)))
 refine Qt (d:=20) (S':=V11 ..) Z Z (fun a6=>?_) (fun a6=>?_)
 replace hm:=QA hm a6
 refine wO Z (wO Z (wP Z (Q3 ?_)))
 have hE:=(Zi hm).symm
 refine Q9 true hE [3,0,23] Z (asK [] Z) Z
 replace hm:=Qz hm a6
 refine wP Z (wP Z (wP Z (Q3 ?_)))
 have hE:=(Zi hm).symm
 refine Q9 (decide (a9 ≥ 2147483648)) hE [3,0,23] Z (asK [] Z) Z
 rintro j hE
 try dsimp only
 have hm:=hLj_1
 rw [hE] at hm
 refine Qj Z (fun a7=>?_) (fun a7=>?_)
 replace hm:=QA hm a7
 refine Q2 [0] (S':=[_]) Z (Q5 (Q1 (wP Z (wP Z (wF Z Q4U (wS 0 2 Z tS_4 (all':=V3 ..) Z (H':=[_,_]) Z (Q3 (Q4 (Q2 [] (S':=[]) Z (Q5 (Q1 (wP Z (Q3 ?_)))))))))))))
 refine Q4 (Qb (Q7 ?_))
 have hE:=(Zi hm).symm
 obtain ⟨hE0,hF1⟩:=Prod.mk.inj hE
 obtain ⟨hE1,hE2⟩:=Prod.mk.inj hF1
 clear hE hF1
 replace hE0:=hE0.symm
 subst hE0
 replace hE1:=hE1.symm
 subst hE1
 replace hE2:=hE2.symm
 subst hE2
 refine Ql (Hr:=[_,_]) [0,1] Tryz.results166 (Qc Z) ⟨Z,Z,Z⟩ (asK [] Z) Z Z (.inl Z)
 replace hm:=Qz hm a7
 refine Q2 [3,0] (S':=[_,_]) Z (Qq (Q4 (Q5 (Q1 (wP Z ?_)))))
 obtain ⟨aQ,aF,hm⟩:=Q6 hm
 refine wC [0,1] [] Z Q7p Z (Q1h N a0 q s z l0 a1 a2 _ aF) (asK [] Z) Z (H':=[]) Z ?_
 rintro _ _ _ ⟨rfl,rfl,rfl⟩
 refine Q3 (Q4 (Q2 [3] (S':=[_]) Z (Q5 (Q1 (wP Z (wP Z (Q3 (Q4 (Q2 [2] (S':=[_]) Z (Qb ?_))))))))))
 have hE:=(Zi hm).symm
 obtain ⟨hE0,hF1⟩:=Prod.mk.inj hE
 obtain ⟨hE1,hE2⟩:=Prod.mk.inj hF1
 clear hE hF1
 replace hE0:=hE0.symm
 subst hE0
 replace hE1:=hE1.symm
 subst hE1
 replace hE2:=hE2.symm
 subst hE2
 refine Ql (Hr:=[_,_]) [0,1] Tryz.results166 (Qc Z) ⟨Z,Z,Z⟩ (asK [] Z) Z Z (.inl Z)
theorem Q8E (N:Nat) (a0:Nat) (q:OA) (s:Nat) (z:Nat) (l0:List Q1f) (a1:Int) (a2:Bool) (o0:Int) (o1:ByteArray) (o2:Int) (o5:List Qa) (o6:Int) (o7:Bool) (hm:Q44 N l0 a1 a2 = some (o0,o1,o2,o5,o6,o7)):Q1o Tryz.prog 167 [.pointer (some ⟨a0,0,none⟩)] [] [.blk a0 [.slice q s z,.int .i64 a1,.bool a2] 194,.own 197 3 QP (.slice q s z) l0] (fun v Φr Hr=>∃ (o3:OA) (o4:Nat),v = .agg #[.int .u8 o0,.string o1,.int .i64 0,.int .i64 o2,.slice o3 o5.length o4] ∧ Φr = [.sli 5 Qi o3 o4 o5] ∧ Hr = [.blk a0 [.slice q s z,.int .i64 o6,.bool o7] 194,.own 197 3 QP (.slice q s z) l0]):=by
 unfold Q44 at hm
 refine QD Tryz.func167 Z Tryz.ntmps167 Z (S:=[_]) Z (fun C=>(Q5 (Q1 (QE Z Z Z Zq Z Q2j Z (fun g2=>(Q3 (Q4 (Q5 (Q1 (wP Z ?_))))))))))
 obtain ⟨⟨bL,bM,aJ⟩,b3,hm⟩:=Q6 hm
 try dsimp only at hm
 refine wC [1,2] [0] Z Q7o Z (Q1k N a0 q s z l0 a1 a2 _ _ _ b3) (asK [] Z) Z (H':=[_]) Z ?_
 rintro _ _ _ ⟨rfl,rfl,rfl⟩
 refine Q1B Z Z Z Zq (Q4p Z Z Qam Q1N Q1A (v:=.int .i64 aJ) Z) (wP Z (Q3 (Q4 (Q2 [3,2,0] (S':=V3 ..) Z (Q5 (Q5 (Q1 (wP Z ?_))))))))
 obtain ⟨bN,aR,hm⟩:=Q6 hm
 refine wC [0,1] [2] Z Q6h Z (Q17 N a0 q s z l0 a1 a2 (⟨#[116,101,115,116]⟩ : ByteArray) _ aR) (asK [] Z) Z (H':=[_]) Z ?_
 rintro _ _ _ ⟨rfl,rfl,rfl⟩
 refine Q3 (Q4 (Q2 [11,3,2,0] (S':=V4 ..) Z ?_))
 refine Qj Z (fun aB=>?_) (fun aB=>?_)
 replace hm:=QA hm aB
 refine Q2 [3,2,0] (S':=V3 ..) Z (Q5 (Q1 (wP Z ?_)))
 obtain ⟨b4,aS,hm⟩:=Q6 hm
 refine wC [0,1] [2] Z Q7p Z (Q1h N a0 q s z l0 a1 a2 _ aS) (asK [] Z) Z (H':=[_]) Z ?_
 rintro _ _ _ ⟨rfl,rfl,rfl⟩
 refine Q3 (Q4 (Q2 [3,2,0] (S':=V3 ..) Z (Q5 (Q1 (wP Z (wP Z ?_))))))
 obtain ⟨⟨a6,a7,a8,a9,aK,aL⟩,aT,hm⟩:=Q6 hm
 try dsimp only at hm
 refine wC [0,1] [2] Z fn_206 Z (Q3R N a0 q s z l0 b4 a2 0 _ _ _ _ _ _ aT) (asK [] Z) Z (H':=[_]) Z ?_
 rintro _ _ _ ⟨aC,aD,rfl,rfl,rfl⟩
 refine Qy Z Z Z Zq Z Q1Q QQ Q2j Z (zs:=[.int .u8 0,.string ((⟨#[]⟩ : ByteArray)),.int .i64 0,.int .i64 0,V1]) (by kernel_rfl) Z (out:=V5 ..) Z (fun aU=>(Q13 Z Z Z Zq Z Q2j Q8c Z (out:=V5 ..) Z (QE Z Z Z Zq Z Q2j Z (fun g4=>(wS 0 0 Z QQ (all':=V5 ..) Z (H':=V5 ..) Z (Q3 (Q4 (Q2 [4,2,0] (S':=V3 ..) Z (Q5 (Q1 (wP Z ?_)))))))))))
 obtain ⟨⟨b5,b6⟩,aV,hm⟩:=Q6 hm
 try dsimp only at hm
 refine wC [2,3] [0,1,4] Z Q7F Z (Q1m N a0 q s z l0 aK aL (⟨#[59]⟩ : ByteArray) _ _ aV) (asK [] Z) Z (H':=V3 ..) Z ?_
 rintro _ _ _ ⟨rfl,rfl,rfl⟩
 refine Q3 (Q4 (Q2 [4,2] (S':=[_,_]) Z (Q5 (Q1 (QR 2 0 Z Z Z Zq Z Z Z (cs:=V5 ..) Z QQ Q1z Z Z (wS 4 0 Z QQ (all':=V5 ..) Z (H':=V5 ..) Z (Q3 (Q4 (Q2 [2] (S':=[_]) Z (Qb (Q7 (we_row (sz:=5) (m:=1) Qi ([(⟨a6,a7,0,a8,a9⟩ : Qa)]) 3 Z (fun F w hφ=>⟨[.int .u8 a6,.string a7,.int .i64 0,.int .i64 a8,.slice aC a9.length aD],[],Z,Z,(Q3d (aC,aD) Z (QS (hφ _ (Q10 (k:=0) Z)) Qr)),Z⟩) Z (by decide) (H':=V5 ..) Z (Q8g 3 Z (H':=V4 ..) Z ?_)))))))))))))
 refine Q6W (.sli 5 Qi (some ⟨aU,0,none⟩) 1 ([(⟨a6,a7,0,a8,a9⟩ : Qa)])) (fun F w hφ=>Q1K (hφ _ (Q10 (k:=0) Z))) ?_
 have hE:=(Zi hm).symm
 obtain ⟨hE0,hF1⟩:=Prod.mk.inj hE
 obtain ⟨hE1,hF2⟩:=Prod.mk.inj hF1
 obtain ⟨hE2,hF3⟩:=Prod.mk.inj hF2
 obtain ⟨hE3,hF4⟩:=Prod.mk.inj hF3
 obtain ⟨hE4,hE5⟩:=Prod.mk.inj hF4
 clear hE hF1 hF2 hF3 hF4
 replace hE0:=hE0.symm
 subst hE0
 replace hE1:=hE1.symm
 subst hE1
 replace hE2:=hE2.symm
 subst hE2
 replace hE3:=hE3.symm
 subst hE3
 replace hE4:=hE4.symm
 subst hE4
 replace hE5:=hE5.symm
 subst hE5
 refine Ql (Hr:=[_,_]) [0,1] Tryz.results167 (QW 3 Z Z QQ Q1z Z Z) ⟨some ⟨aU,0,none⟩,1,Z,Z,Z⟩ (asK [0] Z) Z Z (.inl Z)
 replace hm:=Qz hm aB
 refine Q2 [3,2,0] (S':=V3 ..) Z (Qq (Q4 (Q5 (Q1 (wP Z (Q3 (Q4 (Q5 ?_))))))))
 obtain ⟨aW,hm,hLj_1⟩:=Q6 hm
 refine QI (σ:=Int × Nat) (fun (j,a5)=>aW = (j,a5)) (fun (j,a5)=>[(3,.int .i64 aJ),(2,.pointer (some ⟨g2,0,none⟩)),(0,.pointer (some ⟨a0,0,none⟩)),(5,.int .u8 ((a5:Nat):Int))]) (fun (j,a5)=>[]) (fun (j,a5)=>[.blk g2 [.int .u8 0,.string ((⟨#[]⟩ : ByteArray)),.int .i64 0,.int .i64 0,V1] 159,.blk a0 [.slice q s z,.int .i64 j,.bool a2] 194,.own 197 3 QP (.slice q s z) l0]) ?_ ?_
 refine Q5 (Q1 (wP Z ?_))
 obtain ⟨bO,aX,hm⟩:=Q6 hm
 refine wC [0,1] [2] Z Q6h Z (Q17 N a0 q s z l0 a1 a2 (⟨#[110,111,116]⟩ : ByteArray) _ aX) (asK [] Z) Z (H':=[_]) Z ?_
 rintro _ _ _ ⟨rfl,rfl,rfl⟩
 refine Q3 (Q4 (Q2 [23,5,3,2,0] (S':=V5 ..) Z ?_))
 refine Qj Z (fun aE=>?_) (fun aE=>?_)
 replace hm:=QA hm aE
 refine Q2 [3,2,0] (S':=V3 ..) Z (Q5 (Q1 (wP Z (Q3 (Q4 (Q1 (wP Z ?_)))))))
 obtain ⟨b7,aY,hm⟩:=Q6 hm
 refine wC [0,1] [2] Z Q7p Z (Q1h N a0 q s z l0 a1 a2 _ aY) (asK [] Z) Z (H':=[_]) Z ?_
 rintro _ _ _ ⟨rfl,rfl,rfl⟩
 refine Q3 ?_
 have hE:=(Zi hm).symm
 refine Qs [2,0,1] Z (H':=V3 ..) Z ?_
 refine Q9 (b7,6) hE [3,2,0,5] Z (asK [] Z) Z
 replace hm:=Qz hm aE
 refine Q2 [5,3,2,0] (S':=V4 ..) Z (Qq ?_)
 have hE:=(Zi hm).symm
 refine Qs [2,0,1] Z (H':=V3 ..) Z ?_
 refine Q9 (a1,5) hE [3,2,0,5] Z (asK [] Z) Z
 rintro ⟨j,a5⟩ hE
 try dsimp only
 have hm:=hLj_1
 rw [hE] at hm
 try dsimp only at hm
 refine Q5 (Q1 (wP Z (wP Z ?_)))
 obtain ⟨⟨b8,b9,aM,aN⟩,aZ,hm⟩:=Q6 hm
 try dsimp only at hm
 refine wC [1,2] [0] Z Q8I Z (Q1C N a0 q s z l0 j a2 2 ((a5:Nat):Int) _ _ _ _ aZ) (asK [] Z) Z (H':=[_]) Z ?_
 rintro _ _ _ ⟨rfl,rfl,rfl⟩
 refine QE Z Z Z Zq Z Q2j Z (fun g6=>(wS 0 0 Z QQ (all':=V5 ..) Z (H':=V4 ..) Z (Q3 (Q4 (Q2 [6,3,2,0] (S':=V4 ..) Z (Q5 (Q1 (wP Z (wF Z Qan (wS 0 3 Z Q1A (all':=V5 ..) Z (H':=V4 ..) Z (Q3 (Q4 (Q2 [6,2,0] (S':=V3 ..) Z (Q5 ?_))))))))))))))
 refine Q1 (wP Z ?_)
 obtain ⟨⟨aO,aP,aQ⟩,b0,hm⟩:=Q6 hm
 try dsimp only at hm
 refine wC [1,2] [0,3] Z fn_164 Z (Q41 N a0 q s z l0 aM aN 1 _ _ _ b0) (asK [] Z) Z (H':=[_,_]) Z ?_
 rintro _ _ _ ⟨aF,aG,bA,rfl,rfl,rfl⟩
 refine wF Z Q1s (wS 3 4 Z Q1U (all':=V5 ..) Z (H':=V5 ..) Z (Q3 (Q4 (Q2 [6,2,0] (S':=V3 ..) Z (Q5 (Q1 (wP Z ?_)))))))
 obtain ⟨⟨bB,bC⟩,b1,hm⟩:=Q6 hm
 try dsimp only at hm
 refine wC [1,2] [0,3,4] Z Q7F Z (Q1m N a0 q s z l0 aP aQ (⟨#[59]⟩ : ByteArray) _ _ b1) (asK [] Z) Z (H':=V3 ..) Z ?_
 rintro _ _ _ ⟨rfl,rfl,rfl⟩
 refine Q3 (Q4 (Q2 [6,2] (S':=[_,_]) Z (Q5 (Q1 (QR 3 0 Z Z Z Zq Z Z Z (cs:=V5 ..) Z QQ Q1z Z Z (wS 4 0 Z QQ (all':=V5 ..) Z (H':=V5 ..) Z (Q3 (Q4 (Q2 [2] (S':=[_]) Z (Qb ?_))))))))))
 have hE:=(Zi hm).symm
 obtain ⟨hE0,hF1⟩:=Prod.mk.inj hE
 obtain ⟨hE1,hF2⟩:=Prod.mk.inj hF1
 obtain ⟨hE2,hF3⟩:=Prod.mk.inj hF2
 obtain ⟨hE3,hF4⟩:=Prod.mk.inj hF3
 obtain ⟨hE4,hE5⟩:=Prod.mk.inj hF4
 clear hE hF1 hF2 hF3 hF4
 replace hE0:=hE0.symm
 subst hE0
 replace hE1:=hE1.symm
 subst hE1
 replace hE2:=hE2.symm
 subst hE2
 replace hE3:=hE3.symm
 subst hE3
 replace hE4:=hE4.symm
 subst hE4
 replace hE5:=hE5.symm
 subst hE5
 refine we_ownLen 2 Z (fun aH _=>?_)
 subst aH
 refine Q8g 2 Z (H':=V4 ..) Z (Q6W (.sli 5 Qi aF aG aO) (fun F w hφ=>Q1K (hφ _ (Q10 (k:=0) Z))) ?_)
 refine Ql (Hr:=[_,_]) [0,1] Tryz.results167 (QW 3 Z Z QQ Q1z Z Z) ⟨aF,aG,Z,Z,Z⟩ (asK [0] Z) Z Z (.inl Z)
theorem Q8O (N:Nat) (aI:Nat) (aC:OA) (aD:Nat) (aE:Nat) (l0:List Q1f) (a1:Int) (a2:Bool) (o0:Nat) (o1:ByteArray) (o2:Int) (o3:Int) (o6:List Qa) (o8:Int) (o9:Bool) (hm:Q4e N l0 a1 a2 = some (o0,o1,o2,o3,o6,o8,o9)):Q1o Tryz.prog 168 [.pointer (some ⟨aI,0,none⟩)] [] [.blk aI [.slice aC aD aE,.int .i64 a1,.bool a2] 194,.own 197 3 QP (.slice aC aD aE) l0] (fun v Φr Hr=>∃ (o4:OA) (o5:Nat) (o7:Nat),v = .agg #[.int .u8 ((o0:Nat):Int),.string o1,.int .i64 o2,.int .i64 o3,.slice o4 o7 o5] ∧ Φr = [] ∧ Hr = [.own 159 5 Qi (.slice o4 o7 o5) o6,.blk aI [.slice aC aD aE,.int .i64 o8,.bool o9] 194,.own 197 3 QP (.slice aC aD aE) l0]):=by
 unfold Q4e at hm
 refine QD Tryz.func168 Z Tryz.ntmps168 Z (S:=[_]) Z (fun C=>(Q5 (Q1 (QE Z Z Z Zq Z Q2j Z (fun g2=>(Q3 (Q4 (Q5 (Q1 (wP Z ?_))))))))))
 obtain ⟨⟨cJ,cK,aR⟩,c1,hm⟩:=Q6 hm
 try dsimp only at hm
 refine wC [1,2] [0] Z Q7o Z (Q1k N aI aC aD aE l0 a1 a2 _ _ _ c1) (asK [] Z) Z (H':=[_]) Z ?_
 rintro _ _ _ ⟨rfl,rfl,rfl⟩
 refine Q1B Z Z Z Zq (Q4p Z Z Qam Q1N Q1A (v:=.int .i64 aR) Z) (Q13 Z Z Z Zq Z Q2j Q8c Z (out:=V5 ..) Z (QE Z Z Z Zq Z Q2j Z (fun g3=>(wS 0 0 Z QQ (all':=V5 ..) Z (H':=V4 ..) Z (Q3 (Q4 (Q2 [3,2,0] (S':=V3 ..) Z (Q5 ?_))))))))
 obtain ⟨b3,hm,hLj_1⟩:=Q6 hm
 unfold Q5F at hm
 refine QI (σ:=Nat × ByteArray × Int × (List Qa) × Int × Bool × OA × Nat × Nat) (fun (aF,aG,aH,a9,aA,aB,a5,a6,a7)=>b3 = (aF,aG,aH,a9,aA,aB)) (fun (aF,aG,aH,a9,aA,aB,a5,a6,a7)=>[(3,.pointer (some ⟨g3,0,none⟩)),(2,.pointer (some ⟨g2,0,none⟩)),(0,.pointer (some ⟨aI,0,none⟩))]) (fun (aF,aG,aH,a9,aA,aB,a5,a6,a7)=>[]) (fun (aF,aG,aH,a9,aA,aB,a5,a6,a7)=>[.blk g3 [.int .u8 ((aF:Nat):Int),.string aG,.int .i64 aH,.int .i64 aR,.slice a5 a7 a6] 159,.own 159 5 Qi (.slice a5 a7 a6) a9,.blk g2 [.int .u8 0,.string ((⟨#[]⟩ : ByteArray)),.int .i64 0,.int .i64 0,V1] 159,.blk aI [.slice aC aD aE,.int .i64 aA,.bool aB] 194,.own 197 3 QP (.slice aC aD aE) l0]) ?_ ?_
 refine Qw (Q5 (Q1 (wP Z ?_)))
 obtain ⟨cL,bM,hm⟩:=Q6 hm
 refine wC [1,2] [0,3] Z Q6h Z (Q17 N aI aC aD aE l0 a1 a2 (⟨#[97,115,115,101,114,116]⟩ : ByteArray) _ bM) (asK [] Z) Z (H':=[_,_]) Z ?_
 rintro _ _ _ ⟨rfl,rfl,rfl⟩
 refine wP Z (Q3 (Q4 (Q2 [12,3,2,0] (S':=V4 ..) Z ?_)))
 refine Qj Z (fun aS=>?_) (fun aS=>?_)
 replace hm:=QA hm aS
 refine Q2 [3,2,0] (S':=V3 ..) Z (Q5 (Q1 (wF Z Q2F (wS 2 0 Z Q34 (all':=V5 ..) Z (H':=V4 ..) Z (Q3 (Q4 (Q2 [3,2,0] (S':=V3 ..) Z (Q5 (Q1 (wP Z ?_))))))))))
 obtain ⟨c2,bN,hm⟩:=Q6 hm
 refine wC [0,1] [2,3] Z Q7p Z (Q1h N aI aC aD aE l0 a1 a2 _ bN) (asK [] Z) Z (H':=[_,_]) Z ?_
 rintro _ _ _ ⟨rfl,rfl,rfl⟩
 refine Q3 (Q4 (Q2 [3,2,0] (S':=V3 ..) Z (Q5 (Q1 (wP Z ?_)))))
 obtain ⟨⟨aT,c3,b5,b6⟩,bO,hm⟩:=Q6 hm
 try dsimp only at hm
 refine wC [0,1] [2,3] Z Q8I Z (Q1C N aI aC aD aE l0 c2 a2 2 8 _ _ _ _ bO) (asK [] Z) Z (H':=[_,_]) Z ?_
 rintro _ _ _ ⟨rfl,rfl,rfl⟩
 refine Q1B Z Z Z Zq (Q4p Z Z tFT_159_1 Q2E Q27 (v:=.string aT) Z) (wF Z Q1V (wS 2 1 Z Q27 (all':=V5 ..) Z (H':=V4 ..) Z (Q3 (Q4 (Q2 [3,2,0] (S':=V3 ..) Z (Q1 (wP Z ?_)))))))
 obtain ⟨⟨b7,b8,b9⟩,bP,hm⟩:=Q6 hm
 try dsimp only at hm
 refine wC [0,1] [2,3] Z fn_164 Z (Q41 N aI aC aD aE l0 b5 b6 2 _ _ _ bP) (asK [] Z) Z (H':=[_,_]) Z ?_
 rintro _ _ _ ⟨bA,bB,bC,rfl,rfl,rfl⟩
 refine wF Z Q1s (wS 3 4 Z Q1U (all':=V5 ..) Z (H':=V5 ..) Z (Q3 (Qh ?_)))
 have hE:=(Zi hm).symm
 refine Qs [3,0,4,1,2] Z (H':=V5 ..) Z ?_
 refine Q9 (8,aT,0,b7,b8,b9,bA,bB,bC) hE [3,2,0] Z (asK [] Z) Z
 replace hm:=Qz hm aS
 refine Q2 [3,2,0] (S':=V3 ..) Z (Q5 (Q1 (wP Z ?_)))
 obtain ⟨cM,bQ,hm⟩:=Q6 hm
 refine wC [0,1] [2,3] Z Q6h Z (Q17 N aI aC aD aE l0 a1 a2 (⟨#[114,101,116,114,97,99,116]⟩ : ByteArray) _ bQ) (asK [] Z) Z (H':=[_,_]) Z ?_
 rintro _ _ _ ⟨rfl,rfl,rfl⟩
 refine wP Z (Q3 (Q4 (Q2 [25,3,2,0] (S':=V4 ..) Z ?_)))
 refine Qj Z (fun aU=>?_) (fun aU=>?_)
 replace hm:=QA hm aU
 refine Q2 [3,2,0] (S':=V3 ..) Z (Q5 (Q1 (wF Z Q2F (wS 2 0 Z Q34 (all':=V5 ..) Z (H':=V4 ..) Z (Q3 (Q4 (Q2 [3,2,0] (S':=V3 ..) Z (Q5 (Q1 (wP Z ?_))))))))))
 obtain ⟨c4,bR,hm⟩:=Q6 hm
 refine wC [0,1] [2,3] Z Q7p Z (Q1h N aI aC aD aE l0 a1 a2 _ bR) (asK [] Z) Z (H':=[_,_]) Z ?_
 rintro _ _ _ ⟨rfl,rfl,rfl⟩
 refine Q3 (Q4 (Q2 [3,2,0] (S':=V3 ..) Z (Q1 (wP Z ?_))))
 obtain ⟨⟨bD,bE,bF⟩,bS,hm⟩:=Q6 hm
 try dsimp only at hm
 refine wC [0,1] [2,3] Z fn_166 Z (Q5C N aI aC aD aE l0 c4 a2 _ _ _ bS) (asK [] Z) Z (H':=[_,_]) Z ?_
 rintro _ _ _ ⟨rfl,rfl,rfl⟩
 refine wF Z Q4q (wS 2 2 Z Q1A (all':=V5 ..) Z (H':=V4 ..) Z (Q3 (Qh ?_)))
 have hE:=(Zi hm).symm
 refine Q23 159 5 Qi (Qs [3,0,4,1,2] Z (H':=V5 ..) Z ?_)
 refine Q9 (9,(⟨#[]⟩ : ByteArray),bD,[],bE,bF,none,0,0) hE [3,2,0] Z (asK [] Z) Z
 replace hm:=Qz hm aU
 refine Q2 [3,2,0] (S':=V3 ..) Z (Q5 (Q1 (wP Z ?_)))
 obtain ⟨cN,bT,hm⟩:=Q6 hm
 refine wC [0,1] [2,3] Z Q6h Z (Q17 N aI aC aD aE l0 a1 a2 (⟨#[115,97,121]⟩ : ByteArray) _ bT) (asK [] Z) Z (H':=[_,_]) Z ?_
 rintro _ _ _ ⟨rfl,rfl,rfl⟩
 refine wP Z (Q3 (Q4 (Q2 [34,3,2,0] (S':=V4 ..) Z ?_)))
 refine Qj Z (fun aV=>?_) (fun aV=>?_)
 replace hm:=QA hm aV
 refine Q2 [3,2,0] (S':=V3 ..) Z (Q5 (Q1 (wF Z Q2F (wS 2 0 Z Q34 (all':=V5 ..) Z (H':=V4 ..) Z (Q3 (Q4 (Q2 [3,2,0] (S':=V3 ..) Z (Q5 (Q1 (wP Z (Q3 (Q4 (Qw ?_)))))))))))))
 refine Q3i 159 5 Qi (Q4X [3,0,4,1,2] Z (H':=V5 ..) Z (Q1E (σ:=Nat × Bool × (List Qa) × Int × Bool × OA × Nat × Nat) (fun (aQ,aO,j,a8,a0,q,s,z)=>Q1M (Q3D N l0) aQ (aO,j,a8,a0) = some b3) (fun (aQ,aO,j,a8,a0,q,s,z)=>aQ) (fun (aQ,aO,j,a8,a0,q,s,z)=>[(4,.bool aO),(3,.pointer (some ⟨g3,0,none⟩)),(2,.pointer (some ⟨g2,0,none⟩)),(0,.pointer (some ⟨aI,0,none⟩))]) (fun (aQ,aO,j,a8,a0,q,s,z)=>[]) (fun (aQ,aO,j,a8,a0,q,s,z)=>[.blk g3 [.int .u8 10,.string ((⟨#[]⟩ : ByteArray)),.int .i64 0,.int .i64 aR,.slice q z s] 159,.own 159 5 Qi (.slice q z s) j,.blk g2 [.int .u8 0,.string ((⟨#[]⟩ : ByteArray)),.int .i64 0,.int .i64 0,V1] 159,.blk aI [.slice aC aD aE,.int .i64 a8,.bool a0] 194,.own 197 3 QP (.slice aC aD aE) l0]) (N,true,[],a1,a2,none,0,0) hm [4,3,2,0] Z (asK [] Z) Z (fun s_ hm=>?_)))
 obtain ⟨aQ,aO,j,a8,a0,q,s,z⟩:=s_
 try dsimp only at hm ⊢
 obtain ⟨cO,cP,bU,hq,hLu1⟩:=Q1e hm
 clear hm
 subst bU
 replace hm:=hq
 clear hq
 unfold Q3D at hm
 try dsimp only at hm
 refine Q5 (Q5 ?_)
 obtain ⟨bV,hm,hLj_2⟩:=Q6 hm
 refine QI (σ:=Bool) (fun aJ=>bV = aJ) (fun aJ=>[(3,.pointer (some ⟨g3,0,none⟩)),(2,.pointer (some ⟨g2,0,none⟩)),(0,.pointer (some ⟨aI,0,none⟩)),(45,.bool aJ)]) (fun aJ=>[]) (fun aJ=>[.blk g3 [.int .u8 10,.string ((⟨#[]⟩ : ByteArray)),.int .i64 0,.int .i64 aR,.slice q z s] 159,.own 159 5 Qi (.slice q z s) j,.blk g2 [.int .u8 0,.string ((⟨#[]⟩ : ByteArray)),.int .i64 0,.int .i64 0,V1] 159,.blk aI [.slice aC aD aE,.int .i64 a8,.bool a0] 194,.own 197 3 QP (.slice aC aD aE) l0]) ?_ ?_
 refine Q1 (wP Z (wP Z ?_))
 refine Qt (d:=39) (S':=V5 ..) Z Z (fun aW=>?_) (fun aW=>?_)
 replace hm:=QA hm aW
 refine wP Z (wP Z (wF Z Q4U (wD 3 2 Z tS_4 tA_4 Z (wP Z (wP Z (Q3 ?_))))))
 have hE:=(Zi hm).symm
 refine Q9 (!a0) hE [3,2,0,45] Z (asK [] Z) Z
 replace hm:=Qz hm aW
 refine wO Z (wO Z (wO Z (wO Z (wO Z (wP Z (Q3 ?_))))))
 have hE:=(Zi hm).symm
 refine Q9 false hE [3,2,0,45] Z (asK [] Z) Z
 rintro aJ hE
 try dsimp only
 have hm:=hLj_2
 rw [hE] at hm
 refine Qj Z (fun aX=>?_) (fun aX=>?_)
 replace hm:=QA hm aX
 refine Q2 [3,2,0] (S':=V3 ..) Z (Qq (Q4 (Q5 (Qw (Q5 (Q1 (wP Z ?_)))))))
 obtain ⟨c5,bW,hm⟩:=Q6 hm
 refine wC [3,4] [0,1,2] Z Q7p Z (Q1h N aI aC aD aE l0 a8 a0 _ bW) (asK [] Z) Z (H':=V3 ..) Z ?_
 rintro _ _ _ ⟨rfl,rfl,rfl⟩
 refine Q3 (Q4 (Q2 [3,2,0] (S':=V3 ..) Z ?_))
 obtain ⟨⟨aK,aL,aM,aN,aY,aZ⟩,bX,hm⟩:=Q6 hm
 try dsimp only at hm
 obtain ⟨b4,hm⟩:=Qu hm
 refine Q18 [0,1,2,6] Z Z (fun hok=>(Q8 hok 0 Z Z Z Zq Z Z Z Q1s (Qm hok 1 2 4 Z Z Z Zq Z Z Z Z (cs:=[_]) Z Q1U Q2b Z Z (xP hok 2 Z (xS hok 3 Z (wC [0,1] [2,3,4] Z fn_206 Z (Q3R N aI aC aD aE l0 c5 a0 0 _ _ _ _ _ _ bX) (asK [] Z) Z (H':=V3 ..) Z ?_))))))
 rintro _ _ _ ⟨b0,b1,rfl,rfl,rfl⟩
 refine Q3 (QV [] [2] Z Z (xS hok 4 Z (Qy Z Z Z Zq Z Q1Q QQ Q2j Z (zs:=[.int .u8 0,.string ((⟨#[]⟩ : ByteArray)),.int .i64 0,.int .i64 0,V1]) (by kernel_rfl) Z (out:=V5 ..) Z (fun cQ=>(Q3 (QV [0] [3] Z Z (xS hok 5 Z (Q1S ([(⟨aK,aL,0,aM,aN⟩ : Qa)]) 4 0 Z Z Z Zq Z Z Z Z Z (fun F w hφ=>⟨[.int .u8 aK,.string aL,.int .i64 0,.int .i64 aM,.slice b0 aN.length b1],[],Z,Z,(Q3d (b0,b1) Z (QS (hφ _ (Q10 (k:=0) Z)) Qr)),Z⟩) Q1Q tR_159 Z Z (Nat.le_trans b4 (by decide)) (Nat.le_trans (Nat.mul_le_mul_right _ b4) (by decide)) (H2:=fun bG bH=>[_,_,_,_,.own 159 5 Qi (.slice bG ((j ++ ([(⟨aK,aL,0,aM,aN⟩ : Qa)])).length) bH) (j ++ ([(⟨aK,aL,0,aM,aN⟩ : Qa)])),_]) (fun _ _=>Z) (fun bG bH=>(Q2s 0 Z (H':=V5 ..) Z (Q3 (QV [0] [] Z Z (Q8 hok 6 Z Z Z Zq Z Z Z Q1s (xS hok 7 Z (wS 2 4 Z Q1U (all':=V5 ..) Z (H':=V5 ..) Z ?_)))))))))))))))
 refine Q3 (QV [0] [] Z Z (Q11 hok Z (Qh (Q4 (Q2 [3,2,0] (S':=V3 ..) Z (Q1 (wP Z ?_)))))))
 obtain ⟨c6,bY,hm⟩:=Q6 hm
 refine wC [0,1] [2,3,4] Z Q6h Z (Q17 N aI aC aD aE l0 aY aZ (⟨#[44]⟩ : ByteArray) _ bY) (asK [] Z) Z (H':=V3 ..) Z ?_
 rintro _ _ _ ⟨rfl,rfl,rfl⟩
 refine wP Z (Q3 ?_)
 have hE:=(Zi hm).symm
 replace hE:=QO hLu1 hE
 refine Qs [2,3,4,0,1] Z (H':=V5 ..) Z ?_
 refine Q1a (_,c6,(j ++ ([(⟨aK,aL,0,aM,aN⟩ : Qa)])),aY,aZ,bG,bH,((j ++ ([(⟨aK,aL,0,aM,aN⟩ : Qa)])).length)) (Nat.lt_succ_self _) hE [4,3,2,0] Z (asK [] Z) Z
 replace hm:=Qz hm aX
 refine Q2 [3,2,0] (S':=V3 ..) Z (Q1x (Qk (Qk (QJ (Qh ?_)))))
 have hE:=(Zi hm).symm
 replace hE:=Qv hLu1 hE
 refine Q9 (10,(⟨#[]⟩ : ByteArray),0,j,a8,a0,q,s,z) hE [3,2,0] Z (asK [] Z) Z
 replace hm:=Qz hm aV
 refine Q2 [3,2,0] (S':=V3 ..) Z (Q5 (Q1 (wF Z Q2F (wS 2 0 Z Q34 (all':=V5 ..) Z (H':=V4 ..) Z (Q3 (Q4 (Q2 [3,2,0] (S':=V3 ..) Z (Q1 (wP Z ?_)))))))))
 obtain ⟨⟨bI,bJ⟩,bZ,hm⟩:=Q6 hm
 try dsimp only at hm
 refine wC [0,1] [2,3] Z Q7F Z (Q1m N aI aC aD aE l0 a1 a2 (⟨#[104,97,108,116]⟩ : ByteArray) _ _ bZ) (asK [] Z) Z (H':=[_,_]) Z ?_
 rintro _ _ _ ⟨rfl,rfl,rfl⟩
 refine Q3 (Qh ?_)
 have hE:=(Zi hm).symm
 refine Q23 159 5 Qi (Qs [3,0,4,1,2] Z (H':=V5 ..) Z ?_)
 refine Q9 (11,(⟨#[]⟩ : ByteArray),0,[],bI,bJ,none,0,0) hE [3,2,0] Z (asK [] Z) Z
 rintro ⟨aF,aG,aH,a9,aA,aB,a5,a6,a7⟩ hE
 try dsimp only
 have hm:=hLj_1
 rw [hE] at hm
 try dsimp only at hm
 refine Q5 (Q1 (wP Z ?_))
 obtain ⟨⟨c7,c8⟩,c0,hm⟩:=Q6 hm
 try dsimp only at hm
 refine wC [3,4] [0,1,2] Z Q7F Z (Q1m N aI aC aD aE l0 aA aB (⟨#[59]⟩ : ByteArray) _ _ c0) (asK [] Z) Z (H':=V3 ..) Z ?_
 rintro _ _ _ ⟨rfl,rfl,rfl⟩
 refine Q3 (Q4 (Q2 [3,2] (S':=[_,_]) Z (Q5 (Q1 (QR 2 0 Z Z Z Zq Z Z Z (cs:=V5 ..) Z QQ Q1z Z Z (wS 4 0 Z QQ (all':=V5 ..) Z (H':=V5 ..) Z (Q3 (Q4 (Q2 [2] (S':=[_]) Z (Qb ?_))))))))))
 have hE:=(Zi hm).symm
 obtain ⟨hE0,hF1⟩:=Prod.mk.inj hE
 obtain ⟨hE1,hF2⟩:=Prod.mk.inj hF1
 obtain ⟨hE2,hF3⟩:=Prod.mk.inj hF2
 obtain ⟨hE3,hF4⟩:=Prod.mk.inj hF3
 obtain ⟨hE4,hF5⟩:=Prod.mk.inj hF4
 obtain ⟨hE5,hE6⟩:=Prod.mk.inj hF5
 clear hE hF1 hF2 hF3 hF4 hF5
 replace hE0:=hE0.symm
 subst hE0
 replace hE1:=hE1.symm
 subst hE1
 replace hE2:=hE2.symm
 subst hE2
 replace hE3:=hE3.symm
 subst hE3
 replace hE4:=hE4.symm
 subst hE4
 replace hE5:=hE5.symm
 subst hE5
 replace hE6:=hE6.symm
 subst hE6
 refine Ql (Hr:=V3 ..) [3,0,1] Tryz.results168 (QW 4 Z Z QQ Q1z Z Z) ⟨a5,a6,a7,Z,Z,Z⟩ (asK [] Z) Z Z (.inl Z)
theorem Q8F (N:Nat) (aC:Nat) (a9:OA) (aA:Nat) (aB:Nat) (l0:List Q1f) (a1:Int) (a2:Bool) (o0:Nat) (o1:ByteArray) (o2:Int) (o3:Int) (o6:List Qa) (o8:Int) (o9:Bool) (hm:Q45 N l0 a1 a2 = some (o0,o1,o2,o3,o6,o8,o9)):Q1o Tryz.prog 125 [.pointer (some ⟨aC,0,none⟩)] [] [.blk aC [.slice a9 aA aB,.int .i64 a1,.bool a2] 194,.own 197 3 QP (.slice a9 aA aB) l0] (fun v Φr Hr=>∃ (o4:OA) (o5:Nat) (o7:Nat),v = .agg #[.int .u8 ((o0:Nat):Int),.string o1,.int .i64 o2,.int .i64 o3,.slice o4 o7 o5] ∧ Φr = [] ∧ Hr = [.own 159 5 Qi (.slice o4 o7 o5) o6,.blk aC [.slice a9 aA aB,.int .i64 o8,.bool o9] 194,.own 197 3 QP (.slice a9 aA aB) l0]):=by
 unfold Q45 at hm
 refine QD Tryz.func125 Z Tryz.ntmps125 Z (S:=[_]) Z (fun C=>(Q5 (Q1 (QE Z Z Z Zq Z Q2j Z (fun g2=>(Q3 (Q4 (Q5 (Q1 (wP Z ?_))))))))))
 obtain ⟨⟨e1,e2,b3⟩,dE,hm⟩:=Q6 hm
 try dsimp only at hm
 refine wC [1,2] [0] Z Q7o Z (Q1k N aC a9 aA aB l0 a1 a2 _ _ _ dE) (asK [] Z) Z (H':=[_]) Z ?_
 rintro _ _ _ ⟨rfl,rfl,rfl⟩
 refine Q1B Z Z Z Zq (Q4p Z Z Qam Q1N Q1A (v:=.int .i64 b3) Z) (Q13 Z Z Z Zq Z Q2j Q8c Z (out:=V5 ..) Z (QE Z Z Z Zq Z Q2j Z (fun g3=>(wS 0 0 Z QQ (all':=V5 ..) Z (H':=V4 ..) Z (Q3 (Q4 (Q2 [3,2,0] (S':=V3 ..) Z (Q5 (Q5 (Q1 (wP Z ?_)))))))))))
 obtain ⟨e3,cO,hm⟩:=Q6 hm
 refine wC [1,2] [0,3] Z Q6h Z (Q17 N aC a9 aA aB l0 a1 a2 (⟨#[102,97,99,116]⟩ : ByteArray) _ cO) (asK [] Z) Z (H':=[_,_]) Z ?_
 rintro _ _ _ ⟨rfl,rfl,rfl⟩
 refine Q3 (Q4 (Q2 [10,3,2,0] (S':=V4 ..) Z ?_))
 refine Qj Z (fun bJ=>?_) (fun bJ=>?_)
 replace hm:=QA hm bJ
 refine Q2 [3,2,0] (S':=V3 ..) Z (Q5 (Q1 (wF Z Q2F (wS 2 0 Z Q34 (all':=V5 ..) Z (H':=V4 ..) Z (Q3 (Q4 (Q2 [3,2,0] (S':=V3 ..) Z (Q5 (Q1 (wP Z ?_))))))))))
 obtain ⟨dF,cP,hm⟩:=Q6 hm
 refine wC [0,1] [2,3] Z Q7p Z (Q1h N aC a9 aA aB l0 a1 a2 _ cP) (asK [] Z) Z (H':=[_,_]) Z ?_
 rintro _ _ _ ⟨rfl,rfl,rfl⟩
 refine Q3 (Q4 (Q2 [3,2,0] (S':=V3 ..) Z (Q5 (Q1 (wP Z ?_)))))
 obtain ⟨⟨bY,dG,bZ,c0⟩,cQ,hm⟩:=Q6 hm
 try dsimp only at hm
 refine wC [0,1] [2,3] Z Q8I Z (Q1C N aC a9 aA aB l0 dF a2 2 2 _ _ _ _ cQ) (asK [] Z) Z (H':=[_,_]) Z ?_
 rintro _ _ _ ⟨rfl,rfl,rfl⟩
 refine Q1B Z Z Z Zq (Q4p Z Z tFT_159_1 Q2E Q27 (v:=.string bY) Z) (wF Z Q1V (wS 2 1 Z Q27 (all':=V5 ..) Z (H':=V4 ..) Z (Q3 (Q4 (Q2 [3,2,0] (S':=V3 ..) Z (Q5 (Q1 (wP Z ?_))))))))
 obtain ⟨⟨dH,c1,c2⟩,cR,hm⟩:=Q6 hm
 try dsimp only at hm
 refine wC [0,1] [2,3] Z fn_164 Z (Q41 N aC a9 aA aB l0 bZ c0 0 _ _ _ cR) (asK [] Z) Z (H':=[_,_]) Z ?_
 rintro _ _ _ ⟨c3,c4,c5,rfl,rfl,rfl⟩
 refine wF Z Q1s (wS 3 4 Z Q1U (all':=V5 ..) Z (H':=V5 ..) Z (Q3 (Q4 (Q2 [3,2,0] (S':=V3 ..) Z (Q5 (Q1 (wP Z ?_)))))))
 obtain ⟨⟨dI,dJ⟩,cS,hm⟩:=Q6 hm
 try dsimp only at hm
 refine wC [1,2] [0,3,4] Z Q7F Z (Q1m N aC a9 aA aB l0 c1 c2 (⟨#[59]⟩ : ByteArray) _ _ cS) (asK [] Z) Z (H':=V3 ..) Z ?_
 rintro _ _ _ ⟨rfl,rfl,rfl⟩
 refine Q3 (Q4 (Q2 [3,2] (S':=[_,_]) Z (Q5 (Q1 (QR 3 0 Z Z Z Zq Z Z Z (cs:=V5 ..) Z QQ Q1z Z Z (wS 4 0 Z QQ (all':=V5 ..) Z (H':=V5 ..) Z (Q3 (Q4 (Q2 [2] (S':=[_]) Z (Qb (Q7 ?_)))))))))))
 have hE:=(Zi hm).symm
 obtain ⟨hE0,hF1⟩:=Prod.mk.inj hE
 obtain ⟨hE1,hF2⟩:=Prod.mk.inj hF1
 obtain ⟨hE2,hF3⟩:=Prod.mk.inj hF2
 obtain ⟨hE3,hF4⟩:=Prod.mk.inj hF3
 obtain ⟨hE4,hF5⟩:=Prod.mk.inj hF4
 obtain ⟨hE5,hE6⟩:=Prod.mk.inj hF5
 clear hE hF1 hF2 hF3 hF4 hF5
 replace hE0:=hE0.symm
 subst hE0
 replace hE1:=hE1.symm
 subst hE1
 replace hE2:=hE2.symm
 subst hE2
 replace hE3:=hE3.symm
 subst hE3
 replace hE4:=hE4.symm
 subst hE4
 replace hE5:=hE5.symm
 subst hE5
 replace hE6:=hE6.symm
 subst hE6
 refine Ql (Hr:=V3 ..) [2,0,1] Tryz.results125 (QW 4 Z Z QQ Q1z Z Z) ⟨c3,c4,c5,Z,Z,Z⟩ (asK [] Z) Z Z (.inl Z)
 replace hm:=Qz hm bJ
 refine Q2 [3,2,0] (S':=V3 ..) Z (Qq (Q4 (Q5 (Q1 (wF Z Q2F (wS 2 0 Z Q34 (all':=V5 ..) Z (H':=V4 ..) Z (Q3 (Q4 (Q2 [3,2,0] (S':=V3 ..) Z (Q5 (Q1 (wP Z ?_))))))))))))
 obtain ⟨⟨c6,c7⟩,cT,hm⟩:=Q6 hm
 try dsimp only at hm
 refine wC [0,1] [2,3] Z Q7F Z (Q1m N aC a9 aA aB l0 a1 a2 (⟨#[114,117,108,101]⟩ : ByteArray) _ _ cT) (asK [] Z) Z (H':=[_,_]) Z ?_
 rintro _ _ _ ⟨rfl,rfl,rfl⟩
 refine Q3 (Q4 (Q2 [3,2,0] (S':=V3 ..) Z (Q5 (Q1 (wP Z ?_)))))
 obtain ⟨⟨aW,dK,bE,b1⟩,cU,hm⟩:=Q6 hm
 try dsimp only at hm
 refine wC [0,1] [2,3] Z Q8I Z (Q1C N aC a9 aA aB l0 c6 c7 2 4 _ _ _ _ cU) (asK [] Z) Z (H':=[_,_]) Z ?_
 rintro _ _ _ ⟨rfl,rfl,rfl⟩
 refine Q1B Z Z Z Zq (Q4p Z Z tFT_159_1 Q2E Q27 (v:=.string aW) Z) (wF Z Q1V (wS 2 1 Z Q27 (all':=V5 ..) Z (H':=V4 ..) Z (Q3 (Q4 (Q2 [3,2,0] (S':=V3 ..) Z (Q5 ?_))))))
 obtain ⟨cV,hm,hLj_1⟩:=Q6 hm
 unfold Q5s at hm
 refine QI (σ:=Int × Int × Bool) (fun (s,aP,aQ)=>cV = (s,aP,aQ)) (fun (s,aP,aQ)=>[(3,.pointer (some ⟨g3,0,none⟩)),(2,.pointer (some ⟨g2,0,none⟩)),(0,.pointer (some ⟨aC,0,none⟩))]) (fun (s,aP,aQ)=>[]) (fun (s,aP,aQ)=>[.blk g3 [.int .u8 4,.string aW,.int .i64 s,.int .i64 b3,V1] 159,.blk g2 [.int .u8 0,.string ((⟨#[]⟩ : ByteArray)),.int .i64 0,.int .i64 0,V1] 159,.blk aC [.slice a9 aA aB,.int .i64 aP,.bool aQ] 194,.own 197 3 QP (.slice a9 aA aB) l0]) ?_ ?_
 refine Q5 (Q1 (wP Z ?_))
 obtain ⟨e4,cW,hm⟩:=Q6 hm
 refine wC [0,1] [2,3] Z Q6h Z (Q17 N aC a9 aA aB l0 bE b1 (⟨#[115,97,108,105,101,110,99,101]⟩ : ByteArray) _ cW) (asK [] Z) Z (H':=[_,_]) Z ?_
 rintro _ _ _ ⟨rfl,rfl,rfl⟩
 refine Q3 (Q4 (Q2 [32,3,2,0] (S':=V4 ..) Z ?_))
 refine Qj Z (fun bK=>?_) (fun bK=>?_)
 replace hm:=QA hm bK
 refine Q2 [3,2,0] (S':=V3 ..) Z (Q5 (Q1 (wP Z ?_)))
 obtain ⟨c8,cX,hm⟩:=Q6 hm
 refine wC [0,1] [2,3] Z Q7p Z (Q1h N aC a9 aA aB l0 bE b1 _ cX) (asK [] Z) Z (H':=[_,_]) Z ?_
 rintro _ _ _ ⟨rfl,rfl,rfl⟩
 refine Q3 (Q4 (Q2 [3,2,0] (S':=V3 ..) Z (Q5 (Q1 (wP Z (Q3 (Q4 (Q5 ?_))))))))
 obtain ⟨cY,hm,hLj_2⟩:=Q6 hm
 refine QI (σ:=Int × Int) (fun (aR,aX)=>cY = (aR,aX)) (fun (aR,aX)=>[(3,.pointer (some ⟨g3,0,none⟩)),(2,.pointer (some ⟨g2,0,none⟩)),(0,.pointer (some ⟨aC,0,none⟩)),(4,.int .i64 aX)]) (fun (aR,aX)=>[]) (fun (aR,aX)=>[.blk g3 [.int .u8 4,.string aW,.int .i64 0,.int .i64 b3,V1] 159,.blk g2 [.int .u8 0,.string ((⟨#[]⟩ : ByteArray)),.int .i64 0,.int .i64 0,V1] 159,.blk aC [.slice a9 aA aB,.int .i64 aR,.bool b1] 194,.own 197 3 QP (.slice a9 aA aB) l0]) ?_ ?_
 refine Q5 (Q1 (wP Z ?_))
 obtain ⟨e5,cZ,hm⟩:=Q6 hm
 refine wC [0,1] [2,3] Z Q6h Z (Q17 N aC a9 aA aB l0 c8 b1 (⟨#[45]⟩ : ByteArray) _ cZ) (asK [] Z) Z (H':=[_,_]) Z ?_
 rintro _ _ _ ⟨rfl,rfl,rfl⟩
 refine Q3 (Q4 (Q2 [36,4,3,2,0] (S':=V5 ..) Z ?_))
 refine Qj Z (fun bL=>?_) (fun bL=>?_)
 replace hm:=QA hm bL
 refine Q2 [3,2,0] (S':=V3 ..) Z (Q5 (Q1 (wP Z (Q3 (Q4 (Q1 (wP Z ?_)))))))
 obtain ⟨dL,d0,hm⟩:=Q6 hm
 refine wC [0,1] [2,3] Z Q7p Z (Q1h N aC a9 aA aB l0 c8 b1 _ d0) (asK [] Z) Z (H':=[_,_]) Z ?_
 rintro _ _ _ ⟨rfl,rfl,rfl⟩
 refine Q3 ?_
 have hE:=(Zi hm).symm
 refine Qs [2,3,0,1] Z (H':=V4 ..) Z ?_
 refine Q9 (dL,-1) hE [3,2,0,4] Z (asK [] Z) Z
 replace hm:=Qz hm bL
 refine Q2 [4,3,2,0] (S':=V4 ..) Z (Qq ?_)
 have hE:=(Zi hm).symm
 refine Qs [2,3,0,1] Z (H':=V4 ..) Z ?_
 refine Q9 (c8,1) hE [3,2,0,4] Z (asK [] Z) Z
 rintro ⟨aR,aX⟩ hE
 try dsimp only
 have hm:=hLj_2
 rw [hE] at hm
 try dsimp only at hm
 refine Q1 (wP Z (wP Z ?_))
 obtain ⟨⟨bM,c9,cA⟩,d1,hm⟩:=Q6 hm
 try dsimp only at hm
 refine wC [2,3] [0,1] Z fn_166 Z (Q5C N aC a9 aA aB l0 aR b1 _ _ _ d1) (asK [] Z) Z (H':=[_,_]) Z ?_
 rintro _ _ _ ⟨rfl,rfl,rfl⟩
 refine wP Z ?_
 obtain ⟨d2,hm⟩:=Qu hm
 refine QH (d:=42) (v':=.int .i64 (aX * bM)) (S':=V7 ..) Z Z (i64_in d2) (wF Z Q4q (wS 2 2 Z Q1A (all':=V5 ..) Z (H':=V4 ..) Z (Q3 ?_)))
 have hE:=(Zi hm).symm
 refine Qs [2,3,0,1] Z (H':=V4 ..) Z ?_
 refine Q9 (aX * bM,c9,cA) hE [3,2,0] Z (asK [] Z) Z
 replace hm:=Qz hm bK
 refine Q2 [3,2,0] (S':=V3 ..) Z (Qq ?_)
 have hE:=(Zi hm).symm
 refine Qs [2,3,0,1] Z (H':=V4 ..) Z ?_
 refine Q9 (0,bE,b1) hE [3,2,0] Z (asK [] Z) Z
 rintro ⟨s,aP,aQ⟩ hE
 try dsimp only
 have hm:=hLj_1
 rw [hE] at hm
 try dsimp only at hm
 refine Q5 (Q1 (wP Z ?_))
 obtain ⟨⟨cB,cC⟩,d3,hm⟩:=Q6 hm
 try dsimp only at hm
 refine wC [2,3] [0,1] Z Q7F Z (Q1m N aC a9 aA aB l0 aP aQ (⟨#[123]⟩ : ByteArray) _ _ d3) (asK [] Z) Z (H':=[_,_]) Z ?_
 rintro _ _ _ ⟨rfl,rfl,rfl⟩
 refine Q3 (Q4 (Q2 [3,2,0] (S':=V3 ..) Z (Q5 ?_)))
 obtain ⟨bU,hm,hLj_3⟩:=Q6 hm
 refine QI (σ:=(List Qa) × Int × Bool × OA × Nat × Nat) (fun (aD,aS,aT,aE,aF,aG)=>bU = (aD,aS,aT)) (fun (aD,aS,aT,aE,aF,aG)=>[(3,.pointer (some ⟨g3,0,none⟩)),(2,.pointer (some ⟨g2,0,none⟩)),(0,.pointer (some ⟨aC,0,none⟩))]) (fun (aD,aS,aT,aE,aF,aG)=>[]) (fun (aD,aS,aT,aE,aF,aG)=>[.blk g3 [.int .u8 4,.string aW,.int .i64 s,.int .i64 b3,.slice aE aG aF] 159,.own 159 5 Qi (.slice aE aG aF) aD,.blk g2 [.int .u8 0,.string ((⟨#[]⟩ : ByteArray)),.int .i64 0,.int .i64 0,V1] 159,.blk aC [.slice a9 aA aB,.int .i64 aS,.bool aT] 194,.own 197 3 QP (.slice a9 aA aB) l0]) ?_ ?_
 refine Qw (Q3i 159 5 Qi (Q4X [3,0,4,1,2] Z (H':=V5 ..) Z (Q1E (σ:=Nat × (List Qa) × Int × Bool × OA × Nat × Nat) (fun (bF,j,aH,aI,z,a0,a5)=>Q1M (Q3p N l0) bF (j,aH,aI) = some bU) (fun (bF,j,aH,aI,z,a0,a5)=>bF) (fun (bF,j,aH,aI,z,a0,a5)=>[(3,.pointer (some ⟨g3,0,none⟩)),(2,.pointer (some ⟨g2,0,none⟩)),(0,.pointer (some ⟨aC,0,none⟩))]) (fun (bF,j,aH,aI,z,a0,a5)=>[]) (fun (bF,j,aH,aI,z,a0,a5)=>[.blk g3 [.int .u8 4,.string aW,.int .i64 s,.int .i64 b3,.slice z a5 a0] 159,.own 159 5 Qi (.slice z a5 a0) j,.blk g2 [.int .u8 0,.string ((⟨#[]⟩ : ByteArray)),.int .i64 0,.int .i64 0,V1] 159,.blk aC [.slice a9 aA aB,.int .i64 aH,.bool aI] 194,.own 197 3 QP (.slice a9 aA aB) l0]) (N,[],cB,cC,none,0,0) hm [3,2,0] Z (asK [] Z) Z (fun s_ hm=>?_))))
 obtain ⟨bF,j,aH,aI,z,a0,a5⟩:=s_
 try dsimp only at hm ⊢
 obtain ⟨e6,e7,d4,hq,hLu1⟩:=Q1e hm
 clear hm
 subst d4
 replace hm:=hq
 clear hq
 unfold Q3p at hm
 try dsimp only at hm
 refine Q5 (Q5 ?_)
 obtain ⟨d5,hm,hLj_4⟩:=Q6 hm
 refine QI (σ:=Bool) (fun aY=>d5 = aY) (fun aY=>[(3,.pointer (some ⟨g3,0,none⟩)),(2,.pointer (some ⟨g2,0,none⟩)),(0,.pointer (some ⟨aC,0,none⟩)),(55,.bool aY)]) (fun aY=>[]) (fun aY=>[.blk g3 [.int .u8 4,.string aW,.int .i64 s,.int .i64 b3,.slice z a5 a0] 159,.own 159 5 Qi (.slice z a5 a0) j,.blk g2 [.int .u8 0,.string ((⟨#[]⟩ : ByteArray)),.int .i64 0,.int .i64 0,V1] 159,.blk aC [.slice a9 aA aB,.int .i64 aH,.bool aI] 194,.own 197 3 QP (.slice a9 aA aB) l0]) ?_ ?_
 refine Q1 (wP Z (wP Z (wF Z Q4U (wD 3 2 Z tS_4 tA_4 Z (wP Z (wP Z ?_))))))
 refine Qt (d:=51) (S':=V8 ..) Z Z (fun bN=>?_) (fun bN=>?_)
 replace hm:=QA hm bN
 refine wP Z ?_
 obtain ⟨dM,d6,hm⟩:=Q6 hm
 refine wC [3,4] [0,1,2] Z Q6h Z (Q17 N aC a9 aA aB l0 aH aI (⟨#[61,62]⟩ : ByteArray) _ d6) (asK [] Z) Z (H':=V3 ..) Z ?_
 rintro _ _ _ ⟨rfl,rfl,rfl⟩
 refine wP Z (wP Z (Q3 ?_))
 have hE:=(Zi hm).symm
 refine Qs [2,3,4,0,1] Z (H':=V5 ..) Z ?_
 refine Q9 (!dM) hE [3,2,0,55] Z (asK [] Z) Z
 replace hm:=Qz hm bN
 refine wO Z (wO Z (wO Z (wP Z (Q3 ?_))))
 have hE:=(Zi hm).symm
 refine Q9 false hE [3,2,0,55] Z (asK [] Z) Z
 rintro aY hE
 try dsimp only
 have hm:=hLj_4
 rw [hE] at hm
 refine Qj Z (fun bO=>?_) (fun bO=>?_)
 replace hm:=QA hm bO
 refine Q2 [3,2,0] (S':=V3 ..) Z (Qq (Q4 (Qw ?_)))
 obtain ⟨⟨b4,b5,b6,b7,cD,cE⟩,d7,hm⟩:=Q6 hm
 try dsimp only at hm
 obtain ⟨bV,hm⟩:=Qu hm
 refine Q18 [0,1,2,6] Z Z (fun hok=>(Q8 hok 0 Z Z Z Zq Z Z Z Q1s (Qm hok 1 0 4 Z Z Z Zq Z Z Z Z (cs:=[_]) Z Q1U Q2b Z Z (xP hok 2 Z (xS hok 3 Z (wC [3,4] [0,1,2] Z fn_167 Z (Q8E N aC a9 aA aB l0 aH aI _ _ _ _ _ _ d7) (asK [] Z) Z (H':=V3 ..) Z ?_))))))
 rintro _ _ _ ⟨bP,bQ,rfl,rfl,rfl⟩
 refine Q3 (QV [] [2] Z Z (xS hok 4 Z (Qy Z Z Z Zq Z Q1Q QQ Q2j Z (zs:=[.int .u8 0,.string ((⟨#[]⟩ : ByteArray)),.int .i64 0,.int .i64 0,V1]) (by kernel_rfl) Z (out:=V5 ..) Z (fun e8=>(Q3 (QV [0] [3] Z Z (xS hok 5 Z (Q1S ([(⟨b4,b5,0,b6,b7⟩ : Qa)]) 4 0 Z Z Z Zq Z Z Z Z Z (fun F w hφ=>⟨[.int .u8 b4,.string b5,.int .i64 0,.int .i64 b6,.slice bP b7.length bQ],[],Z,Z,(Q3d (bP,bQ) Z (QS (hφ _ (Q10 (k:=0) Z)) Qr)),Z⟩) Q1Q tR_159 Z Z (Nat.le_trans bV (by decide)) (Nat.le_trans (Nat.mul_le_mul_right _ bV) (by decide)) (H2:=fun cF cG=>[_,_,_,_,.own 159 5 Qi (.slice cF ((j ++ ([(⟨b4,b5,0,b6,b7⟩ : Qa)])).length) cG) (j ++ ([(⟨b4,b5,0,b6,b7⟩ : Qa)])),_]) (fun _ _=>Z) (fun cF cG=>(Q2s 0 Z (H':=V5 ..) Z (Q3 (QV [0] [] Z Z (Q8 hok 6 Z Z Z Zq Z Z Z Q1s (xS hok 7 Z (wS 2 4 Z Q1U (all':=V5 ..) Z (H':=V5 ..) Z ?_)))))))))))))))
 refine Q3 (QV [0] [] Z Z (Q11 hok Z (Qh ?_)))
 have hE:=(Zi hm).symm
 replace hE:=QO hLu1 hE
 refine Qs [2,3,4,0,1] Z (H':=V5 ..) Z ?_
 refine Q1a (_,(j ++ ([(⟨b4,b5,0,b6,b7⟩ : Qa)])),cD,cE,cF,cG,((j ++ ([(⟨b4,b5,0,b6,b7⟩ : Qa)])).length)) (Nat.lt_succ_self _) hE [3,2,0] Z (asK [] Z) Z
 replace hm:=Qz hm bO
 refine Q2 [3,2,0] (S':=V3 ..) Z (Q1x (Qk (Qk (QJ ?_))))
 have hE:=(Zi hm).symm
 replace hE:=Qv hLu1 hE
 refine Q9 (j,aH,aI,z,a0,a5) hE [3,2,0] Z (asK [] Z) Z
 rintro ⟨aD,aS,aT,aE,aF,aG⟩ hE
 try dsimp only
 have hm:=hLj_3
 rw [hE] at hm
 try dsimp only at hm
 refine Q5 (Q1 (wP Z ?_))
 obtain ⟨⟨cH,cI⟩,d8,hm⟩:=Q6 hm
 try dsimp only at hm
 refine wC [3,4] [0,1,2] Z Q7F Z (Q1m N aC a9 aA aB l0 aS aT (⟨#[61,62]⟩ : ByteArray) _ _ d8) (asK [] Z) Z (H':=V3 ..) Z ?_
 rintro _ _ _ ⟨rfl,rfl,rfl⟩
 refine Q3 (Q4 (Q2 [3,2,0] (S':=V3 ..) Z (Q5 ?_)))
 obtain ⟨bW,hm,hLj_5⟩:=Q6 hm
 refine QI (σ:=(List Qa) × Int × Bool × OA × Nat × Nat) (fun (aO,aU,aV,aJ,aK,aL)=>bW = (aO,aU,aV)) (fun (aO,aU,aV,aJ,aK,aL)=>[(3,.pointer (some ⟨g3,0,none⟩)),(2,.pointer (some ⟨g2,0,none⟩)),(0,.pointer (some ⟨aC,0,none⟩))]) (fun (aO,aU,aV,aJ,aK,aL)=>[]) (fun (aO,aU,aV,aJ,aK,aL)=>[.blk g3 [.int .u8 4,.string aW,.int .i64 s,.int .i64 b3,.slice aJ aL aK] 159,.own 159 5 Qi (.slice aJ aL aK) aO,.blk g2 [.int .u8 0,.string ((⟨#[]⟩ : ByteArray)),.int .i64 0,.int .i64 0,V1] 159,.blk aC [.slice a9 aA aB,.int .i64 aU,.bool aV] 194,.own 197 3 QP (.slice a9 aA aB) l0]) ?_ ?_
 refine Qw (Q4X [2,3,4,0,1] Z (H':=V5 ..) Z (Q1E (σ:=Nat × (List Qa) × Int × Bool × OA × Nat × Nat) (fun (bG,q,aM,aN,a6,a7,a8)=>Q1M (Q3q N l0) bG (q,aM,aN) = some bW) (fun (bG,q,aM,aN,a6,a7,a8)=>bG) (fun (bG,q,aM,aN,a6,a7,a8)=>[(3,.pointer (some ⟨g3,0,none⟩)),(2,.pointer (some ⟨g2,0,none⟩)),(0,.pointer (some ⟨aC,0,none⟩))]) (fun (bG,q,aM,aN,a6,a7,a8)=>[]) (fun (bG,q,aM,aN,a6,a7,a8)=>[.blk g3 [.int .u8 4,.string aW,.int .i64 s,.int .i64 b3,.slice a6 a8 a7] 159,.own 159 5 Qi (.slice a6 a8 a7) q,.blk g2 [.int .u8 0,.string ((⟨#[]⟩ : ByteArray)),.int .i64 0,.int .i64 0,V1] 159,.blk aC [.slice a9 aA aB,.int .i64 aM,.bool aN] 194,.own 197 3 QP (.slice a9 aA aB) l0]) (N,aD,cH,cI,aE,aF,aG) hm [3,2,0] Z (asK [] Z) Z (fun s_ hm=>?_)))
 obtain ⟨bG,q,aM,aN,a6,a7,a8⟩:=s_
 try dsimp only at hm ⊢
 obtain ⟨e9,eA,d9,hq,hLu2⟩:=Q1e hm
 clear hm
 subst d9
 replace hm:=hq
 clear hq
 unfold Q3q at hm
 try dsimp only at hm
 refine Q5 (Q5 ?_)
 obtain ⟨dA,hm,hLj_6⟩:=Q6 hm
 refine QI (σ:=Bool) (fun aZ=>dA = aZ) (fun aZ=>[(3,.pointer (some ⟨g3,0,none⟩)),(2,.pointer (some ⟨g2,0,none⟩)),(0,.pointer (some ⟨aC,0,none⟩)),(74,.bool aZ)]) (fun aZ=>[]) (fun aZ=>[.blk g3 [.int .u8 4,.string aW,.int .i64 s,.int .i64 b3,.slice a6 a8 a7] 159,.own 159 5 Qi (.slice a6 a8 a7) q,.blk g2 [.int .u8 0,.string ((⟨#[]⟩ : ByteArray)),.int .i64 0,.int .i64 0,V1] 159,.blk aC [.slice a9 aA aB,.int .i64 aM,.bool aN] 194,.own 197 3 QP (.slice a9 aA aB) l0]) ?_ ?_
 refine Q1 (wP Z (wP Z (wF Z Q4U (wD 3 2 Z tS_4 tA_4 Z (wP Z (wP Z ?_))))))
 refine Qt (d:=70) (S':=V8 ..) Z Z (fun bR=>?_) (fun bR=>?_)
 replace hm:=QA hm bR
 refine wP Z ?_
 obtain ⟨dN,dB,hm⟩:=Q6 hm
 refine wC [3,4] [0,1,2] Z Q6h Z (Q17 N aC a9 aA aB l0 aM aN (⟨#[125]⟩ : ByteArray) _ dB) (asK [] Z) Z (H':=V3 ..) Z ?_
 rintro _ _ _ ⟨rfl,rfl,rfl⟩
 refine wP Z (wP Z (Q3 ?_))
 have hE:=(Zi hm).symm
 refine Qs [2,3,4,0,1] Z (H':=V5 ..) Z ?_
 refine Q9 (!dN) hE [3,2,0,74] Z (asK [] Z) Z
 replace hm:=Qz hm bR
 refine wO Z (wO Z (wO Z (wP Z (Q3 ?_))))
 have hE:=(Zi hm).symm
 refine Q9 false hE [3,2,0,74] Z (asK [] Z) Z
 rintro aZ hE
 try dsimp only
 have hm:=hLj_6
 rw [hE] at hm
 refine Qj Z (fun bS=>?_) (fun bS=>?_)
 replace hm:=QA hm bS
 refine Q2 [3,2,0] (S':=V3 ..) Z (Qq (Q4 (Qw ?_)))
 obtain ⟨⟨b8,b9,bA,bB,b2,cJ,cK⟩,dC,hm⟩:=Q6 hm
 try dsimp only at hm
 obtain ⟨bX,hm⟩:=Qu hm
 refine Q18 [0,1,2,6] Z Z (fun hok=>(Q8 hok 0 Z Z Z Zq Z Z Z Q1s (Qm hok 1 0 4 Z Z Z Zq Z Z Z Z (cs:=[_]) Z Q1U Q2b Z Z (xP hok 2 Z (xS hok 3 Z (wC [3,4] [0,1,2] Z fn_168 Z (Q8O N aC a9 aA aB l0 aM aN _ _ _ _ _ _ _ dC) (asK [] Z) Z (H':=V3 ..) Z ?_))))))
 rintro _ _ _ ⟨bH,bI,dO,rfl,rfl,rfl⟩
 refine Q3 (QV [] [3] Z Z (xS hok 4 Z (Qy Z Z Z Zq Z Q1Q QQ Q2j Z (zs:=[.int .u8 0,.string ((⟨#[]⟩ : ByteArray)),.int .i64 0,.int .i64 0,V1]) (by kernel_rfl) Z (out:=V5 ..) Z (fun eB=>(Q3 (QV [] [4] Z Z (xS hok 5 Z (Q15 1 Z (fun bT _=>?_)))))))))
 subst bT
 refine Q2w 1 Z (H':=V6 ..) Z (Q3f (.sli 5 Qi bH bI b2) (fun F w hφ=>Q1K (hφ _ (Q10 (k:=0) Z))) (Q1S ([(⟨(((b8:Nat):Int)),b9,bA,bB,b2⟩ : Qa)]) 4 0 Z Z Z Zq Z Z Z Z Z (fun F w hφ=>⟨[.int .u8 ((b8:Nat):Int),.string b9,.int .i64 bA,.int .i64 bB,.slice bH b2.length bI],[],Z,Z,(Q3d (bH,bI) Z (QS (hφ _ (Q10 (k:=0) Z)) Qr)),Z⟩) Q1Q tR_159 Z Z (Nat.le_trans bX (by decide)) (Nat.le_trans (Nat.mul_le_mul_right _ bX) (by decide)) (H2:=fun cL cM=>[_,_,_,_,.own 159 5 Qi (.slice cL ((q ++ ([(⟨(((b8:Nat):Int)),b9,bA,bB,b2⟩ : Qa)])).length) cM) (q ++ ([(⟨(((b8:Nat):Int)),b9,bA,bB,b2⟩ : Qa)])),_]) (fun _ _=>Z) (fun cL cM=>(Q2s 0 Z (H':=V5 ..) Z (Q3 (QV [] [] Z Z (Q8 hok 6 Z Z Z Zq Z Z Z Q1s (xS hok 7 Z (wS 2 4 Z Q1U (all':=V5 ..) Z (H':=V5 ..) Z (Q3 (QV [0,1] [] Z Z (Q11 hok Z (Qh ?_)))))))))))))
 have hE:=(Zi hm).symm
 replace hE:=QO hLu2 hE
 refine Qs [2,3,4,0,1] Z (H':=V5 ..) Z ?_
 refine Q1a (_,(q ++ ([(⟨(((b8:Nat):Int)),b9,bA,bB,b2⟩ : Qa)])),cJ,cK,cL,cM,((q ++ ([(⟨(((b8:Nat):Int)),b9,bA,bB,b2⟩ : Qa)])).length)) (Nat.lt_succ_self _) hE [3,2,0] Z (asK [] Z) Z
 replace hm:=Qz hm bS
 refine Q2 [3,2,0] (S':=V3 ..) Z (Q1x (Qk (Qk (QJ ?_))))
 have hE:=(Zi hm).symm
 replace hE:=Qv hLu2 hE
 refine Q9 (q,aM,aN,a6,a7,a8) hE [3,2,0] Z (asK [] Z) Z
 rintro ⟨aO,aU,aV,aJ,aK,aL⟩ hE
 try dsimp only
 have hm:=hLj_5
 rw [hE] at hm
 try dsimp only at hm
 refine Q5 (Q1 (wP Z ?_))
 obtain ⟨⟨dP,dQ⟩,dD,hm⟩:=Q6 hm
 try dsimp only at hm
 refine wC [3,4] [0,1,2] Z Q7F Z (Q1m N aC a9 aA aB l0 aU aV (⟨#[125]⟩ : ByteArray) _ _ dD) (asK [] Z) Z (H':=V3 ..) Z ?_
 rintro _ _ _ ⟨rfl,rfl,rfl⟩
 refine Q3 (Q4 (Q2 [3,2] (S':=[_,_]) Z (Q5 (Q1 (QR 2 0 Z Z Z Zq Z Z Z (cs:=V5 ..) Z QQ Q1z Z Z (wS 4 0 Z QQ (all':=V5 ..) Z (H':=V5 ..) Z (Q3 (Q4 (Q2 [2] (S':=[_]) Z (Qb ?_))))))))))
 have hE:=(Zi hm).symm
 obtain ⟨hE0,hF1⟩:=Prod.mk.inj hE
 obtain ⟨hE1,hF2⟩:=Prod.mk.inj hF1
 obtain ⟨hE2,hF3⟩:=Prod.mk.inj hF2
 obtain ⟨hE3,hF4⟩:=Prod.mk.inj hF3
 obtain ⟨hE4,hF5⟩:=Prod.mk.inj hF4
 obtain ⟨hE5,hE6⟩:=Prod.mk.inj hF5
 clear hE hF1 hF2 hF3 hF4 hF5
 replace hE0:=hE0.symm
 subst hE0
 replace hE1:=hE1.symm
 subst hE1
 replace hE2:=hE2.symm
 subst hE2
 replace hE3:=hE3.symm
 subst hE3
 replace hE4:=hE4.symm
 subst hE4
 replace hE5:=hE5.symm
 subst hE5
 replace hE6:=hE6.symm
 subst hE6
 refine Ql (Hr:=V3 ..) [3,0,1] Tryz.results125 (QW 4 Z Z QQ Q1z Z Z) ⟨aJ,aK,aL,Z,Z,Z⟩ (asK [] Z) Z Z (.inl Z)
theorem Qa9 (N:Nat) (rc:Int → ByteArray → Int → Int → (List Qa) → Int → Option (Int)) (ih : ∀ (a0:Int) (a1:ByteArray) (a2:Int) (a3:Int) (q:OA) (s:Nat) (l4:List Qa) (a5:Int) (o0:Int),rc a0 a1 a2 a3 l4 a5 = some o0 → Q1o Tryz.prog 126 [.agg #[.int .u8 a0,.string a1,.int .i64 a2,.int .i64 a3,.slice q l4.length s],.int .i64 a5] [.sli 5 Qi q s l4] [] (fun v Φr Hr=>v = .int .i64 o0 ∧ Φr = [] ∧ Hr = [])) (a0:Int) (a1:ByteArray) (a2:Int) (a3:Int) (q:OA) (s:Nat) (l4:List Qa) (a5:Int) (o0:Int) (hm:Q5X N rc a0 a1 a2 a3 l4 a5 = some o0):Q1o Tryz.prog 126 [.agg #[.int .u8 a0,.string a1,.int .i64 a2,.int .i64 a3,.slice q l4.length s],.int .i64 a5] [.sli 5 Qi q s l4] [] (fun v Φr Hr=>v = .int .i64 o0 ∧ Φr = [] ∧ Hr = []):=by
 unfold Q5X at hm
 refine QD Tryz.func126 Z Tryz.ntmps126 Z (S:=[_,_]) Z (fun C=>(Q5 (Q1 (wB Z (fun g2=>(wP Z (Q3 (Q4 (Q2 [2,1] (S':=[_,_]) Z (Q5 (Q5 (Q1 (wP Z (wP Z (Q3 ?_)))))))))))))))
 refine Q4 (Q2 [8,2,1] (S':=V3 ..) Z ?_)
 refine Qj Z (fun aC=>?_) (fun aC=>?_)
 replace hm:=QA hm aC
 refine Q2 [2] (S':=[_]) Z (Q5 (Q1 (wF Z Qan (wD 0 3 Z Q1A Q1N Z (wP Z (Q3 (Q4 (Q2 [4] (S':=[_]) Z (Qb (Q7 ?_))))))))))
 have hE:=(Zi hm).symm
 replace hE:=hE.symm
 subst hE
 refine Ql (Hr:=[]) [] Tryz.results126 (Qc Z) ⟨Z,Z,Z⟩ (asK [] Z) Z Z (.inl Z)
 replace hm:=Qz hm aC
 refine Q2 [2,1] (S':=[_,_]) Z (Qq (Q4 (Q5 ?_)))
 obtain ⟨aB,hm,hLj_1⟩:=Q1w hm
 refine QI (σ:=Unit) (fun _=>aB = .inl ()) (fun _=>[]) (fun _=>[]) (fun _=>[]) ?_ ?_
 refine Q5 (Q1 (wP Z (Q3 (Q4 (Qw (Q1E (σ:=Nat × Nat) (fun (z,j)=>Q1M (Q5r N l4 a5 rc) z j = some aB) (fun (z,j)=>z) (fun (z,j)=>[(5,.int .i64 ((j:Nat):Int)),(2,.pointer (some ⟨g2,0,none⟩)),(1,.int .i64 a5)]) (fun (z,j)=>[.sli 5 Qi q s l4]) (fun (z,j)=>[.blk g2 [.int .u8 a0,.string a1,.int .i64 a2,.int .i64 a3,.slice q l4.length s] 159]) (N,0) hm [5,2,1] Z (asK [0] Z) Z (fun s_ hm=>?_)))))))
 obtain ⟨z,j⟩:=s_
 try dsimp only at hm ⊢
 obtain ⟨aQ,aR,aG,hq,hLu1⟩:=Q1e hm
 clear hm
 subst aG
 replace hm:=hq
 clear hq
 unfold Q5r at hm
 try dsimp only at hm
 refine Q5 (Q5 (Q1 (wP Z (wF Z Q1s (wD 0 4 Z Q1U Q2b Z (wN Z Q1Q (wP Z (QH (d:=15) (v':=.bool (decide (j < l4.length))) (S':=V7 ..) Z Z (Q2z (a:=j) (b:=l4.length)) (Q3 (Q4 (Q2 [15,5,2,1] (S':=V4 ..) Z ?_)))))))))))
 refine Qj Z (fun a7=>?_) (fun a7=>?_)
 replace hm:=QA hm a7
 refine Q2 [5,2,1] (S':=V3 ..) Z (Qq (Q4 (Q5 (Qw (Q5 (Q1 (wF Z Q1s (wD 0 4 Z Q1U Q2b Z (wP Z ?_)))))))))
 obtain ⟨a8,aH,hm⟩:=Q6 hm
 refine Q1F 0 j Z Z Z Zq Z Z Z Z Z aH Q1Q QQ (fun aS aT aP aN=>(Q22 Q1t 1 Z (fun aI aJ _=>?_)))
 subst aJ
 refine Q21 1 0 Z Z Z Zq Z Z Z (cs:=V5 ..) Z QQ Q1z Z Z (wP Z (wP Z ?_))
 obtain ⟨aK,hm⟩:=Qu hm
 refine QH (d:=24) (v':=.int .i64 (a5 + 1)) (S':=V9 ..) Z Z (i64_in aK) ?_
 obtain ⟨aU,aL,hm⟩:=Q6 hm
 refine wC [] [0] Z fn_126 Z (ih a8.kind a8.text a8.num a8.at_ aI.1 aI.2 a8.kids (a5 + 1) _ aL) (asK [0] Z) Z (H':=[_]) Z ?_
 rintro _ _ _ ⟨rfl,rfl,rfl⟩
 refine wP Z (Q3 (Q4 (Q2 [6,5,2,1] (S':=V4 ..) Z (Q5 (Q1 (wP Z (wP Z (Q3 (Q4 (Q2 [27,6,5,2,1] (S':=V5 ..) Z ?_))))))))))
 refine Qj Z (fun a9=>?_) (fun a9=>?_)
 replace hm:=QA hm a9
 refine Q2 [6] (S':=[_]) Z (Q5 (Q1 (wP Z (wP Z (Q3 (Q4 (Q2 [4] (S':=[_]) Z (Qb (Qg (Q7 (Q7 (Qg (Q7 ?_)))))))))))))
 have hE:=(Zi hm).symm
 replace hE:=Qv hLu1 hE
 replace hE:=Qv hLj_1 hE
 replace hE:=hE.symm
 subst hE
 refine Ql (Hr:=[]) [] Tryz.results126 (Qc Z) ⟨Z,Z,Z⟩ (asK [] Z) Z Z (.inl Z)
 replace hm:=Qz hm a9
 refine Q2 [5,2,1] (S':=V3 ..) Z (Qq (Qh (Q4 (Q1 (wP Z (wP Z ?_))))))
 obtain ⟨aM,hm⟩:=Qu hm
 refine QH (d:=17) (v':=.int .i64 ((j + 1:Nat):Int)) (S':=V4 ..) Z Z (Q1J (a:=j) (b:=1) aM) (Q1b (S':=V4 ..) Z Z Z Z Z (Q3 ?_))
 have hE:=(Zi hm).symm
 replace hE:=QO hLu1 hE
 refine Q1a (_,j + 1) (Nat.lt_succ_self _) hE [5,2,1] Z (asK [3] Z) Z
 replace hm:=Qz hm a7
 refine Q2 [] (S':=[]) Z (Q1x (Qk (Qk (QJ ?_))))
 have hE:=(Zi hm).symm
 replace hE:=Qv hLu1 hE
 refine Qs [] Z (H':=[]) Z ?_
 refine Q9 () hE [] Z (asK [] Z) Z
 rintro _ hE
 try dsimp only
 have hm:=QO hLj_1 hE
 try dsimp only at hm
 refine Q5 (Q1 (wP Z (Q3 (Q4 (Qb ?_)))))
 have hE:=(Zi hm).symm
 replace hE:=hE.symm
 subst hE
 refine Ql (Hr:=[]) [] Tryz.results126 (Qc Z) ⟨Z,Z,Z⟩ (asK [] Z) Z Z (.inl Z)
theorem Qb1 : ∀ (N:Nat),∀ (a0:Int) (a1:ByteArray) (a2:Int) (a3:Int) (qp0:OA) (qc1:Nat) (l4:List Qa) (a5:Int) (o0:Int),Q4R N a0 a1 a2 a3 l4 a5 = some o0 → Q1o Tryz.prog 126 [.agg #[.int .u8 a0,.string a1,.int .i64 a2,.int .i64 a3,.slice qp0 l4.length qc1],.int .i64 a5] [.sli 5 Qi qp0 qc1 l4] [] (fun v Φr Hr=>v = .int .i64 o0 ∧ Φr = [] ∧ Hr = []):=by
 intro N
 induction N with
 | zero=>intro a0 a1 a2 a3 qp0 qc1 l4 a5 o0 hm; cases hm
 | succ N ih=>intro a0 a1 a2 a3 qp0 qc1 l4 a5 o0 hm; exact Qa9 N (Q4R N) ih a0 a1 a2 a3 qp0 qc1 l4 a5 o0 hm
theorem Q9J (N:Nat) (rc:Int → ByteArray → Int → Int → (List Qa) → Option (Nat)) (ih : ∀ (a0:Int) (a1:ByteArray) (a2:Int) (a3:Int) (z:OA) (a5:Nat) (l4:List Qa) (o0:Nat),rc a0 a1 a2 a3 l4 = some o0 → Q1o Tryz.prog 127 [.agg #[.int .u8 a0,.string a1,.int .i64 a2,.int .i64 a3,.slice z l4.length a5]] [.sli 5 Qi z a5 l4] [] (fun v Φr Hr=>v = .int .i64 ((o0:Nat):Int) ∧ Φr = [] ∧ Hr = [])) (a0:Int) (a1:ByteArray) (a2:Int) (a3:Int) (z:OA) (a5:Nat) (l4:List Qa) (o0:Nat) (hm:Q5q N rc a0 a1 a2 a3 l4 = some o0):Q1o Tryz.prog 127 [.agg #[.int .u8 a0,.string a1,.int .i64 a2,.int .i64 a3,.slice z l4.length a5]] [.sli 5 Qi z a5 l4] [] (fun v Φr Hr=>v = .int .i64 ((o0:Nat):Int) ∧ Φr = [] ∧ Hr = []):=by
 unfold Q5q at hm
 refine QD Tryz.func127 Z Tryz.ntmps127 Z (S:=[_]) Z (fun C=>(Q5 (Q1 (wB Z (fun g1=>(wP Z (Q3 (Q4 (Q2 [1] (S':=[_]) Z (Q5 (Q1 (wP Z (Q3 (Q4 (Q5 ?_)))))))))))))))
 obtain ⟨a9,hm,hLj_1⟩:=Q6 hm
 refine QI (σ:=Nat) (fun s=>a9 = s) (fun s=>[(3,.int .i64 ((s:Nat):Int))]) (fun s=>[]) (fun s=>[]) ?_ ?_
 refine Q5 (Q1 (wP Z (Q3 (Q4 (Qw (Q1E (σ:=Nat × Nat × Nat) (fun (a6,j,q)=>Q1M (Q54 N l4 rc) a6 (j,q) = some a9) (fun (a6,j,q)=>a6) (fun (a6,j,q)=>[(4,.int .i64 ((j:Nat):Int)),(3,.int .i64 ((q:Nat):Int)),(1,.pointer (some ⟨g1,0,none⟩))]) (fun (a6,j,q)=>[.sli 5 Qi z a5 l4]) (fun (a6,j,q)=>[.blk g1 [.int .u8 a0,.string a1,.int .i64 a2,.int .i64 a3,.slice z l4.length a5] 159]) (N,0,1) hm [4,3,1] Z (asK [0] Z) Z (fun s_ hm=>?_)))))))
 obtain ⟨a6,j,q⟩:=s_
 try dsimp only at hm ⊢
 obtain ⟨aP,aQ,aF,hq,hLu1⟩:=Q1e hm
 clear hm
 subst aF
 replace hm:=hq
 clear hq
 unfold Q54 at hm
 try dsimp only at hm
 refine Q5 (Q5 (Q1 (wP Z (wF Z Q1s (wD 0 4 Z Q1U Q2b Z (wN Z Q1Q (wP Z (QH (d:=9) (v':=.bool (decide (j < l4.length))) (S':=V7 ..) Z Z (Q2z (a:=j) (b:=l4.length)) (Q3 (Q4 (Q2 [9,4,3,1] (S':=V4 ..) Z ?_)))))))))))
 refine Qj Z (fun aA=>?_) (fun aA=>?_)
 replace hm:=QA hm aA
 refine Q2 [4,3,1] (S':=V3 ..) Z (Qq (Q4 (Q5 (Qw (Q1 (wP Z (wF Z Q1s (wD 0 4 Z Q1U Q2b Z (wP Z ?_)))))))))
 obtain ⟨a8,aG,hm⟩:=Q6 hm
 refine Q1F 0 j Z Z Z Zq Z Z Z Z Z aG Q1Q QQ (fun aR aS aO aM=>(Q22 Q1t 1 Z (fun aH aI _=>?_)))
 subst aI
 refine Q21 1 0 Z Z Z Zq Z Z Z (cs:=V5 ..) Z QQ Q1z Z Z ?_
 obtain ⟨aB,aJ,hm⟩:=Q6 hm
 refine wC [] [0] Z fn_127 Z (ih a8.kind a8.text a8.num a8.at_ aH.1 aH.2 a8.kids _ aJ) (asK [0] Z) Z (H':=[_]) Z ?_
 rintro _ _ _ ⟨rfl,rfl,rfl⟩
 refine wP Z ?_
 obtain ⟨aK,hm⟩:=Qu hm
 refine QH (d:=19) (v':=.int .i64 ((q + aB:Nat):Int)) (S':=V10 ..) Z Z (Q1J (a:=q) (b:=aB) aK) (Q1b (S':=V10 ..) Z Z Z Z Z (Q3 (Qh (Q4 (Q2 [3,4,1] (S':=V3 ..) Z (Q1 (wP Z (wP Z ?_))))))))
 obtain ⟨aL,hm⟩:=Qu hm
 refine QH (d:=11) (v':=.int .i64 ((j + 1:Nat):Int)) (S':=V4 ..) Z Z (Q1J (a:=j) (b:=1) aL) (Q1b (S':=V4 ..) Z Z Z Z Z (Q3 ?_))
 have hE:=(Zi hm).symm
 replace hE:=QO hLu1 hE
 refine Q1a (_,j + 1,q + aB) (Nat.lt_succ_self _) hE [4,3,1] Z (asK [3] Z) Z
 replace hm:=Qz hm aA
 refine Q2 [3] (S':=[_]) Z (Q1x (Qk (Qk (QJ ?_))))
 have hE:=(Zi hm).symm
 replace hE:=Qv hLu1 hE
 refine Qs [] Z (H':=[]) Z ?_
 refine Q9 q hE [3] Z (asK [] Z) Z
 rintro s hE
 try dsimp only
 have hm:=hLj_1
 rw [hE] at hm
 refine Q5 (Q1 (wP Z (wP Z (Q3 (Q4 (Q2 [2] (S':=[_]) Z (Qb ?_)))))))
 have hE:=(Zi hm).symm
 replace hE:=hE.symm
 subst hE
 refine Ql (Hr:=[]) [] Tryz.results127 (Qc Z) ⟨Z,Z,Z⟩ (asK [] Z) Z Z (.inl Z)
theorem Qay : ∀ (N:Nat),∀ (a0:Int) (a1:ByteArray) (a2:Int) (a3:Int) (qp0:OA) (qc1:Nat) (l4:List Qa) (o0:Nat),Q4y N a0 a1 a2 a3 l4 = some o0 → Q1o Tryz.prog 127 [.agg #[.int .u8 a0,.string a1,.int .i64 a2,.int .i64 a3,.slice qp0 l4.length qc1]] [.sli 5 Qi qp0 qc1 l4] [] (fun v Φr Hr=>v = .int .i64 ((o0:Nat):Int) ∧ Φr = [] ∧ Hr = []):=by
 intro N
 induction N with
 | zero=>intro a0 a1 a2 a3 qp0 qc1 l4 o0 hm; cases hm
 | succ N ih=>intro a0 a1 a2 a3 qp0 qc1 l4 o0 hm; exact Q9J N (Q4y N) ih a0 a1 a2 a3 qp0 qc1 l4 o0 hm
theorem Q9I (N:Nat) (a0:ByteArray) (o0:Nat) (o3:List Qa) (o5:Nat) (o6:Int) (hm:Q5p N a0 = some (o0,o3,o5,o6)):Q1o Tryz.prog 93 [.string a0] [] [] (fun v Φr Hr=>∃ (o1:OA) (o2:Nat) (o4:Nat),v = .tuple #[.agg #[.int .u8 ((o0:Nat):Int),.string ((⟨#[]⟩ : ByteArray)),.int .i64 0,.int .i64 0,.slice o1 o4 o2],.agg #[.int .i64 ((o5:Nat):Int),.int .i64 o6]] ∧ Φr = [] ∧ Hr = [.own 159 5 Qi (.slice o1 o4 o2) o3]):=by
 unfold Q5p at hm
 refine QD Tryz.func93 Z Tryz.ntmps93 Z (S:=[_]) Z (fun C=>(Q5 (Q1 (QE Z Z Z Zq Z Q2j Z (fun g2=>(QE Z Z Z Zq Z Q6S Z (fun g3=>(Q3 (Q4 (Q5 (Q1 (wP Z ?_))))))))))))
 obtain ⟨⟨aG,aR,bK⟩,bA,hm⟩:=Q6 hm
 try dsimp only at hm
 refine wC [] [0,1] Z fn_123 Z (Qa5 N a0 _ _ _ bA) (asK [] Z) Z (H':=[_,_]) Z ?_
 rintro _ _ _ ⟨aC,aD,aE,rfl,rfl,rfl⟩
 refine wP Z (wP Z (wP Z (QE Z Z Z Zq Z Q6S Z (fun g5=>(wP Z (wS 0 0 Z Q2H (all':=[_,_]) Z (H':=V4 ..) Z (Q3 (Q4 (Q2 [4,5,3,2] (S':=V4 ..) Z (Q5 (Q5 (Q1 (wF Z Q9v (wD 0 0 Z tS_32 tA_32 Z ?_))))))))))))))
 refine wP Z (QH (d:=16) (v':=.bool (aR != 0)) (S':=V6 ..) Z Z (natne (a:=aR) (b:=0)) (Q3 (Q4 (Q2 [16,4,5,3,2] (S':=V5 ..) Z ?_))))
 refine Qj Z (fun aS=>?_) (fun aS=>?_)
 replace hm:=QA hm aS
 refine Q2 [5,3,2] (S':=V3 ..) Z (Q5 (Q18 [0,1] Z Z (fun hok=>(Q6U hok 0 Z Z Z Zq Z Z Q2j Q8c Z (out:=V5 ..) Z (Qm hok 1 0 0 Z Z Z Zq Z Z Z Z (cs:=[_,_]) Z Q2H Q73 Z Z (xS hok 2 Z (wS 3 0 Z QQ (all':=V5 ..) Z (H':=V4 ..) Z (Q3 (QV [] [0] Z Z (xS hok 3 Z (wS 2 0 Z Q2H (all':=[_,_]) Z (H':=V4 ..) Z (Q3 (QV [] [] Z Z (Q11 hok Z ?_))))))))))))))
 refine Q4 (Q2 [3,2] (S':=[_,_]) Z (Qb (Q7 ?_)))
 have hE:=(Zi hm).symm
 obtain ⟨hE0,hF1⟩:=Prod.mk.inj hE
 obtain ⟨hE1,hF2⟩:=Prod.mk.inj hF1
 obtain ⟨hE2,hE3⟩:=Prod.mk.inj hF2
 clear hE hF1 hF2
 replace hE0:=hE0.symm
 subst hE0
 replace hE1:=hE1.symm
 subst hE1
 replace hE2:=hE2.symm
 subst hE2
 replace hE3:=hE3.symm
 subst hE3
 refine Q23 159 5 Qi ?_
 refine Q1r (Hr:=[_]) [0] Tryz.results93 (QW 4 Z Z QQ Q1z Z Z) (QW 3 Z Z Q2H Q73 Z Z) ⟨none,0,0,Z,Z,Z⟩ (asK [] Z) Z Z (.inl Z)
 replace hm:=Qz hm aS
 refine Q2 [4,3,2] (S':=V3 ..) Z (Qq (Q4 (Q5 (Q1 (wP Z (Q13 Z Z Z Zq Z tZ_194 tP_194 Z (out:=V3 ..) Z (wB Z (fun aN=>(wP Z (Q3 (Q4 (Q2 [6,3,2] (S':=V3 ..) Z (Q5 (Q1 ?_))))))))))))))
 refine Q13 Z Z Z Zq Z Q2j Q8c Z (out:=V5 ..) Z (QE Z Z Z Zq Z Q2j Z (fun g7=>(wS 0 0 Z QQ (all':=V5 ..) Z (H':=V6 ..) Z (Q3 (Q4 (Q2 [7,6,3,2] (S':=V4 ..) Z (Q5 ?_)))))))
 obtain ⟨b0,hm,hLj_1⟩:=Q6 hm
 refine QI (σ:=(List Qa) × Int × Bool × OA × Nat × Nat) (fun (q,aA,aB,s,z,a9)=>b0 = (q,aA,aB)) (fun (q,aA,aB,s,z,a9)=>[(7,.pointer (some ⟨g7,0,none⟩)),(6,.pointer (some ⟨aN,0,none⟩)),(3,.pointer (some ⟨g3,0,none⟩)),(2,.pointer (some ⟨g2,0,none⟩))]) (fun (q,aA,aB,s,z,a9)=>[]) (fun (q,aA,aB,s,z,a9)=>[.blk g7 [.int .u8 1,.string ((⟨#[]⟩ : ByteArray)),.int .i64 0,.int .i64 0,.slice s a9 z] 159,.own 159 5 Qi (.slice s a9 z) q,.blk aN [.slice aC aE aD,.int .i64 aA,.bool aB] 194,.own 197 3 QP (.slice aC aE aD) aG,.blk g3 [.int .i64 0,.int .i64 0] 113,.blk g2 [.int .u8 0,.string ((⟨#[]⟩ : ByteArray)),.int .i64 0,.int .i64 0,V1] 159]) ?_ ?_
 refine Qw (Q3i 159 5 Qi (Q4X [1,0,2,4,5,6] Z (H':=V6 ..) Z (Q1E (σ:=Nat × (List Qa) × Int × Bool × OA × Nat × Nat) (fun (aO,j,a7,a8,a1,a5,a6)=>Q1M (Q4d N aG) aO (j,a7,a8) = some b0) (fun (aO,j,a7,a8,a1,a5,a6)=>aO) (fun (aO,j,a7,a8,a1,a5,a6)=>[(7,.pointer (some ⟨g7,0,none⟩)),(6,.pointer (some ⟨aN,0,none⟩)),(3,.pointer (some ⟨g3,0,none⟩)),(2,.pointer (some ⟨g2,0,none⟩))]) (fun (aO,j,a7,a8,a1,a5,a6)=>[]) (fun (aO,j,a7,a8,a1,a5,a6)=>[.blk g7 [.int .u8 1,.string ((⟨#[]⟩ : ByteArray)),.int .i64 0,.int .i64 0,.slice a1 a6 a5] 159,.own 159 5 Qi (.slice a1 a6 a5) j,.blk aN [.slice aC aE aD,.int .i64 a7,.bool a8] 194,.own 197 3 QP (.slice aC aE aD) aG,.blk g3 [.int .i64 0,.int .i64 0] 113,.blk g2 [.int .u8 0,.string ((⟨#[]⟩ : ByteArray)),.int .i64 0,.int .i64 0,V1] 159]) (N,[],0,false,none,0,0) hm [7,6,3,2] Z (asK [] Z) Z (fun s_ hm=>?_))))
 obtain ⟨aO,j,a7,a8,a1,a5,a6⟩:=s_
 try dsimp only at hm ⊢
 obtain ⟨bX,bY,bB,hq,hLu1⟩:=Q1e hm
 clear hm
 subst bB
 replace hm:=hq
 clear hq
 unfold Q4d at hm
 try dsimp only at hm
 refine Q5 (Q5 ?_)
 obtain ⟨bC,hm,hLj_2⟩:=Q6 hm
 refine QI (σ:=Bool) (fun aF=>bC = aF) (fun aF=>[(7,.pointer (some ⟨g7,0,none⟩)),(6,.pointer (some ⟨aN,0,none⟩)),(3,.pointer (some ⟨g3,0,none⟩)),(2,.pointer (some ⟨g2,0,none⟩)),(33,.bool aF)]) (fun aF=>[]) (fun aF=>[.blk g7 [.int .u8 1,.string ((⟨#[]⟩ : ByteArray)),.int .i64 0,.int .i64 0,.slice a1 a6 a5] 159,.own 159 5 Qi (.slice a1 a6 a5) j,.blk aN [.slice aC aE aD,.int .i64 a7,.bool a8] 194,.own 197 3 QP (.slice aC aE aD) aG,.blk g3 [.int .i64 0,.int .i64 0] 113,.blk g2 [.int .u8 0,.string ((⟨#[]⟩ : ByteArray)),.int .i64 0,.int .i64 0,V1] 159]) ?_ ?_
 refine Q1 (wP Z (wP Z (wF Z Q4U (wD 2 2 Z tS_4 tA_4 Z (wP Z (wP Z ?_))))))
 refine Qt (d:=28) (S':=V9 ..) Z Z (fun aT=>?_) (fun aT=>?_)
 replace hm:=QA hm aT
 refine wP Z ?_
 obtain ⟨⟨aU,bL,bM⟩,bD,hm⟩:=Q6 hm
 try dsimp only at hm
 refine wC [2,3] [0,1,4,5] Z Q7o Z (Q1k N aN aC aE aD aG a7 a8 _ _ _ bD) (asK [] Z) Z (H':=V4 ..) Z ?_
 rintro _ _ _ ⟨rfl,rfl,rfl⟩
 refine Q1B Z Z Z Zq (Q4p Z Z tFT_197_0 Qa2 Q8M (v:=.int .u8 aU) Z) (wP Z (wP Z (Q3 ?_)))
 have hE:=(Zi hm).symm
 refine Qs [2,3,0,1,4,5] Z (H':=V6 ..) Z ?_
 refine Q9 (aU != 7) hE [7,6,3,2,33] Z (asK [] Z) Z
 replace hm:=Qz hm aT
 refine wO Z (wO Z (wO Z (wO Z (wP Z (Q3 ?_)))))
 have hE:=(Zi hm).symm
 refine Q9 false hE [7,6,3,2,33] Z (asK [] Z) Z
 rintro aF hE
 try dsimp only
 have hm:=hLj_2
 rw [hE] at hm
 refine Qj Z (fun aV=>?_) (fun aV=>?_)
 replace hm:=QA hm aV
 refine Q2 [7,6,3,2] (S':=V4 ..) Z (Qq (Q4 (Qw ?_)))
 obtain ⟨⟨aI,aJ,aK,aL,aH,b2,b3⟩,bE,hm⟩:=Q6 hm
 try dsimp only at hm
 obtain ⟨b1,hm⟩:=Qu hm
 refine Q18 [0,1,2,6] Z Z (fun hok=>(Q8 hok 0 Z Z Z Zq Z Z Z Q1s (Qm hok 1 0 4 Z Z Z Zq Z Z Z Z (cs:=[_]) Z Q1U Q2b Z Z (xP hok 2 Z (xS hok 3 Z (wC [2,3] [0,1,4,5] Z fn_125 Z (Q8F N aN aC aE aD aG a7 a8 _ _ _ _ _ _ _ bE) (asK [] Z) Z (H':=V4 ..) Z ?_))))))
 rintro _ _ _ ⟨aP,aQ,bN,rfl,rfl,rfl⟩
 refine Q3 (QV [] [3] Z Z (xS hok 4 Z (Qy Z Z Z Zq Z Q1Q QQ Q2j Z (zs:=[.int .u8 0,.string ((⟨#[]⟩ : ByteArray)),.int .i64 0,.int .i64 0,V1]) (by kernel_rfl) Z (out:=V5 ..) Z (fun bZ=>(Q3 (QV [] [4] Z Z (xS hok 5 Z (Q15 1 Z (fun aW _=>?_)))))))))
 subst aW
 refine Q2w 1 Z (H':=V7 ..) Z (Q3f (.sli 5 Qi aP aQ aH) (fun F w hφ=>Q1K (hφ _ (Q10 (k:=0) Z))) (Q1S ([(⟨(((aI:Nat):Int)),aJ,aK,aL,aH⟩ : Qa)]) 4 0 Z Z Z Zq Z Z Z Z Z (fun F w hφ=>⟨[.int .u8 ((aI:Nat):Int),.string aJ,.int .i64 aK,.int .i64 aL,.slice aP aH.length aQ],[],Z,Z,(Q3d (aP,aQ) Z (QS (hφ _ (Q10 (k:=0) Z)) Qr)),Z⟩) Q1Q tR_159 Z Z (Nat.le_trans b1 (by decide)) (Nat.le_trans (Nat.mul_le_mul_right _ b1) (by decide)) (H2:=fun b4 b5=>[_,_,_,_,.own 159 5 Qi (.slice b4 ((j ++ ([(⟨(((aI:Nat):Int)),aJ,aK,aL,aH⟩ : Qa)])).length) b5) (j ++ ([(⟨(((aI:Nat):Int)),aJ,aK,aL,aH⟩ : Qa)])),_,_]) (fun _ _=>Z) (fun b4 b5=>(Q2s 0 Z (H':=V6 ..) Z (Q3 (QV [] [] Z Z (Q8 hok 6 Z Z Z Zq Z Z Z Q1s (xS hok 7 Z (wS 2 4 Z Q1U (all':=V5 ..) Z (H':=V6 ..) Z (Q3 (QV [0,1] [] Z Z (Q11 hok Z (Qh ?_)))))))))))))
 have hE:=(Zi hm).symm
 replace hE:=QO hLu1 hE
 refine Qs [2,3,0,1,4,5] Z (H':=V6 ..) Z ?_
 refine Q1a (_,(j ++ ([(⟨(((aI:Nat):Int)),aJ,aK,aL,aH⟩ : Qa)])),b2,b3,b4,b5,((j ++ ([(⟨(((aI:Nat):Int)),aJ,aK,aL,aH⟩ : Qa)])).length)) (Nat.lt_succ_self _) hE [7,6,3,2] Z (asK [] Z) Z
 replace hm:=Qz hm aV
 refine Q2 [7,6,3,2] (S':=V4 ..) Z (Q1x (Qk (Qk (QJ ?_))))
 have hE:=(Zi hm).symm
 replace hE:=Qv hLu1 hE
 refine Q9 (j,a7,a8,a1,a5,a6) hE [7,6,3,2] Z (asK [] Z) Z
 rintro ⟨q,aA,aB,s,z,a9⟩ hE
 try dsimp only
 have hm:=hLj_1
 rw [hE] at hm
 try dsimp only at hm
 refine Q5 (Q5 (Q1 (wP Z (wP Z (wF Z Q4U (wD 2 2 Z tS_4 tA_4 Z (Q3 (Q4 (Q2 [44,7,6,3,2] (S':=V5 ..) Z ?_)))))))))
 refine Qj Z (fun aX=>?_) (fun aX=>?_)
 replace hm:=QA hm aX
 refine Q2 [6,3,2] (S':=V3 ..) Z (Q5 (Q1 (Q13 Z Z Z Zq Z Q2j Q8c Z (out:=V5 ..) Z (wP Z ?_))))
 obtain ⟨⟨bO,bP,b6⟩,bF,hm⟩:=Q6 hm
 try dsimp only at hm
 refine wC [2,3] [0,1,4,5] Z Q7o Z (Q1k N aN aC aE aD aG aA aB _ _ _ bF) (asK [] Z) Z (H':=V4 ..) Z ?_
 rintro _ _ _ ⟨rfl,rfl,rfl⟩
 refine Q1B Z Z Z Zq (Q4p Z Z Qam Q1N Q1A (v:=.int .i64 b6) Z) (Q13 Z Z Z Zq Z Q6S Qa3 Z (out:=[_,_]) Z (wS 5 0 Z QQ (all':=V5 ..) Z (H':=V6 ..) Z (wS 4 0 Z Q2H (all':=[_,_]) Z (H':=V6 ..) Z (Q3 (Q4 (Q2 [3,2] (S':=[_,_]) Z (Qb (Q7 ?_))))))))
 have hE:=(Zi hm).symm
 obtain ⟨hE0,hF1⟩:=Prod.mk.inj hE
 obtain ⟨hE1,hF2⟩:=Prod.mk.inj hF1
 obtain ⟨hE2,hE3⟩:=Prod.mk.inj hF2
 clear hE hF1 hF2
 replace hE0:=hE0.symm
 subst hE0
 replace hE1:=hE1.symm
 subst hE1
 replace hE2:=hE2.symm
 subst hE2
 replace hE3:=hE3.symm
 subst hE3
 refine Q23 159 5 Qi ?_
 refine Q1r (Hr:=[_]) [0] Tryz.results93 (QW 6 Z Z QQ Q1z Z Z) (QW 5 Z Z Q2H Q73 Z Z) ⟨none,0,0,Z,Z,Z⟩ (asK [] Z) Z Z (.inl Z)
 replace hm:=Qz hm aX
 refine Q2 [7,3,2] (S':=V3 ..) Z (Qq (Q4 (Q5 (Q1 (QR 0 0 Z Z Z Zq Z Z Z (cs:=V5 ..) Z QQ Q1z Z Z (Q15 1 Z (fun aM _=>?_)))))))
 subst aM
 obtain ⟨c0,bG,hm⟩:=Q6 hm
 refine Q3g [] [0,1,2,3,4,5] [1] Z Z Z Zq Z Z fn_126 Z (Qb1 N 1 (⟨#[]⟩ : ByteArray) 0 0 s z q 0 _ bG) (fun F w hφ hh=>(QS (Q1K (hh _ (Q10 (k:=0) Z))) Qr)) (fun _ _ _ hR=>by obtain ⟨rfl,rfl,rfl⟩:=hR; exact ⟨Z,(fun _ h=>Q2A h)⟩) Z Z (H':=V6 ..) Z ?_
 rintro _ _ _ ⟨rfl,rfl,rfl⟩
 refine wP Z (Q3 (Q4 (Q2 [8,7,3,2] (S':=V4 ..) Z (Q5 (Q5 (Q1 (wP Z (wP Z (Q3 (Q4 (Q2 [53,8,7,3,2] (S':=V5 ..) Z ?_)))))))))))
 refine Qj Z (fun aY=>?_) (fun aY=>?_)
 replace hm:=QA hm aY
 refine Q2 [8,3,2] (S':=V3 ..) Z (Q5 (Q1 (Q13 Z Z Z Zq Z Q2j Q8c Z (out:=V5 ..) Z (wP Z (Q13 Z Z Z Zq Z Q6S Qa3 Z (out:=[_,_]) Z (wS 5 0 Z QQ (all':=V5 ..) Z (H':=V6 ..) Z (wS 4 0 Z Q2H (all':=[_,_]) Z (H':=V6 ..) Z (Q3 (Q4 (Q2 [3,2] (S':=[_,_]) Z (Qb (Q7 ?_))))))))))))
 have hE:=(Zi hm).symm
 obtain ⟨hE0,hF1⟩:=Prod.mk.inj hE
 obtain ⟨hE1,hF2⟩:=Prod.mk.inj hF1
 obtain ⟨hE2,hE3⟩:=Prod.mk.inj hF2
 clear hE hF1 hF2
 replace hE0:=hE0.symm
 subst hE0
 replace hE1:=hE1.symm
 subst hE1
 replace hE2:=hE2.symm
 subst hE2
 replace hE3:=hE3.symm
 subst hE3
 refine Q23 159 5 Qi ?_
 refine Q1r (Hr:=[_]) [0] Tryz.results93 (QW 6 Z Z QQ Q1z Z Z) (QW 5 Z Z Q2H Q73 Z Z) ⟨none,0,0,Z,Z,Z⟩ (asK [] Z) Z Z (.inl Z)
 replace hm:=Qz hm aY
 refine Q2 [7,3,2] (S':=V3 ..) Z (Qq (Q4 (Q5 (Q5 (Q1 (QR 0 0 Z Z Z Zq Z Z Z (cs:=V5 ..) Z QQ Q1z Z Z ?_))))))
 obtain ⟨bH,bI,hm⟩:=Q6 hm
 refine Q3g [] [0,1,2,3,4,5] [1] Z Z Z Zq Z Z fn_127 Z (Qay N 1 (⟨#[]⟩ : ByteArray) 0 0 s z q _ bI) (fun F w hφ hh=>(QS (Q1K (hh _ (Q10 (k:=0) Z))) Qr)) (fun _ _ _ hR=>by obtain ⟨rfl,rfl,rfl⟩:=hR; exact ⟨Z,(fun _ h=>Q2A h)⟩) Z Z (H':=V6 ..) Z ?_
 rintro _ _ _ ⟨rfl,rfl,rfl⟩
 refine wP Z (QH (d:=59) (v':=.bool (decide (4096 < bH))) (S':=V5 ..) Z Z (natgt (a:=bH) (b:=4096)) (Q3 (Q4 (Q2 [59,7,3,2] (S':=V4 ..) Z ?_))))
 refine Qj Z (fun aZ=>?_) (fun aZ=>?_)
 replace hm:=QA hm aZ
 refine Q2 [3,2] (S':=[_,_]) Z (Q5 (Q1 (Q13 Z Z Z Zq Z Q2j Q8c Z (out:=V5 ..) Z (Q13 Z Z Z Zq Z Q6S Qa3 Z (out:=[_,_]) Z (wS 5 0 Z QQ (all':=V5 ..) Z (H':=V6 ..) Z (wS 4 0 Z Q2H (all':=[_,_]) Z (H':=V6 ..) Z (Q3 (Q4 (Q2 [3,2] (S':=[_,_]) Z (Qb (Q7 ?_)))))))))))
 have hE:=(Zi hm).symm
 obtain ⟨hE0,hF1⟩:=Prod.mk.inj hE
 obtain ⟨hE1,hF2⟩:=Prod.mk.inj hF1
 obtain ⟨hE2,hE3⟩:=Prod.mk.inj hF2
 clear hE hF1 hF2
 replace hE0:=hE0.symm
 subst hE0
 replace hE1:=hE1.symm
 subst hE1
 replace hE2:=hE2.symm
 subst hE2
 replace hE3:=hE3.symm
 subst hE3
 refine Q23 159 5 Qi ?_
 refine Q1r (Hr:=[_]) [0] Tryz.results93 (QW 6 Z Z QQ Q1z Z Z) (QW 5 Z Z Q2H Q73 Z Z) ⟨none,0,0,Z,Z,Z⟩ (asK [] Z) Z Z (.inl Z)
 replace hm:=Qz hm aZ
 refine Q2 [7,3,2] (S':=V3 ..) Z (Qq (Q4 (Q5 (Q1 (QR 0 0 Z Z Z Zq Z Z Z (cs:=V5 ..) Z QQ Q1z Z Z (Q13 Z Z Z Zq Z Q6S Qa3 Z (out:=[_,_]) Z (wS 5 0 Z QQ (all':=V5 ..) Z (H':=V6 ..) Z (wS 4 0 Z Q2H (all':=[_,_]) Z (H':=V6 ..) Z (Q3 (Q4 (Q2 [3,2] (S':=[_,_]) Z (Qb ?_))))))))))))
 have hE:=(Zi hm).symm
 obtain ⟨hE0,hF1⟩:=Prod.mk.inj hE
 obtain ⟨hE1,hF2⟩:=Prod.mk.inj hF1
 obtain ⟨hE2,hE3⟩:=Prod.mk.inj hF2
 clear hE hF1 hF2
 replace hE0:=hE0.symm
 subst hE0
 replace hE1:=hE1.symm
 subst hE1
 replace hE2:=hE2.symm
 subst hE2
 replace hE3:=hE3.symm
 subst hE3
 refine Q1r (Hr:=[_]) [1] Tryz.results93 (QW 5 Z Z QQ Q1z Z Z) (QW 4 Z Z Q2H Q73 Z Z) ⟨s,z,q.length,Z,Z,Z⟩ (asK [] Z) Z Z (.inl Z)
theorem Q7C (N:Nat) (a0:ByteArray) (z:OA) (a1:Nat) (l1:List ByteArray) (o0:Bool) (hm:Q4x N a0 l1 = some o0):Q1o Tryz.prog 235 [.string a0,.slice z l1.length a1] [.sli 1 Q1y z a1 l1] [] (fun v Φr Hr=>v = .bool o0 ∧ Φr = [] ∧ Hr = []):=by
 unfold Q4x at hm
 refine QD Tryz.func235 Z Tryz.ntmps235 Z (S:=[_,_]) Z (fun C=>(Q5 (Q1 (wP Z (Q3 (Q4 (Q2 [0,1] (S':=[_,_]) Z (Q5 ?_))))))))
 obtain ⟨a6,hm,hLj_1⟩:=Q1w hm
 refine QI (σ:=Unit) (fun _=>a6 = .inl ()) (fun _=>[]) (fun _=>[]) (fun _=>[]) ?_ ?_
 refine Q5 (Q1 (wP Z (Q3 (Q4 (Qw (Q1E (σ:=Nat × Nat) (fun (q,j)=>Q1M (Q52 N l1 a0) q j = some a6) (fun (q,j)=>q) (fun (q,j)=>[(5,.int .i64 ((j:Nat):Int)),(0,.string a0),(1,.slice z l1.length a1)]) (fun (q,j)=>[.sli 1 Q1y z a1 l1]) (fun (q,j)=>[]) (N,0) hm [5,0,1] Z (asK [0] Z) Z (fun s_ hm=>?_)))))))
 obtain ⟨q,j⟩:=s_
 try dsimp only at hm ⊢
 obtain ⟨aG,aH,a8,hq,hLu1⟩:=Q1e hm
 clear hm
 subst a8
 replace hm:=hq
 clear hq
 unfold Q52 at hm
 try dsimp only at hm
 refine Q5 (Q5 (Q1 (wP Z (wP Z (wN Z Q2c (wP Z (QH (d:=9) (v':=.bool (decide (j < l1.length))) (S':=V6 ..) Z Z (Q2z (a:=j) (b:=l1.length)) (Q3 (Q4 (Q2 [9,5,0,1] (S':=V4 ..) Z ?_))))))))))
 refine Qj Z (fun a7=>?_) (fun a7=>?_)
 replace hm:=QA hm a7
 refine Q2 [5,0,1] (S':=V3 ..) Z (Qq (Q4 (Q5 (Qw (Q5 (Q1 (wP Z (wP Z ?_))))))))
 obtain ⟨aI,a9,hm⟩:=Q6 hm
 refine Q1F 0 j Z Z Z Zq Z Z Z Z Z a9 Q2c Q27 (fun aJ aK aF aD=>(Q22 Q5E 1 Z (fun aL aA _=>?_)))
 subst aA
 refine Q21 0 0 Z Z Z Zq Z Z Z (cs:=[_]) Z Q27 Q2E Z Z (wP Z (wP Z (Q3 (Q4 (Q2 [17,5,0,1] (S':=V4 ..) Z ?_)))))
 refine Qj Z (fun s=>?_) (fun s=>?_)
 replace hm:=QA hm s
 refine Q2 [] (S':=[]) Z (Q5 (Q1 (wP Z (Q3 (Q4 (Qb (Qg (Q7 (Q7 (Qg (Q7 ?_)))))))))))
 have hE:=(Zi hm).symm
 replace hE:=Qv hLu1 hE
 replace hE:=Qv hLj_1 hE
 replace hE:=hE.symm
 subst hE
 refine Ql (Hr:=[]) [] Tryz.results235 (Qc Z) ⟨Z,Z,Z⟩ (asK [] Z) Z Z (.inl Z)
 replace hm:=Qz hm s
 refine Q2 [5,0,1] (S':=V3 ..) Z (Qq (Qh (Q4 (Q1 (wP Z (wP Z ?_))))))
 obtain ⟨aB,hm⟩:=Qu hm
 refine QH (d:=11) (v':=.int .i64 ((j + 1:Nat):Int)) (S':=V4 ..) Z Z (Q1J (a:=j) (b:=1) aB) (Q1b (S':=V4 ..) Z Z Z Z Z (Q3 ?_))
 have hE:=(Zi hm).symm
 replace hE:=QO hLu1 hE
 refine Q1a (_,j + 1) (Nat.lt_succ_self _) hE [5,0,1] Z (asK [2] Z) Z
 replace hm:=Qz hm a7
 refine Q2 [] (S':=[]) Z (Q1x (Qk (Qk (QJ ?_))))
 have hE:=(Zi hm).symm
 replace hE:=Qv hLu1 hE
 refine Q9 () hE [] Z (asK [] Z) Z
 rintro _ hE
 try dsimp only
 have hm:=QO hLj_1 hE
 try dsimp only at hm
 refine Q5 (Q1 (wP Z (Q3 (Q4 (Qb ?_)))))
 have hE:=(Zi hm).symm
 replace hE:=hE.symm
 subst hE
 refine Ql (Hr:=[]) [] Tryz.results235 (Qc Z) ⟨Z,Z,Z⟩ (asK [] Z) Z Z (.inl Z)
end Go.Proofs.YtbgodclhmgmcgaaGreatDoor
