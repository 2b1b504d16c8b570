import Derived.Test.YtgangmegcejllaaGreatDoorXW1
namespace Go.Proofs.YtgangmegcejllaaGreatDoor
open Go.RowKit
set_option maxRecDepth 100000
set_option maxHeartbeats 4000000
theorem Q7v (N:Nat) (a8:OA) (aD:Nat) (a9:Nat) (l0:List Q1) (a1:Int) (a2:Int) (aA:Addr) (aB:Nat) (aC:Nat) (l3:List Int) (o0:List Q1) (hm:Q34 N l0 a1 a2 l3 = some o0):Q1R Tryz.prog 149 [.slice a8 aD a9,.int .i64 a1,.int .i64 a2,.func (.func 41) #[.slice (some aA) aB aC] #[]] [tF] [.own 45 2 Q9 (.slice a8 aD a9) l0,.own 3 1 Qi (.slice (some aA) aB aC) l3] (fun v Φr Hr=>v = .tuple #[] ∧ Φr = [] ∧ Hr = [.own 45 2 Q9 (.slice a8 aD a9) o0,.own 3 1 Qi (.slice (some aA) aB aC) l3]):=by
 unfold Q34 at hm
 refine QZ Tryz.func149 Z Tryz.ntmps149 Z (S:=V4 ..) Z (fun C=>(Q6 (Q2 (wP Z (wP Z (Q3 (Q4 (Q5 [8,0,1,2,3] (S':=V5 ..) Z (Q6 (Q2 (wP Z (Q3 (Q4 (Q6 ?_))))))))))))))
 refine Q2 (wP Z (wP Z (wP Z ?_)))
 obtain ⟨aW,hm⟩:=Qd hm
 refine Qz (d:=16) (v':=.int .i64 (a2 - a1)) (S':=V8 ..) Z Z (i64_in aW) (wP Z (Q3 (Q4 (Q5 [10,9,8,0,3] (S':=V5 ..) Z (Q6 ?_)))))
 obtain ⟨aT,hm,hLj_1⟩:=Q7 hm
 refine Q18 (σ:=List Q1) (fun a5=>aT = a5) (fun a5=>[(10,.int .i64 (a2 - a1)),(9,.int .i64 0),(8,.int .i64 a1),(0,.slice a8 aD a9),(3,.func (.func 41) #[.slice (some aA) aB aC] #[])]) (fun a5=>[tF]) (fun a5=>[.own 45 2 Q9 (.slice a8 aD a9) a5,.own 3 1 Qi (.slice (some aA) aB aC) l3]) ?_ ?_
 refine Q6 (Q2 (wP Z (wP Z ?_)))
 obtain ⟨aX,hm⟩:=Qd hm
 refine Qz (d:=18) (v':=.int .i64 ((a2 - a1) - 1)) (S':=V6 ..) Z Z (i64_in aX) (Q5q Z Z Z Zq Z Z Z (Q9C (by decide)) (wP Z (Q3 (Q4 (Q5 [11,10,9,8,0,3] (S':=V6 ..) Z (Qm (Q1f (σ:=Nat × Int × (List Q1)) (fun (aI,a6,a3)=>Q1o (Q1S N a2 a1 l3) aI (a6,a3) = some aT) (fun (aI,a6,a3)=>aI) (fun (aI,a6,a3)=>[(11,.int .i64 a6),(10,.int .i64 (a2 - a1)),(9,.int .i64 0),(8,.int .i64 a1),(0,.slice a8 aD a9),(3,.func (.func 41) #[.slice (some aA) aB aC] #[])]) (fun (aI,a6,a3)=>[tF]) (fun (aI,a6,a3)=>[.own 45 2 Q9 (.slice a8 aD a9) a3,.own 3 1 Qi (.slice (some aA) aB aC) l3]) (N,IntKind.wrap .i64 (Int.tdiv ((a2 - a1) - 1) 2),l0) hm [11,10,9,8,0,3] Z (asK [0] Z) Z (fun s_ hm=>?_))))))))
 obtain ⟨aI,a6,a3⟩:=s_
 try dsimp only at hm ⊢
 obtain ⟨bE,bF,aY,hq,hLu1⟩:=Q1d hm
 clear hm
 subst aY
 replace hm:=hq
 clear hq
 unfold Q1S at hm
 try dsimp only at hm
 refine Q6 (Q6 (Q2 (wP Z (wP Z (Q3 (Q4 (Q5 [21,11,10,9,8,0,3] (S':=V7 ..) Z ?_)))))))
 refine QA Z (fun aP=>?_) (fun aP=>?_)
 replace hm:=Q1z hm aP
 refine Q5 [11,10,9,8,0,3] (S':=V6 ..) Z (Qs (Q4 (Q6 (Qm (Q2 (wP Z (wP Z (wP Z (wP Z (wP Z (QK 0 Z (fun aJ _=>?_))))))))))))
 subst aJ
 obtain ⟨bC,aZ,hm⟩:=Q7 hm
 refine wC [0,1] [] Z fn_173 Z (Q62 N a8 a3.length a9 a3 a6 (a2 - a1) a1 aA aB aC l3 _ aZ) (asK [0] Z) Z (H':=[]) Z ?_
 rintro _ _ _ ⟨rfl,rfl,rfl⟩
 refine Q3 (Qj (Q4 (Q5 [11,10,9,8,0,3] (S':=V6 ..) Z (Q2 (wP Z (wP Z ?_))))))
 obtain ⟨b0,hm⟩:=Qd hm
 refine Qz (d:=23) (v':=.int .i64 (a6 - 1)) (S':=V7 ..) Z Z (i64_in b0) (QI (S':=V7 ..) Z Z Z Z Z (Q3 ?_))
 have hE:=(Zi hm).symm
 replace hE:=Q14 hLu1 hE
 refine Q1a (_,a6 - 1,bC) (Nat.lt_succ_self _) hE [11,10,9,8,0,3] Z (asK [0] Z) Z
 replace hm:=Q1y hm aP
 refine Q5 [10,9,8,0,3] (S':=V5 ..) Z (Q19 (Qc (Qc (Qt ?_))))
 have hE:=(Zi hm).symm
 replace hE:=QO hLu1 hE
 refine Qp a3 hE [10,9,8,0,3] Z (asK [0] Z) Z
 rintro a5 hE
 try dsimp only
 have hm:=hLj_1
 try rw [hE] at hm
 refine Q6 (Q2 (wP Z (wP Z ?_)))
 obtain ⟨b1,hm⟩:=Qd hm
 refine Qz (d:=31) (v':=.int .i64 ((a2 - a1) - 1)) (S':=V6 ..) Z Z (i64_in b1) (wP Z (Q3 (Q4 (Q5 [12,9,8,0,3] (S':=V5 ..) Z (Qm (Q1f (σ:=Nat × Int × (List Q1)) (fun (aK,a0,a4)=>Q1o (Q1T N a1 l3) aK (a0,a4) = some o0) (fun (aK,a0,a4)=>aK) (fun (aK,a0,a4)=>[(12,.int .i64 a0),(9,.int .i64 0),(8,.int .i64 a1),(0,.slice a8 aD a9),(3,.func (.func 41) #[.slice (some aA) aB aC] #[])]) (fun (aK,a0,a4)=>[tF]) (fun (aK,a0,a4)=>[.own 45 2 Q9 (.slice a8 aD a9) a4,.own 3 1 Qi (.slice (some aA) aB aC) l3]) (N,(a2 - a1) - 1,a5) hm [12,9,8,0,3] Z (asK [0] Z) Z (fun s_ hm=>?_)))))))
 obtain ⟨aK,a0,a4⟩:=s_
 try dsimp only at hm ⊢
 obtain ⟨bG,bH,b2,hq,hLu2⟩:=Q1d hm
 clear hm
 subst b2
 replace hm:=hq
 clear hq
 unfold Q1T at hm
 try dsimp only at hm
 refine Q6 (Q6 (Q2 (wP Z (wP Z (Q3 (Q4 (Q5 [33,12,9,8,0,3] (S':=V6 ..) Z ?_)))))))
 refine QA Z (fun aQ=>?_) (fun aQ=>?_)
 replace hm:=Q1z hm aQ
 refine Q5 [12,9,8,0,3] (S':=V5 ..) Z (Qs (Q4 (Q6 (Qm (Q6 ?_)))))
 obtain ⟨b3,hm⟩:=Qd hm
 obtain ⟨b4,hm⟩:=Qd hm
 obtain ⟨b5,hm⟩:=Qd hm
 obtain ⟨aG,aR,hm⟩:=Q7 hm
 obtain ⟨b6,hm⟩:=Qd hm
 obtain ⟨aH,aS,hm⟩:=Q7 hm
 obtain ⟨aU,hm⟩:=Qd hm
 obtain ⟨bI,aL,hm⟩:=Q7 hm
 obtain ⟨aV,hm⟩:=Qd hm
 obtain ⟨bJ,aM,hm⟩:=Q7 hm
 refine Q18 (σ:=Unit) (fun _=>True) (fun _=>[(12,.int .i64 a0),(9,.int .i64 0),(8,.int .i64 a1),(0,.slice a8 aD a9),(3,.func (.func 41) #[.slice (some aA) aB aC] #[])]) (fun _=>[tF]) (fun _=>[.own 45 2 Q9 (.slice a8 aD a9) ((a4.set a1.toNat aG).set ((a1 + a0).toNat) aH),.own 3 1 Qi (.slice (some aA) aB aC) l3]) ?_ ?_
 refine QV [0,1,2,3,4,5,6,7,8,9,10,12,13,14,16,18] Z Z (fun hok=>(xP hok 0 Z (xP hok 1 Z (xP hok 2 Z (xP hok 3 Z (xP hok 4 Z (xP hok 5 Z (Q1e (d:=41) (v':=.int .i64 (a1 + a0)) (S':=V10 ..) Z Z (i64_in b3) (xP hok 6 Z (xP hok 7 Z (xP hok 8 Z (xP hok 9 Z (Q1e (d:=45) (v':=.int .i64 (a1 + a0)) (S':=V14 ..) Z Z (i64_in b4) (Q1F hok 10 0 ((a1 + a0).toNat) Z Z Z Zq Z Z Z Z Z (QC b5) (Qw aR) QB Qe (fun bK b7=>?_)))))))))))))))
 subst b7
 refine xP hok 12 Z (xP hok 13 Z (QJ hok 14 0 a1.toNat Z Z Z Zq Z Z Z Z Z (QC b6) (Qw aS) QB Qe ?_))
 refine Q1W hok 11 15 Z Z Z Z Z Z ?_ ?_
 refine Qk Qa 0 ((a1 + a0).toNat) 0 Z Z Z Zq Z Z Z aR Qe QS (v:=fun aE=>.agg #[.int .i64 (aG.rule),.slice aE.1 aG.ids.length aE.2]) (fun _=>Z) (fun _=>Z) (fun aE _=>(Q3 (Qy [1] [] Z Z (xS hok 15 Z (Qk Qa 0 a1.toNat 0 Z Z Z Zq Z Z Z aS Qe QS (v:=fun aF=>.agg #[.int .i64 (aH.rule),.slice aF.1 aH.ids.length aF.2]) (fun _=>Z) (fun _=>Z) (fun aF _=>(Q3 (Qy [1,2] [] Z Z (QJ hok 16 0 a1.toNat Z Z Z Zq Z Z Z Z Z (QC aU) (Qw aL) QB Qe (xS hok 17 Z (QU (u:=aG) 0 a1.toNat Z Z Z Z Z (Qw aL) Z Z Qe Z (fun F w hφ=>⟨(aE.1,aE.2),Z,(Qh (hφ _ (Qu (k:=1) Z)) Qv)⟩) (H':=[_,_]) Z (Q3 (Qy [0,1,2] [] Z Z (QJ hok 18 0 ((a1 + a0).toNat) Z Z Z Zq Z Z Z Z Z (QC aV) (Qw aM) QB Qe (xS hok 19 Z ?_)))))))))))))))
 refine QU (u:=aH) 0 ((a1 + a0).toNat) Z Z Z Z Z (Qw aM) Z Z Qe Z (fun F w hφ=>⟨(aF.1,aF.2),Z,(Qh (hφ _ (Qu (k:=0) Z)) Qv)⟩) (H':=[_,_]) Z (Q3 (Qy [0,1,2] [] Z Z (QL hok Z ?_)))
 refine Qp () trivial [12,9,8,0,3] Z (asK [2] Z) Z
 refine Qk Qa 0 a1.toNat 0 Z Z Z Zq Z Z Z aS Qe QS (v:=fun aF=>.agg #[.int .i64 (aH.rule),.slice aF.1 aH.ids.length aF.2]) (fun _=>Z) (fun _=>Z) (fun aF _=>(Q3 (Qy [1] [] Z Z (xS hok 11 Z (Qk Qa 0 ((a1 + a0).toNat) 0 Z Z Z Zq Z Z Z aR Qe QS (v:=fun aE=>.agg #[.int .i64 (aG.rule),.slice aE.1 aG.ids.length aE.2]) (fun _=>Z) (fun _=>Z) (fun aE _=>(Q3 (Qy [1,2] [] Z Z (QJ hok 16 0 a1.toNat Z Z Z Zq Z Z Z Z Z (QC aU) (Qw aL) QB Qe (xS hok 17 Z (QU (u:=aG) 0 a1.toNat Z Z Z Z Z (Qw aL) Z Z Qe Z (fun F w hφ=>⟨(aE.1,aE.2),Z,(Qh (hφ _ (Qu (k:=0) Z)) Qv)⟩) (H':=[_,_]) Z (Q3 (Qy [0,1,2] [] Z Z (QJ hok 18 0 ((a1 + a0).toNat) Z Z Z Zq Z Z Z Z Z (QC aV) (Qw aM) QB Qe (xS hok 19 Z ?_)))))))))))))))
 refine QU (u:=aH) 0 ((a1 + a0).toNat) Z Z Z Z Z (Qw aM) Z Z Qe Z (fun F w hφ=>⟨(aF.1,aF.2),Z,(Qh (hφ _ (Qu (k:=1) Z)) Qv)⟩) (H':=[_,_]) Z (Q3 (Qy [0,1,2] [] Z Z (QL hok Z ?_)))
 refine Qp () trivial [12,9,8,0,3] Z (asK [2] Z) Z
 rintro _ _
 try dsimp only
 refine Q2 (wP Z (wP Z (wP Z (wP Z (wP Z (QK 0 Z (fun aJ _=>?_)))))))
 subst aJ
 obtain ⟨bD,b8,hm⟩:=Q7 hm
 refine wC [0,1] [] Z fn_173 Z (Q62 N a8 (((a4.set a1.toNat aG).set ((a1 + a0).toNat) aH).length) a9 ((a4.set a1.toNat aG).set ((a1 + a0).toNat) aH) 0 a0 a1 aA aB aC l3 _ b8) (asK [0] Z) Z (H':=[]) Z ?_
 rintro _ _ _ ⟨rfl,rfl,rfl⟩
 refine Q3 (Qj (Q4 (Q5 [12,9,8,0,3] (S':=V5 ..) Z (Q2 (wP Z (wP Z ?_))))))
 obtain ⟨b9,hm⟩:=Qd hm
 refine Qz (d:=35) (v':=.int .i64 (a0 - 1)) (S':=V6 ..) Z Z (i64_in b9) (QI (S':=V6 ..) Z Z Z Z Z (Q3 ?_))
 have hE:=(Zi hm).symm
 replace hE:=Q14 hLu2 hE
 refine Q1a (_,a0 - 1,bD) (Nat.lt_succ_self _) hE [12,9,8,0,3] Z (asK [0] Z) Z
 replace hm:=Q1y hm aQ
 refine Q5 [] (S':=[]) Z (Q19 (Qc (Qc (Qt ?_))))
 have hE:=(Zi hm).symm
 replace hE:=QO hLu2 hE
 replace hE:=hE.symm
 subst hE
 refine Q5E (Hr:=[_,_]) [0,1] Tryz.results149 ⟨Z,Z,Z⟩ (asK [] Z) Z Z (.inr Z)
theorem Q76 (N:Nat) (a9:OA) (aA:Nat) (aB:Nat) (l0:List Q1) (a1:Int) (a2:Int) (aF:Addr) (aG:Nat) (aH:Nat) (l3:List Int) (o0:List Q1) (hm:Q2D N l0 a1 a2 l3 = some o0):Q1R Tryz.prog 152 [.slice a9 aA aB,.int .i64 a1,.int .i64 a2,.func (.func 41) #[.slice (some aF) aG aH] #[]] [tF] [.own 45 2 Q9 (.slice a9 aA aB) l0,.own 3 1 Qi (.slice (some aF) aG aH) l3] (fun v Φr Hr=>v = .tuple #[] ∧ Φr = [] ∧ Hr = [.own 45 2 Q9 (.slice a9 aA aB) o0,.own 3 1 Qi (.slice (some aF) aG aH) l3]):=by
 unfold Q2D at hm
 refine QZ Tryz.func152 Z Tryz.ntmps152 Z (S:=V4 ..) Z (fun C=>(Q6 (Q2 (wP Z (wP Z (Q3 (Q4 (Q5 [8,0,2] (S':=V3 ..) Z (Q6 (Q2 (wP Z (wP Z ?_))))))))))))
 obtain ⟨aO,hm⟩:=Qd hm
 refine Qz (d:=12) (v':=.int .i64 (a2 - 1)) (S':=V4 ..) Z Z (i64_in aO) (wP Z (Q3 (Q4 (Q5 [9,8,0] (S':=V3 ..) Z (Qm (Q1f (σ:=Nat × Int × Int × (List Q1)) (fun (aC,a0,a3,a4)=>Q1o (Q1u N) aC (a0,a3,a4) = some o0) (fun (aC,a0,a3,a4)=>aC) (fun (aC,a0,a3,a4)=>[(9,.int .i64 a0),(8,.int .i64 a3),(0,.slice a9 aA aB)]) (fun (aC,a0,a3,a4)=>[tF]) (fun (aC,a0,a3,a4)=>[.own 45 2 Q9 (.slice a9 aA aB) a4,.own 3 1 Qi (.slice (some aF) aG aH) l3]) (N,a2 - 1,a1,l0) hm [9,8,0] Z (asK [0] Z) Z (fun s_ hm=>?_)))))))
 obtain ⟨aC,a0,a3,a4⟩:=s_
 try dsimp only at hm ⊢
 obtain ⟨aZ,b0,aP,hq,hLu1⟩:=Q1d hm
 clear hm
 subst aP
 replace hm:=hq
 clear hq
 unfold Q1u at hm
 try dsimp only at hm
 refine Q6 (Q6 (Q2 (wP Z (wP Z (wP Z (Q3 (Q4 (Q5 [15,9,8,0] (S':=V4 ..) Z ?_))))))))
 refine QA Z (fun aI=>?_) (fun aI=>?_)
 replace hm:=Q1z hm aI
 refine Q5 [9,8,0] (S':=V3 ..) Z (Qs (Q4 (Qm (Q6 ?_))))
 obtain ⟨aQ,hm⟩:=Qd hm
 obtain ⟨a7,aJ,hm⟩:=Q7 hm
 obtain ⟨aR,hm⟩:=Qd hm
 obtain ⟨a8,aK,hm⟩:=Q7 hm
 obtain ⟨aL,hm⟩:=Qd hm
 obtain ⟨b1,aD,hm⟩:=Q7 hm
 obtain ⟨aM,hm⟩:=Qd hm
 obtain ⟨b2,aE,hm⟩:=Q7 hm
 refine Q18 (σ:=Unit) (fun _=>True) (fun _=>[(9,.int .i64 a0),(8,.int .i64 a3),(0,.slice a9 aA aB)]) (fun _=>[tF]) (fun _=>[.own 45 2 Q9 (.slice a9 aA aB) ((a4.set a3.toNat a7).set a0.toNat a8),.own 3 1 Qi (.slice (some aF) aG aH) l3]) ?_ ?_
 refine QV [0,1,2,3,4,5,6,8,9,10,12,14] Z Z (fun hok=>(xP hok 0 Z (xP hok 1 Z (xP hok 2 Z (xP hok 3 Z (xP hok 4 Z (xP hok 5 Z (Q1F hok 6 0 a0.toNat Z Z Z Zq Z Z Z Z Z (QC aQ) (Qw aJ) QB Qe (fun b3 aS=>?_)))))))))
 subst aS
 refine xP hok 8 Z (xP hok 9 Z (QJ hok 10 0 a3.toNat Z Z Z Zq Z Z Z Z Z (QC aR) (Qw aK) QB Qe ?_))
 refine Q1W hok 7 11 Z Z Z Z Z Z ?_ ?_
 refine Qk Qa 0 a0.toNat 0 Z Z Z Zq Z Z Z aJ Qe QS (v:=fun a5=>.agg #[.int .i64 (a7.rule),.slice a5.1 a7.ids.length a5.2]) (fun _=>Z) (fun _=>Z) (fun a5 _=>(Q3 (Qy [1] [] Z Z (xS hok 11 Z (Qk Qa 0 a3.toNat 0 Z Z Z Zq Z Z Z aK Qe QS (v:=fun a6=>.agg #[.int .i64 (a8.rule),.slice a6.1 a8.ids.length a6.2]) (fun _=>Z) (fun _=>Z) (fun a6 _=>(Q3 (Qy [1,2] [] Z Z (QJ hok 12 0 a3.toNat Z Z Z Zq Z Z Z Z Z (QC aL) (Qw aD) QB Qe (xS hok 13 Z (QU (u:=a7) 0 a3.toNat Z Z Z Z Z (Qw aD) Z Z Qe Z (fun F w hφ=>⟨(a5.1,a5.2),Z,(Qh (hφ _ (Qu (k:=1) Z)) Qv)⟩) (H':=[_,_]) Z (Q3 (Qy [0,1,2] [] Z Z (QJ hok 14 0 a0.toNat Z Z Z Zq Z Z Z Z Z (QC aM) (Qw aE) QB Qe (xS hok 15 Z ?_)))))))))))))))
 refine QU (u:=a8) 0 a0.toNat Z Z Z Z Z (Qw aE) Z Z Qe Z (fun F w hφ=>⟨(a6.1,a6.2),Z,(Qh (hφ _ (Qu (k:=0) Z)) Qv)⟩) (H':=[_,_]) Z (Q3 (Qy [0,1,2] [] Z Z (QL hok Z ?_)))
 refine Qp () trivial [9,8,0] Z (asK [2] Z) Z
 refine Qk Qa 0 a3.toNat 0 Z Z Z Zq Z Z Z aK Qe QS (v:=fun a6=>.agg #[.int .i64 (a8.rule),.slice a6.1 a8.ids.length a6.2]) (fun _=>Z) (fun _=>Z) (fun a6 _=>(Q3 (Qy [1] [] Z Z (xS hok 7 Z (Qk Qa 0 a0.toNat 0 Z Z Z Zq Z Z Z aJ Qe QS (v:=fun a5=>.agg #[.int .i64 (a7.rule),.slice a5.1 a7.ids.length a5.2]) (fun _=>Z) (fun _=>Z) (fun a5 _=>(Q3 (Qy [1,2] [] Z Z (QJ hok 12 0 a3.toNat Z Z Z Zq Z Z Z Z Z (QC aL) (Qw aD) QB Qe (xS hok 13 Z (QU (u:=a7) 0 a3.toNat Z Z Z Z Z (Qw aD) Z Z Qe Z (fun F w hφ=>⟨(a5.1,a5.2),Z,(Qh (hφ _ (Qu (k:=0) Z)) Qv)⟩) (H':=[_,_]) Z (Q3 (Qy [0,1,2] [] Z Z (QJ hok 14 0 a0.toNat Z Z Z Zq Z Z Z Z Z (QC aM) (Qw aE) QB Qe (xS hok 15 Z ?_)))))))))))))))
 refine QU (u:=a8) 0 a0.toNat Z Z Z Z Z (Qw aE) Z Z Qe Z (fun F w hφ=>⟨(a6.1,a6.2),Z,(Qh (hφ _ (Qu (k:=1) Z)) Qv)⟩) (H':=[_,_]) Z (Q3 (Qy [0,1,2] [] Z Z (QL hok Z ?_)))
 refine Qp () trivial [9,8,0] Z (asK [2] Z) Z
 rintro _ _
 try dsimp only
 refine Q6 (Q2 (wP Z (wP Z ?_)))
 obtain ⟨aT,hm⟩:=Qd hm
 refine Qz (d:=31) (v':=.int .i64 (a3 + 1)) (S':=V4 ..) Z Z (i64_in aT) (QI (S':=V4 ..) Z Z Z Z Z (Q3 (Q4 (Q5 [8,9,0] (S':=V3 ..) Z (Q2 (wP Z (wP Z ?_)))))))
 obtain ⟨aU,hm⟩:=Qd hm
 refine Qz (d:=33) (v':=.int .i64 (a0 - 1)) (S':=V4 ..) Z Z (i64_in aU) (QI (S':=V4 ..) Z Z Z Z Z (Q3 (Qj ?_)))
 have hE:=(Zi hm).symm
 replace hE:=Q14 hLu1 hE
 refine Q1a (_,a0 - 1,a3 + 1,(a4.set a3.toNat a7).set a0.toNat a8) (Nat.lt_succ_self _) hE [9,8,0] Z (asK [0] Z) Z
 replace hm:=Q1y hm aI
 refine Q5 [] (S':=[]) Z (Q19 (Qc (Qc (Qt ?_))))
 have hE:=(Zi hm).symm
 replace hE:=QO hLu1 hE
 replace hE:=hE.symm
 subst hE
 refine Q5E (Hr:=[_,_]) [0,1] Tryz.results152 ⟨Z,Z,Z⟩ (asK [] Z) Z Z (.inr Z)
theorem Q6k (N:Nat) (aD:OA) (aE:Nat) (aF:Nat) (l0:List Q1) (a1:Int) (a2:Int) (a7:Addr) (a8:Nat) (a9:Nat) (l3:List Int) (o0:Bool) (o1:List Q1) (hm:Q22 N l0 a1 a2 l3 = some (o0,o1)):Q1R Tryz.prog 153 [.slice aD aE aF,.int .i64 a1,.int .i64 a2,.func (.func 41) #[.slice (some a7) a8 a9] #[]] [tF] [.own 45 2 Q9 (.slice aD aE aF) l0,.own 3 1 Qi (.slice (some a7) a8 a9) l3] (fun v Φr Hr=>v = .bool o0 ∧ Φr = [] ∧ Hr = [.own 45 2 Q9 (.slice aD aE aF) o1,.own 3 1 Qi (.slice (some a7) a8 a9) l3]):=by
 unfold Q22 at hm
 refine QZ Tryz.func153 Z Tryz.ntmps153 Z (S:=V4 ..) Z (fun C=>(Q6 (Q2 (wP Z (Q3 (Q4 (Q5 [0,1,2,3] (S':=V4 ..) Z (Q6 (Q2 (wP Z (wP Z ?_)))))))))))
 obtain ⟨cZ,hm⟩:=Qd hm
 refine Qz (d:=14) (v':=.int .i64 (a1 + 1)) (S':=V5 ..) Z Z (i64_in cZ) (wP Z (Q3 (Q4 (Q5 [9,0,1,2,3] (S':=V5 ..) Z (Q6 ?_)))))
 obtain ⟨cE,hm,hLj_1⟩:=Q35 hm
 refine Q18 (σ:=List Q1) (fun aH=>cE = .inl aH) (fun aH=>[]) (fun aH=>[tF]) (fun aH=>[.own 45 2 Q9 (.slice aD aE aF) aH,.own 3 1 Qi (.slice (some a7) a8 a9) l3]) ?_ ?_
 refine Q6 (Q2 (wP Z (Q3 (Q4 (Qm (Q1f (σ:=Nat × Nat × Int × (List Q1)) (fun (bE,a5,aV,a6)=>Q1o (Q1b N a2 l3 a1) bE (a5,aV,a6) = some cE) (fun (bE,a5,aV,a6)=>bE) (fun (bE,a5,aV,a6)=>[(10,.int .i64 ((a5:Nat):Int)),(9,.int .i64 aV),(0,.slice aD aE aF),(1,.int .i64 a1),(2,.int .i64 a2),(3,.func (.func 41) #[.slice (some a7) a8 a9] #[])]) (fun (bE,a5,aV,a6)=>[tF]) (fun (bE,a5,aV,a6)=>[.own 45 2 Q9 (.slice aD aE aF) a6,.own 3 1 Qi (.slice (some a7) a8 a9) l3]) (N,0,a1 + 1,l0) hm [10,9,0,1,2,3] Z (asK [0] Z) Z (fun s_ hm=>?_)))))))
 obtain ⟨bE,a5,aV,a6⟩:=s_
 try dsimp only at hm ⊢
 obtain ⟨e5,e6,d0,hq,hLu1⟩:=Q1d hm
 clear hm
 subst d0
 replace hm:=hq
 clear hq
 unfold Q1b at hm
 try dsimp only at hm
 refine Q6 (Q6 (Q2 (wP Z (wP Z (Qz (d:=16) (v':=.bool (decide (a5 < 5))) (S':=V7 ..) Z Z (Q3f (a:=a5) (b:=5)) (Q3 (Q4 (Q5 [16,10,9,0,1,2,3] (S':=V7 ..) Z ?_))))))))
 refine QA Z (fun bU=>?_) (fun bU=>?_)
 replace hm:=Q1z hm bU
 refine Q5 [10,9,0,1,2,3] (S':=V6 ..) Z (Qs (Q4 (Q6 ?_)))
 obtain ⟨cF,hm,hLj_2⟩:=Q35 hm
 unfold Q1P at hm
 refine Q18 (σ:=Int × (List Q1)) (fun (aQ,aI)=>cF = .inl (aQ,aI)) (fun (aQ,aI)=>[(10,.int .i64 ((a5:Nat):Int)),(9,.int .i64 aQ),(0,.slice aD aE aF),(1,.int .i64 a1),(2,.int .i64 a2),(3,.func (.func 41) #[.slice (some a7) a8 a9] #[])]) (fun (aQ,aI)=>[tF]) (fun (aQ,aI)=>[.own 45 2 Q9 (.slice aD aE aF) aI,.own 3 1 Qi (.slice (some a7) a8 a9) l3]) ?_ ?_
 refine Qm (Q6 ?_)
 obtain ⟨cG,hm,hLj_3⟩:=Q7 hm
 refine Q18 (σ:=Int) (fun a0=>cG = a0) (fun a0=>[(10,.int .i64 ((a5:Nat):Int)),(9,.int .i64 a0),(0,.slice aD aE aF),(1,.int .i64 a1),(2,.int .i64 a2),(3,.func (.func 41) #[.slice (some a7) a8 a9] #[])]) (fun a0=>[tF]) (fun a0=>[.own 45 2 Q9 (.slice aD aE aF) a6,.own 3 1 Qi (.slice (some a7) a8 a9) l3]) ?_ ?_
 refine Qm (Q1f (σ:=Nat × Int) (fun (bF,aC)=>Q1o (Q1B N a2 a6 l3) bF aC = some cG) (fun (bF,aC)=>bF) (fun (bF,aC)=>[(10,.int .i64 ((a5:Nat):Int)),(9,.int .i64 aC),(0,.slice aD aE aF),(1,.int .i64 a1),(2,.int .i64 a2),(3,.func (.func 41) #[.slice (some a7) a8 a9] #[])]) (fun (bF,aC)=>[tF]) (fun (bF,aC)=>[.own 45 2 Q9 (.slice aD aE aF) a6,.own 3 1 Qi (.slice (some a7) a8 a9) l3]) (N,aV) hm [10,9,0,1,2,3] Z (asK [0] Z) Z (fun s_ hm=>?_))
 obtain ⟨bF,aC⟩:=s_
 try dsimp only at hm ⊢
 obtain ⟨e7,e8,d1,hq,hLu2⟩:=Q1d hm
 clear hm
 subst d1
 replace hm:=hq
 clear hq
 unfold Q1B at hm
 try dsimp only at hm
 refine Q6 (Q6 ?_)
 obtain ⟨d2,hm,hLj_4⟩:=Q7 hm
 unfold Q38 at hm
 refine Q18 (σ:=Bool) (fun aP=>d2 = aP) (fun aP=>[(10,.int .i64 ((a5:Nat):Int)),(9,.int .i64 aC),(0,.slice aD aE aF),(1,.int .i64 a1),(2,.int .i64 a2),(3,.func (.func 41) #[.slice (some a7) a8 a9] #[]),(36,.bool aP)]) (fun aP=>[tF]) (fun aP=>[.own 45 2 Q9 (.slice aD aE aF) a6,.own 3 1 Qi (.slice (some a7) a8 a9) l3]) ?_ ?_
 rcases Q32 hm with ⟨bV,hm⟩ | ⟨bV,hm⟩
 ·
  obtain ⟨d3,hm⟩:=Qd hm
  obtain ⟨aX,bW,hm⟩:=Q7 hm
  obtain ⟨d4,hm⟩:=Qd hm
  obtain ⟨d5,hm⟩:=Qd hm
  obtain ⟨aY,bX,hm⟩:=Q7 hm
  obtain ⟨dV,cH,hm⟩:=Q7 hm
  refine QV [0,1,2,3,4,5,6,7,9,10,11,12,15,16,17] Z Z (fun hok=>(xP hok 0 Z (xP hok 1 Z (xP hok 2 Z (xP hok 3 Z (Q1e (d:=22) (v':=.bool true) (S':=V9 ..) Z Z (Q16 bV) (xP hok 4 Z (xP hok 5 Z (xP hok 6 Z (Q1F hok 7 0 aC.toNat Z Z Z Zq Z Z Z Z Z (QC d3) (Qw bW) QB Qe (fun e9 d6=>?_)))))))))))
  subst d6
  refine xP hok 9 Z (xP hok 10 Z (xP hok 11 Z (Q1e (d:=30) (v':=.int .i64 (aC - 1)) (S':=V16 ..) Z Z (i64_in d4) (QJ hok 12 0 ((aC - 1).toNat) Z Z Z Zq Z Z Z Z Z (QC d5) (Qw bX) QB Qe ?_))))
  refine Q1W hok 8 13 Z Z Z Z Z Z ?_ ?_
  rotate_left
  focus
   refine Qk Qa 0 ((aC - 1).toNat) 0 Z Z Z Zq Z Z Z bX Qe QS (v:=fun aR=>.agg #[.int .i64 (aY.rule),.slice aR.1 aY.ids.length aR.2]) (fun _=>Z) (fun _=>Z) (fun aR _=>(Q3 (Qy [1] [] Z Z (xS hok 8 Z (Qk Qa 0 aC.toNat 0 Z Z Z Zq Z Z Z bW Qe QS (v:=fun aS=>.agg #[.int .i64 (aX.rule),.slice aS.1 aX.ids.length aS.2]) (fun _=>Z) (fun _=>Z) (fun aS _=>(Q3 (Qy [1,2] [] Z Z (xS hok 14 Z (Q26 (args:=[.slice (some a7) a8 a9,.agg #[.int .i64 (aX.rule),.slice aS.1 aX.ids.length aS.2],.agg #[.int .i64 (aY.rule),.slice aR.1 aY.ids.length aR.2]]) [1] [0] Z Z Z Zq Z Z Z Q66 Z Z (QN N a7 a8 a9 l3 aX.rule aS.1 aS.2 aX.ids aY.rule aR.1 aR.2 aY.ids _ cH) (asK [0,1,2] Z) Z (H':=[_]) Z ?_))))))))))
  rotate_right
  focus
   refine Qk Qa 0 aC.toNat 0 Z Z Z Zq Z Z Z bW Qe QS (v:=fun aS=>.agg #[.int .i64 (aX.rule),.slice aS.1 aX.ids.length aS.2]) (fun _=>Z) (fun _=>Z) (fun aS _=>(Q3 (Qy [1] [] Z Z (xS hok 13 Z (Qk Qa 0 ((aC - 1).toNat) 0 Z Z Z Zq Z Z Z bX Qe QS (v:=fun aR=>.agg #[.int .i64 (aY.rule),.slice aR.1 aY.ids.length aR.2]) (fun _=>Z) (fun _=>Z) (fun aR _=>(Q3 (Qy [1,2] [] Z Z (xS hok 14 Z (Q26 (args:=[.slice (some a7) a8 a9,.agg #[.int .i64 (aX.rule),.slice aS.1 aX.ids.length aS.2],.agg #[.int .i64 (aY.rule),.slice aR.1 aY.ids.length aR.2]]) [1] [0] Z Z Z Zq Z Z Z Q66 Z Z (QN N a7 a8 a9 l3 aX.rule aS.1 aS.2 aX.ids aY.rule aR.1 aR.2 aY.ids _ cH) (asK [1,0,2] Z) Z (H':=[_]) Z ?_))))))))))
  all_goals
   rintro _ _ _ ⟨rfl,rfl,rfl⟩
   refine Q3 (Qy [0,1,2] [] Z Z (xP hok 15 Z (xP hok 16 Z (xP hok 17 Z (QL hok Z ?_)))))
   have hE:=(Zi hm).symm
   refine Q1m [1,0] Z (H':=[_,_]) Z ?_
   refine Qp (!(decide (dV < 0))) hE [10,9,0,1,2,3,36] Z (asK [2] Z) Z
 ·
  refine QV [0,1,2,3,4,5,6,7,9,10,11,12,15,16,17] Z Z (fun hok=>(xP hok 0 Z (xP hok 1 Z (xP hok 2 Z (xP hok 3 Z (Q1e (d:=22) (v':=.bool false) (S':=V9 ..) Z Z (Q16 bV) (xO hok 4 Z (xO hok 5 Z (xO hok 6 Z (xO hok 7 Z (xO hok 9 Z (xO hok 10 Z (xO hok 11 Z (xO hok 12 Z ?_))))))))))))))
  refine Q1W hok 8 13 Z Z Z Z Z Z ?_ ?_
  rotate_left
  focus
   refine wO Z (Q3 (Qy [0] [] Z Z (xS hok 8 Z ?_)))
  rotate_right
  focus
   refine wO Z (Q3 (Qy [0] [] Z Z (xS hok 13 Z ?_)))
  all_goals
   refine wO Z (Q3 (Qy [0] [] Z Z (xS hok 14 Z (wO Z (Q3 (Qy [0] [] Z Z (xO hok 15 Z (xO hok 16 Z (xP hok 17 Z (QL hok Z ?_))))))))))
   have hE:=(Zi hm).symm
   refine Qp false hE [10,9,0,1,2,3,36] Z (asK [0] Z) Z
 rintro aP hE
 try dsimp only
 have hm:=hLj_4
 try rw [hE] at hm
 refine QA Z (fun bY=>?_) (fun bY=>?_)
 replace hm:=Q1z hm bY
 refine Q5 [10,9,0,1,2,3] (S':=V6 ..) Z (Qs (Q4 (Qm (Q2 (wP Z (wP Z ?_))))))
 obtain ⟨d7,hm⟩:=Qd hm
 refine Qz (d:=38) (v':=.int .i64 (aC + 1)) (S':=V7 ..) Z Z (i64_in d7) (QI (S':=V7 ..) Z Z Z Z Z (Q3 (Qj ?_)))
 have hE:=(Zi hm).symm
 replace hE:=Q14 hLu2 hE
 refine Q1a (_,aC + 1) (Nat.lt_succ_self _) hE [10,9,0,1,2,3] Z (asK [0] Z) Z
 replace hm:=Q1y hm bY
 refine Q5 [10,9,0,1,2,3] (S':=V6 ..) Z (Q19 (Qc (Qc (Qt ?_))))
 have hE:=(Zi hm).symm
 replace hE:=QO hLu2 hE
 refine Qp aC hE [10,9,0,1,2,3] Z (asK [0] Z) Z
 rintro a0 hE
 try dsimp only
 have hm:=hLj_3
 try rw [hE] at hm
 refine Q6 (Q6 (Q2 (wP Z (wP Z (wP Z (Q3 (Q4 (Q5 [41,10,9,0,1,2,3] (S':=V7 ..) Z ?_))))))))
 refine QA Z (fun bZ=>?_) (fun bZ=>?_)
 replace hm:=Q1z hm bZ
 refine Q5 [] (S':=[]) Z (Q6 (Q2 (wP Z (Q3 (Q4 (QP (Qn (Q11 (Qn (Qn (Q11 (Qn ?_))))))))))))
 have hE:=(Zi hm).symm
 replace hE:=QO hLj_2 hE
 replace hE:=QO hLu1 hE
 replace hE:=QO hLj_1 hE
 obtain ⟨hE0,hE1⟩:=Prod.mk.inj hE
 clear hE
 replace hE0:=hE0.symm
 subst hE0
 replace hE1:=hE1.symm
 subst hE1
 refine QH (Hr:=[_,_]) [0,1] Tryz.results153 (QD Z) ⟨Z,Z,Z⟩ (asK [] Z) Z Z (.inl Z)
 replace hm:=Q1y hm bZ
 refine Q5 [10,9,0,1,2,3] (S':=V6 ..) Z (Qs (Q4 (Q6 (Q6 (Q2 (wP Z (wP Z (wP Z ?_))))))))
 obtain ⟨d8,hm⟩:=Qd hm
 refine Qz (d:=44) (v':=.int .i64 (a2 - a1)) (S':=V8 ..) Z Z (i64_in d8) (wP Z (Q3 (Q4 (Q5 [45,10,9,0,1,2,3] (S':=V7 ..) Z ?_))))
 refine QA Z (fun c0=>?_) (fun c0=>?_)
 replace hm:=Q1z hm c0
 refine Q5 [] (S':=[]) Z (Q6 (Q2 (wP Z (Q3 (Q4 (QP (Qn (Q11 (Qn (Qn (Q11 (Qn ?_))))))))))))
 have hE:=(Zi hm).symm
 replace hE:=QO hLj_2 hE
 replace hE:=QO hLu1 hE
 replace hE:=QO hLj_1 hE
 obtain ⟨hE0,hE1⟩:=Prod.mk.inj hE
 clear hE
 replace hE0:=hE0.symm
 subst hE0
 replace hE1:=hE1.symm
 subst hE1
 refine QH (Hr:=[_,_]) [0,1] Tryz.results153 (QD Z) ⟨Z,Z,Z⟩ (asK [] Z) Z Z (.inl Z)
 replace hm:=Q1y hm c0
 refine Q5 [10,9,0,1,2,3] (S':=V6 ..) Z (Qs (Q4 (Q6 ?_)))
 obtain ⟨d9,hm⟩:=Qd hm
 obtain ⟨dA,hm⟩:=Qd hm
 obtain ⟨dB,hm⟩:=Qd hm
 obtain ⟨b7,c1,hm⟩:=Q7 hm
 obtain ⟨dC,hm⟩:=Qd hm
 obtain ⟨b8,c2,hm⟩:=Q7 hm
 obtain ⟨cI,hm⟩:=Qd hm
 obtain ⟨eA,bR,hm⟩:=Q7 hm
 obtain ⟨cJ,hm⟩:=Qd hm
 obtain ⟨eB,bS,hm⟩:=Q7 hm
 refine Q18 (σ:=Unit) (fun _=>True) (fun _=>[(10,.int .i64 ((a5:Nat):Int)),(9,.int .i64 a0),(0,.slice aD aE aF),(1,.int .i64 a1),(2,.int .i64 a2),(3,.func (.func 41) #[.slice (some a7) a8 a9] #[])]) (fun _=>[tF]) (fun _=>[.own 45 2 Q9 (.slice aD aE aF) ((a6.set a0.toNat b7).set ((a0 - 1).toNat) b8),.own 3 1 Qi (.slice (some a7) a8 a9) l3]) ?_ ?_
 refine QV [0,1,2,3,4,5,6,7,8,10,11,12,14,16] Z Z (fun hok=>(xP hok 0 Z (xP hok 1 Z (xP hok 2 Z (xP hok 3 Z (xP hok 4 Z (Q1e (d:=50) (v':=.int .i64 (a0 - 1)) (S':=V10 ..) Z Z (i64_in d9) (xP hok 5 Z (xP hok 6 Z (xP hok 7 Z (Q1e (d:=53) (v':=.int .i64 (a0 - 1)) (S':=V13 ..) Z Z (i64_in dA) (Q1F hok 8 0 ((a0 - 1).toNat) Z Z Z Zq Z Z Z Z Z (QC dB) (Qw c1) QB Qe (fun eC dD=>?_)))))))))))))
 subst dD
 refine xP hok 10 Z (xP hok 11 Z (QJ hok 12 0 a0.toNat Z Z Z Zq Z Z Z Z Z (QC dC) (Qw c2) QB Qe ?_))
 refine Q1W hok 9 13 Z Z Z Z Z Z ?_ ?_
 refine Qk Qa 0 ((a0 - 1).toNat) 0 Z Z Z Zq Z Z Z c1 Qe QS (v:=fun b1=>.agg #[.int .i64 (b7.rule),.slice b1.1 b7.ids.length b1.2]) (fun _=>Z) (fun _=>Z) (fun b1 _=>(Q3 (Qy [1] [] Z Z (xS hok 13 Z (Qk Qa 0 a0.toNat 0 Z Z Z Zq Z Z Z c2 Qe QS (v:=fun b2=>.agg #[.int .i64 (b8.rule),.slice b2.1 b8.ids.length b2.2]) (fun _=>Z) (fun _=>Z) (fun b2 _=>(Q3 (Qy [1,2] [] Z Z (QJ hok 14 0 a0.toNat Z Z Z Zq Z Z Z Z Z (QC cI) (Qw bR) QB Qe (xS hok 15 Z (QU (u:=b7) 0 a0.toNat Z Z Z Z Z (Qw bR) Z Z Qe Z (fun F w hφ=>⟨(b1.1,b1.2),Z,(Qh (hφ _ (Qu (k:=1) Z)) Qv)⟩) (H':=[_,_]) Z (Q3 (Qy [0,1,2] [] Z Z (QJ hok 16 0 ((a0 - 1).toNat) Z Z Z Zq Z Z Z Z Z (QC cJ) (Qw bS) QB Qe (xS hok 17 Z ?_)))))))))))))))
 refine QU (u:=b8) 0 ((a0 - 1).toNat) Z Z Z Z Z (Qw bS) Z Z Qe Z (fun F w hφ=>⟨(b2.1,b2.2),Z,(Qh (hφ _ (Qu (k:=0) Z)) Qv)⟩) (H':=[_,_]) Z (Q3 (Qy [0,1,2] [] Z Z (QL hok Z ?_)))
 refine Qp () trivial [10,9,0,1,2,3] Z (asK [2] Z) Z
 refine Qk Qa 0 a0.toNat 0 Z Z Z Zq Z Z Z c2 Qe QS (v:=fun b2=>.agg #[.int .i64 (b8.rule),.slice b2.1 b8.ids.length b2.2]) (fun _=>Z) (fun _=>Z) (fun b2 _=>(Q3 (Qy [1] [] Z Z (xS hok 9 Z (Qk Qa 0 ((a0 - 1).toNat) 0 Z Z Z Zq Z Z Z c1 Qe QS (v:=fun b1=>.agg #[.int .i64 (b7.rule),.slice b1.1 b7.ids.length b1.2]) (fun _=>Z) (fun _=>Z) (fun b1 _=>(Q3 (Qy [1,2] [] Z Z (QJ hok 14 0 a0.toNat Z Z Z Zq Z Z Z Z Z (QC cI) (Qw bR) QB Qe (xS hok 15 Z (QU (u:=b7) 0 a0.toNat Z Z Z Z Z (Qw bR) Z Z Qe Z (fun F w hφ=>⟨(b1.1,b1.2),Z,(Qh (hφ _ (Qu (k:=0) Z)) Qv)⟩) (H':=[_,_]) Z (Q3 (Qy [0,1,2] [] Z Z (QJ hok 16 0 ((a0 - 1).toNat) Z Z Z Zq Z Z Z Z Z (QC cJ) (Qw bS) QB Qe (xS hok 17 Z ?_)))))))))))))))
 refine QU (u:=b8) 0 ((a0 - 1).toNat) Z Z Z Z Z (Qw bS) Z Z Qe Z (fun F w hφ=>⟨(b2.1,b2.2),Z,(Qh (hφ _ (Qu (k:=1) Z)) Qv)⟩) (H':=[_,_]) Z (Q3 (Qy [0,1,2] [] Z Z (QL hok Z ?_)))
 refine Qp () trivial [10,9,0,1,2,3] Z (asK [2] Z) Z
 rintro _ _
 try dsimp only
 refine Q6 ?_
 obtain ⟨cK,hm,hLj_6⟩:=Q7 hm
 refine Q18 (σ:=List Q1) (fun aG=>cK = aG) (fun aG=>[(10,.int .i64 ((a5:Nat):Int)),(9,.int .i64 a0),(0,.slice aD aE aF),(1,.int .i64 a1),(2,.int .i64 a2),(3,.func (.func 41) #[.slice (some a7) a8 a9] #[])]) (fun aG=>[tF]) (fun aG=>[.own 45 2 Q9 (.slice aD aE aF) aG,.own 3 1 Qi (.slice (some a7) a8 a9) l3]) ?_ ?_
 refine Q6 (Q2 (wP Z (wP Z (wP Z ?_))))
 obtain ⟨dE,hm⟩:=Qd hm
 refine Qz (d:=64) (v':=.int .i64 (a0 - a1)) (S':=V8 ..) Z Z (i64_in dE) (wP Z (Q3 (Q4 (Q5 [65,10,9,0,1,2,3] (S':=V7 ..) Z ?_))))
 refine QA Z (fun c3=>?_) (fun c3=>?_)
 replace hm:=Q1z hm c3
 refine Q5 [10,9,0,1,2,3] (S':=V6 ..) Z (Q6 (Q2 (wP Z (wP Z ?_))))
 obtain ⟨dF,hm⟩:=Qd hm
 refine Qz (d:=67) (v':=.int .i64 (a0 - 1)) (S':=V7 ..) Z Z (i64_in dF) (wP Z (Q3 (Q4 (Q5 [11,10,9,0,1,2,3] (S':=V7 ..) Z (Qm (Q1f (σ:=Nat × Int × (List Q1)) (fun (bG,a3,aA)=>Q1o (Q1h N l3) bG (a3,aA) = some cK) (fun (bG,a3,aA)=>bG) (fun (bG,a3,aA)=>[(11,.int .i64 a3),(10,.int .i64 ((a5:Nat):Int)),(9,.int .i64 a0),(0,.slice aD aE aF),(1,.int .i64 a1),(2,.int .i64 a2),(3,.func (.func 41) #[.slice (some a7) a8 a9] #[])]) (fun (bG,a3,aA)=>[tF]) (fun (bG,a3,aA)=>[.own 45 2 Q9 (.slice aD aE aF) aA,.own 3 1 Qi (.slice (some a7) a8 a9) l3]) (N,a0 - 1,(a6.set a0.toNat b7).set ((a0 - 1).toNat) b8) hm [11,10,9,0,1,2,3] Z (asK [0] Z) Z (fun s_ hm=>?_)))))))
 obtain ⟨bG,a3,aA⟩:=s_
 try dsimp only at hm ⊢
 obtain ⟨eD,eE,dG,hq,hLu3⟩:=Q1d hm
 clear hm
 subst dG
 replace hm:=hq
 clear hq
 unfold Q1h at hm
 try dsimp only at hm
 refine Q6 (Q6 (Q2 (wP Z (wP Z (Q3 (Q4 (Q5 [69,11,10,9,0,1,2,3] (S':=V8 ..) Z ?_)))))))
 refine QA Z (fun c4=>?_) (fun c4=>?_)
 replace hm:=Q1z hm c4
 refine Q5 [11,10,9,0,1,2,3] (S':=V7 ..) Z (Qs (Q4 (Q6 (Qm (Q6 (Q6 ?_))))))
 obtain ⟨dH,hm⟩:=Qd hm
 obtain ⟨aZ,c5,hm⟩:=Q7 hm
 obtain ⟨dI,hm⟩:=Qd hm
 obtain ⟨dJ,hm⟩:=Qd hm
 obtain ⟨b0,c6,hm⟩:=Q7 hm
 obtain ⟨dW,cL,hm⟩:=Q7 hm
 refine Q18 (σ:=Unit) (fun _=>True) (fun _=>[(84,.bool (!(decide (dW < 0)))),(11,.int .i64 a3),(10,.int .i64 ((a5:Nat):Int)),(9,.int .i64 a0),(0,.slice aD aE aF),(1,.int .i64 a1),(2,.int .i64 a2),(3,.func (.func 41) #[.slice (some a7) a8 a9] #[])]) (fun _=>[tF]) (fun _=>[.own 45 2 Q9 (.slice aD aE aF) aA,.own 3 1 Qi (.slice (some a7) a8 a9) l3]) ?_ ?_
 ·
  refine QV [0,1,2,3,5,6,7,8,11,12] Z Z (fun hok=>(xP hok 0 Z (xP hok 1 Z (xP hok 2 Z (Q1F hok 3 0 a3.toNat Z Z Z Zq Z Z Z Z Z (QC dH) (Qw c5) QB Qe (fun eF dK=>?_))))))
  subst dK
  refine xP hok 5 Z (xP hok 6 Z (xP hok 7 Z (Q1e (d:=79) (v':=.int .i64 (a3 - 1)) (S':=V13 ..) Z Z (i64_in dI) (QJ hok 8 0 ((a3 - 1).toNat) Z Z Z Zq Z Z Z Z Z (QC dJ) (Qw c6) QB Qe ?_))))
  refine Q1W hok 4 9 Z Z Z Z Z Z ?_ ?_
  rotate_left
  focus
   refine Qk Qa 0 ((a3 - 1).toNat) 0 Z Z Z Zq Z Z Z c6 Qe QS (v:=fun aT=>.agg #[.int .i64 (b0.rule),.slice aT.1 b0.ids.length aT.2]) (fun _=>Z) (fun _=>Z) (fun aT _=>(Q3 (Qy [1] [] Z Z (xS hok 4 Z (Qk Qa 0 a3.toNat 0 Z Z Z Zq Z Z Z c5 Qe QS (v:=fun aU=>.agg #[.int .i64 (aZ.rule),.slice aU.1 aZ.ids.length aU.2]) (fun _=>Z) (fun _=>Z) (fun aU _=>(Q3 (Qy [1,2] [] Z Z (xS hok 10 Z (Q26 (args:=[.slice (some a7) a8 a9,.agg #[.int .i64 (aZ.rule),.slice aU.1 aZ.ids.length aU.2],.agg #[.int .i64 (b0.rule),.slice aT.1 b0.ids.length aT.2]]) [1] [0] Z Z Z Zq Z Z Z Q66 Z Z (QN N a7 a8 a9 l3 aZ.rule aU.1 aU.2 aZ.ids b0.rule aT.1 aT.2 b0.ids _ cL) (asK [0,1,2] Z) Z (H':=[_]) Z ?_))))))))))
  rotate_right
  focus
   refine Qk Qa 0 a3.toNat 0 Z Z Z Zq Z Z Z c5 Qe QS (v:=fun aU=>.agg #[.int .i64 (aZ.rule),.slice aU.1 aZ.ids.length aU.2]) (fun _=>Z) (fun _=>Z) (fun aU _=>(Q3 (Qy [1] [] Z Z (xS hok 9 Z (Qk Qa 0 ((a3 - 1).toNat) 0 Z Z Z Zq Z Z Z c6 Qe QS (v:=fun aT=>.agg #[.int .i64 (b0.rule),.slice aT.1 b0.ids.length aT.2]) (fun _=>Z) (fun _=>Z) (fun aT _=>(Q3 (Qy [1,2] [] Z Z (xS hok 10 Z (Q26 (args:=[.slice (some a7) a8 a9,.agg #[.int .i64 (aZ.rule),.slice aU.1 aZ.ids.length aU.2],.agg #[.int .i64 (b0.rule),.slice aT.1 b0.ids.length aT.2]]) [1] [0] Z Z Z Zq Z Z Z Q66 Z Z (QN N a7 a8 a9 l3 aZ.rule aU.1 aU.2 aZ.ids b0.rule aT.1 aT.2 b0.ids _ cL) (asK [1,0,2] Z) Z (H':=[_]) Z ?_))))))))))
  all_goals
   rintro _ _ _ ⟨rfl,rfl,rfl⟩
   refine Q3 (Qy [0,1,2] [] Z Z (xP hok 11 Z (xP hok 12 Z (QL hok Z (Q1m [1,0] Z (H':=[_,_]) Z ?_)))))
   refine Qp () trivial [84,11,10,9,0,1,2,3] Z (asK [2] Z) Z
 rintro _ _
 try dsimp only
 refine QA Z (fun c7=>?_) (fun c7=>?_)
 replace hm:=Q1z hm c7
 refine Q5 [10,9,0,1,2,3] (S':=V6 ..) Z (Q19 (Qc (Q6W (by decide) (Qc (Qc (Qt ?_))))))
 have hE:=(Zi hm).symm
 replace hE:=QO hLu3 hE
 refine Qp aA hE [10,9,0,1,2,3] Z (asK [0] Z) Z
 ·
  replace hm:=Q1y hm c7
  refine Q5 [11,10,9,0,1,2,3] (S':=V7 ..) Z (Qs (Q4 ?_))
  obtain ⟨dL,hm⟩:=Qd hm
  obtain ⟨dM,hm⟩:=Qd hm
  obtain ⟨dN,hm⟩:=Qd hm
  obtain ⟨bH,c8,hm⟩:=Q7 hm
  obtain ⟨dO,hm⟩:=Qd hm
  obtain ⟨bI,c9,hm⟩:=Q7 hm
  obtain ⟨cM,hm⟩:=Qd hm
  obtain ⟨eG,bT,hm⟩:=Q7 hm
  obtain ⟨cA,hm⟩:=Qd hm
  obtain ⟨dZ,b9,hm⟩:=Q7 hm
  refine QV [0,1,2,3,4,5,6,7,8,10,11,12,14,16] Z Z (fun hok=>(xP hok 0 Z (xP hok 1 Z (xP hok 2 Z (xP hok 3 Z (xP hok 4 Z (Q1e (d:=89) (v':=.int .i64 (a3 - 1)) (S':=V11 ..) Z Z (i64_in dL) (xP hok 5 Z (xP hok 6 Z (xP hok 7 Z (Q1e (d:=92) (v':=.int .i64 (a3 - 1)) (S':=V14 ..) Z Z (i64_in dM) (Q1F hok 8 0 ((a3 - 1).toNat) Z Z Z Zq Z Z Z Z Z (QC dN) (Qw c8) QB Qe (fun eH dP=>?_)))))))))))))
  subst dP
  refine xP hok 10 Z (xP hok 11 Z (QJ hok 12 0 a3.toNat Z Z Z Zq Z Z Z Z Z (QC dO) (Qw c9) QB Qe ?_))
  refine Q1W hok 9 13 Z Z Z Z Z Z ?_ ?_
  rotate_left
  focus
   refine Qk Qa 0 a3.toNat 0 Z Z Z Zq Z Z Z c9 Qe QS (v:=fun b3=>.agg #[.int .i64 (bI.rule),.slice b3.1 bI.ids.length b3.2]) (fun _=>Z) (fun _=>Z) (fun b3 _=>(Q3 (Qy [1] [] Z Z (xS hok 9 Z (Qk Qa 0 ((a3 - 1).toNat) 0 Z Z Z Zq Z Z Z c8 Qe QS (v:=fun b4=>.agg #[.int .i64 (bH.rule),.slice b4.1 bH.ids.length b4.2]) (fun _=>Z) (fun _=>Z) (fun b4 _=>(Q3 (Qy [1,2] [] Z Z (QJ hok 14 0 a3.toNat Z Z Z Zq Z Z Z Z Z (QC cM) (Qw bT) QB Qe (xS hok 15 Z (QU (u:=bH) 0 a3.toNat Z Z Z Z Z (Qw bT) Z Z Qe Z (fun F w hφ=>⟨(b4.1,b4.2),Z,(Qh (hφ _ (Qu (k:=0) Z)) Qv)⟩) (H':=[_,_]) Z (Q3 (Qy [0,1,2] [] Z Z (QJ hok 16 0 ((a3 - 1).toNat) Z Z Z Zq Z Z Z Z Z (QC cA) (Qw b9) QB Qe (xS hok 17 Z ?_)))))))))))))))
   refine QU (u:=bI) 0 ((a3 - 1).toNat) Z Z Z Z Z (Qw b9) Z Z Qe Z (fun F w hφ=>⟨(b3.1,b3.2),Z,(Qh (hφ _ (Qu (k:=1) Z)) Qv)⟩) (H':=[_,_]) Z ?_
  rotate_right
  focus
   refine Qk Qa 0 ((a3 - 1).toNat) 0 Z Z Z Zq Z Z Z c8 Qe QS (v:=fun b4=>.agg #[.int .i64 (bH.rule),.slice b4.1 bH.ids.length b4.2]) (fun _=>Z) (fun _=>Z) (fun b4 _=>(Q3 (Qy [1] [] Z Z (xS hok 13 Z (Qk Qa 0 a3.toNat 0 Z Z Z Zq Z Z Z c9 Qe QS (v:=fun b3=>.agg #[.int .i64 (bI.rule),.slice b3.1 bI.ids.length b3.2]) (fun _=>Z) (fun _=>Z) (fun b3 _=>(Q3 (Qy [1,2] [] Z Z (QJ hok 14 0 a3.toNat Z Z Z Zq Z Z Z Z Z (QC cM) (Qw bT) QB Qe (xS hok 15 Z (QU (u:=bH) 0 a3.toNat Z Z Z Z Z (Qw bT) Z Z Qe Z (fun F w hφ=>⟨(b4.1,b4.2),Z,(Qh (hφ _ (Qu (k:=1) Z)) Qv)⟩) (H':=[_,_]) Z (Q3 (Qy [0,1,2] [] Z Z (QJ hok 16 0 ((a3 - 1).toNat) Z Z Z Zq Z Z Z Z Z (QC cA) (Qw b9) QB Qe (xS hok 17 Z ?_)))))))))))))))
   refine QU (u:=bI) 0 ((a3 - 1).toNat) Z Z Z Z Z (Qw b9) Z Z Qe Z (fun F w hφ=>⟨(b3.1,b3.2),Z,(Qh (hφ _ (Qu (k:=0) Z)) Qv)⟩) (H':=[_,_]) Z ?_
  all_goals
   refine Q3 (Qy [0,1,2] [] Z Z (QL hok Z (Qj (Q4 (Q5 [11,10,9,0,1,2,3] (S':=V7 ..) Z (Q2 (wP Z (wP Z ?_))))))))
   obtain ⟨dQ,hm⟩:=Qd hm
   refine Qz (d:=71) (v':=.int .i64 (a3 - 1)) (S':=V8 ..) Z Z (i64_in dQ) (QI (S':=V8 ..) Z Z Z Z Z (Q3 ?_))
   have hE:=(Zi hm).symm
   replace hE:=Q14 hLu3 hE
   refine Q1a (_,a3 - 1,(aA.set a3.toNat bH).set ((a3 - 1).toNat) bI) (Nat.lt_succ_self _) hE [11,10,9,0,1,2,3] Z (asK [2] Z) Z
 replace hm:=Q1y hm c4
 refine Q5 [10,9,0,1,2,3] (S':=V6 ..) Z (Q19 (Qc (Qc (Qt ?_))))
 have hE:=(Zi hm).symm
 replace hE:=QO hLu3 hE
 refine Qp aA hE [10,9,0,1,2,3] Z (asK [0] Z) Z
 replace hm:=Q1y hm c3
 refine Q5 [10,9,0,1,2,3] (S':=V6 ..) Z (Qs ?_)
 have hE:=(Zi hm).symm
 refine Qp ((a6.set a0.toNat b7).set ((a0 - 1).toNat) b8) hE [10,9,0,1,2,3] Z (asK [0] Z) Z
 rintro aG hE
 try dsimp only
 have hm:=hLj_6
 try rw [hE] at hm
 refine Q6 (Q2 (wP Z (wP Z (wP Z ?_))))
 obtain ⟨cN,hm⟩:=Qd hm
 refine Qz (d:=103) (v':=.int .i64 (a2 - a0)) (S':=V8 ..) Z Z (i64_in cN) (wP Z (Q3 (Q4 (Q5 [104,10,9,0,1,2,3] (S':=V7 ..) Z ?_))))
 refine QA Z (fun bJ=>?_) (fun bJ=>?_)
 replace hm:=Q1z hm bJ
 refine Q5 [10,9,0,1,2,3] (S':=V6 ..) Z (Q6 (Q2 (wP Z (wP Z ?_))))
 obtain ⟨cO,hm⟩:=Qd hm
 refine Qz (d:=106) (v':=.int .i64 (a0 + 1)) (S':=V7 ..) Z Z (i64_in cO) (wP Z (Q3 (Q4 (Q5 [12,10,9,0,1,2,3] (S':=V7 ..) Z (Qm (Q1f (σ:=Nat × Int × (List Q1)) (fun (bK,a4,aB)=>Q1o (Q1c N a2 l3 a0) bK (a4,aB) = some cF) (fun (bK,a4,aB)=>bK) (fun (bK,a4,aB)=>[(12,.int .i64 a4),(10,.int .i64 ((a5:Nat):Int)),(9,.int .i64 a0),(0,.slice aD aE aF),(1,.int .i64 a1),(2,.int .i64 a2),(3,.func (.func 41) #[.slice (some a7) a8 a9] #[])]) (fun (bK,a4,aB)=>[tF]) (fun (bK,a4,aB)=>[.own 45 2 Q9 (.slice aD aE aF) aB,.own 3 1 Qi (.slice (some a7) a8 a9) l3]) (N,a0 + 1,aG) hm [12,10,9,0,1,2,3] Z (asK [0] Z) Z (fun s_ hm=>?_)))))))
 obtain ⟨bK,a4,aB⟩:=s_
 try dsimp only at hm ⊢
 obtain ⟨eI,eJ,dR,hq,hLu4⟩:=Q1d hm
 clear hm
 subst dR
 replace hm:=hq
 clear hq
 unfold Q1c at hm
 try dsimp only at hm
 refine Q6 (Q6 (Q2 (wP Z (wP Z (wP Z (Q3 (Q4 (Q5 [109,12,10,9,0,1,2,3] (S':=V8 ..) Z ?_))))))))
 refine QA Z (fun bL=>?_) (fun bL=>?_)
 replace hm:=Q1z hm bL
 refine Q5 [12,10,9,0,1,2,3] (S':=V7 ..) Z (Qs (Q4 (Q6 (Qm (Q6 (Q6 ?_))))))
 obtain ⟨cP,hm⟩:=Qd hm
 obtain ⟨aL,bM,hm⟩:=Q7 hm
 obtain ⟨cQ,hm⟩:=Qd hm
 obtain ⟨cR,hm⟩:=Qd hm
 obtain ⟨aM,bN,hm⟩:=Q7 hm
 obtain ⟨dS,cB,hm⟩:=Q7 hm
 refine Q18 (σ:=Unit) (fun _=>True) (fun _=>[(124,.bool (!(decide (dS < 0)))),(12,.int .i64 a4),(10,.int .i64 ((a5:Nat):Int)),(9,.int .i64 a0),(0,.slice aD aE aF),(1,.int .i64 a1),(2,.int .i64 a2),(3,.func (.func 41) #[.slice (some a7) a8 a9] #[])]) (fun _=>[tF]) (fun _=>[.own 45 2 Q9 (.slice aD aE aF) aB,.own 3 1 Qi (.slice (some a7) a8 a9) l3]) ?_ ?_
 ·
  refine QV [0,1,2,3,5,6,7,8,11,12] Z Z (fun hok=>(xP hok 0 Z (xP hok 1 Z (xP hok 2 Z (Q1F hok 3 0 a4.toNat Z Z Z Zq Z Z Z Z Z (QC cP) (Qw bM) QB Qe (fun e0 cS=>?_))))))
  subst cS
  refine xP hok 5 Z (xP hok 6 Z (xP hok 7 Z (Q1e (d:=119) (v':=.int .i64 (a4 - 1)) (S':=V13 ..) Z Z (i64_in cQ) (QJ hok 8 0 ((a4 - 1).toNat) Z Z Z Zq Z Z Z Z Z (QC cR) (Qw bN) QB Qe ?_))))
  refine Q1W hok 4 9 Z Z Z Z Z Z ?_ ?_
  rotate_left
  focus
   refine Qk Qa 0 ((a4 - 1).toNat) 0 Z Z Z Zq Z Z Z bN Qe QS (v:=fun aJ=>.agg #[.int .i64 (aM.rule),.slice aJ.1 aM.ids.length aJ.2]) (fun _=>Z) (fun _=>Z) (fun aJ _=>(Q3 (Qy [1] [] Z Z (xS hok 4 Z (Qk Qa 0 a4.toNat 0 Z Z Z Zq Z Z Z bM Qe QS (v:=fun aK=>.agg #[.int .i64 (aL.rule),.slice aK.1 aL.ids.length aK.2]) (fun _=>Z) (fun _=>Z) (fun aK _=>(Q3 (Qy [1,2] [] Z Z (xS hok 10 Z (Q26 (args:=[.slice (some a7) a8 a9,.agg #[.int .i64 (aL.rule),.slice aK.1 aL.ids.length aK.2],.agg #[.int .i64 (aM.rule),.slice aJ.1 aM.ids.length aJ.2]]) [1] [0] Z Z Z Zq Z Z Z Q66 Z Z (QN N a7 a8 a9 l3 aL.rule aK.1 aK.2 aL.ids aM.rule aJ.1 aJ.2 aM.ids _ cB) (asK [0,1,2] Z) Z (H':=[_]) Z ?_))))))))))
  rotate_right
  focus
   refine Qk Qa 0 a4.toNat 0 Z Z Z Zq Z Z Z bM Qe QS (v:=fun aK=>.agg #[.int .i64 (aL.rule),.slice aK.1 aL.ids.length aK.2]) (fun _=>Z) (fun _=>Z) (fun aK _=>(Q3 (Qy [1] [] Z Z (xS hok 9 Z (Qk Qa 0 ((a4 - 1).toNat) 0 Z Z Z Zq Z Z Z bN Qe QS (v:=fun aJ=>.agg #[.int .i64 (aM.rule),.slice aJ.1 aM.ids.length aJ.2]) (fun _=>Z) (fun _=>Z) (fun aJ _=>(Q3 (Qy [1,2] [] Z Z (xS hok 10 Z (Q26 (args:=[.slice (some a7) a8 a9,.agg #[.int .i64 (aL.rule),.slice aK.1 aL.ids.length aK.2],.agg #[.int .i64 (aM.rule),.slice aJ.1 aM.ids.length aJ.2]]) [1] [0] Z Z Z Zq Z Z Z Q66 Z Z (QN N a7 a8 a9 l3 aL.rule aK.1 aK.2 aL.ids aM.rule aJ.1 aJ.2 aM.ids _ cB) (asK [1,0,2] Z) Z (H':=[_]) Z ?_))))))))))
  all_goals
   rintro _ _ _ ⟨rfl,rfl,rfl⟩
   refine Q3 (Qy [0,1,2] [] Z Z (xP hok 11 Z (xP hok 12 Z (QL hok Z (Q1m [1,0] Z (H':=[_,_]) Z ?_)))))
   refine Qp () trivial [124,12,10,9,0,1,2,3] Z (asK [2] Z) Z
 rintro _ _
 try dsimp only
 refine QA Z (fun bO=>?_) (fun bO=>?_)
 replace hm:=Q1z hm bO
 refine Q5 [10,9,0,1,2,3] (S':=V6 ..) Z (Q19 (Qc (Q6W (by decide) (Qc (Qc (Qt (Qj ?_)))))))
 have hE:=(Zi hm).symm
 replace hE:=QO hLu4 hE
 refine Qp (a0,aB) hE [10,9,0,1,2,3] Z (asK [0] Z) Z
 ·
  replace hm:=Q1y hm bO
  refine Q5 [12,10,9,0,1,2,3] (S':=V7 ..) Z (Qs (Q4 ?_))
  obtain ⟨cT,hm⟩:=Qd hm
  obtain ⟨cU,hm⟩:=Qd hm
  obtain ⟨cV,hm⟩:=Qd hm
  obtain ⟨b5,bP,hm⟩:=Q7 hm
  obtain ⟨cW,hm⟩:=Qd hm
  obtain ⟨b6,bQ,hm⟩:=Q7 hm
  obtain ⟨cC,hm⟩:=Qd hm
  obtain ⟨e1,bA,hm⟩:=Q7 hm
  obtain ⟨cD,hm⟩:=Qd hm
  obtain ⟨e2,bB,hm⟩:=Q7 hm
  refine QV [0,1,2,3,4,5,6,7,8,10,11,12,14,16] Z Z (fun hok=>(xP hok 0 Z (xP hok 1 Z (xP hok 2 Z (xP hok 3 Z (xP hok 4 Z (Q1e (d:=129) (v':=.int .i64 (a4 - 1)) (S':=V11 ..) Z Z (i64_in cT) (xP hok 5 Z (xP hok 6 Z (xP hok 7 Z (Q1e (d:=132) (v':=.int .i64 (a4 - 1)) (S':=V14 ..) Z Z (i64_in cU) (Q1F hok 8 0 ((a4 - 1).toNat) Z Z Z Zq Z Z Z Z Z (QC cV) (Qw bP) QB Qe (fun e4 cX=>?_)))))))))))))
  subst cX
  refine xP hok 10 Z (xP hok 11 Z (QJ hok 12 0 a4.toNat Z Z Z Zq Z Z Z Z Z (QC cW) (Qw bQ) QB Qe ?_))
  refine Q1W hok 9 13 Z Z Z Z Z Z ?_ ?_
  rotate_left
  focus
   refine Qk Qa 0 a4.toNat 0 Z Z Z Zq Z Z Z bQ Qe QS (v:=fun aN=>.agg #[.int .i64 (b6.rule),.slice aN.1 b6.ids.length aN.2]) (fun _=>Z) (fun _=>Z) (fun aN _=>(Q3 (Qy [1] [] Z Z (xS hok 9 Z (Qk Qa 0 ((a4 - 1).toNat) 0 Z Z Z Zq Z Z Z bP Qe QS (v:=fun aO=>.agg #[.int .i64 (b5.rule),.slice aO.1 b5.ids.length aO.2]) (fun _=>Z) (fun _=>Z) (fun aO _=>(Q3 (Qy [1,2] [] Z Z (QJ hok 14 0 a4.toNat Z Z Z Zq Z Z Z Z Z (QC cC) (Qw bA) QB Qe (xS hok 15 Z (QU (u:=b5) 0 a4.toNat Z Z Z Z Z (Qw bA) Z Z Qe Z (fun F w hφ=>⟨(aO.1,aO.2),Z,(Qh (hφ _ (Qu (k:=0) Z)) Qv)⟩) (H':=[_,_]) Z (Q3 (Qy [0,1,2] [] Z Z (QJ hok 16 0 ((a4 - 1).toNat) Z Z Z Zq Z Z Z Z Z (QC cD) (Qw bB) QB Qe (xS hok 17 Z ?_)))))))))))))))
   refine QU (u:=b6) 0 ((a4 - 1).toNat) Z Z Z Z Z (Qw bB) Z Z Qe Z (fun F w hφ=>⟨(aN.1,aN.2),Z,(Qh (hφ _ (Qu (k:=1) Z)) Qv)⟩) (H':=[_,_]) Z ?_
  rotate_right
  focus
   refine Qk Qa 0 ((a4 - 1).toNat) 0 Z Z Z Zq Z Z Z bP Qe QS (v:=fun aO=>.agg #[.int .i64 (b5.rule),.slice aO.1 b5.ids.length aO.2]) (fun _=>Z) (fun _=>Z) (fun aO _=>(Q3 (Qy [1] [] Z Z (xS hok 13 Z (Qk Qa 0 a4.toNat 0 Z Z Z Zq Z Z Z bQ Qe QS (v:=fun aN=>.agg #[.int .i64 (b6.rule),.slice aN.1 b6.ids.length aN.2]) (fun _=>Z) (fun _=>Z) (fun aN _=>(Q3 (Qy [1,2] [] Z Z (QJ hok 14 0 a4.toNat Z Z Z Zq Z Z Z Z Z (QC cC) (Qw bA) QB Qe (xS hok 15 Z (QU (u:=b5) 0 a4.toNat Z Z Z Z Z (Qw bA) Z Z Qe Z (fun F w hφ=>⟨(aO.1,aO.2),Z,(Qh (hφ _ (Qu (k:=1) Z)) Qv)⟩) (H':=[_,_]) Z (Q3 (Qy [0,1,2] [] Z Z (QJ hok 16 0 ((a4 - 1).toNat) Z Z Z Zq Z Z Z Z Z (QC cD) (Qw bB) QB Qe (xS hok 17 Z ?_)))))))))))))))
   refine QU (u:=b6) 0 ((a4 - 1).toNat) Z Z Z Z Z (Qw bB) Z Z Qe Z (fun F w hφ=>⟨(aN.1,aN.2),Z,(Qh (hφ _ (Qu (k:=0) Z)) Qv)⟩) (H':=[_,_]) Z ?_
  all_goals
   refine Q3 (Qy [0,1,2] [] Z Z (QL hok Z (Qj (Q4 (Q5 [12,10,9,0,1,2,3] (S':=V7 ..) Z (Q2 (wP Z (wP Z ?_))))))))
   obtain ⟨cY,hm⟩:=Qd hm
   refine Qz (d:=111) (v':=.int .i64 (a4 + 1)) (S':=V8 ..) Z Z (i64_in cY) (QI (S':=V8 ..) Z Z Z Z Z (Q3 ?_))
   have hE:=(Zi hm).symm
   replace hE:=Q14 hLu4 hE
   refine Q1a (_,a4 + 1,(aB.set a4.toNat b5).set ((a4 - 1).toNat) b6) (Nat.lt_succ_self _) hE [12,10,9,0,1,2,3] Z (asK [2] Z) Z
 replace hm:=Q1y hm bL
 refine Q5 [10,9,0,1,2,3] (S':=V6 ..) Z (Q19 (Qc (Qc (Qt (Qj ?_)))))
 have hE:=(Zi hm).symm
 replace hE:=QO hLu4 hE
 refine Qp (a0,aB) hE [10,9,0,1,2,3] Z (asK [0] Z) Z
 replace hm:=Q1y hm bJ
 refine Q5 [10,9,0,1,2,3] (S':=V6 ..) Z (Qs (Qj ?_))
 have hE:=(Zi hm).symm
 refine Qp (a0,aG) hE [10,9,0,1,2,3] Z (asK [0] Z) Z
 rintro ⟨aQ,aI⟩ hE
 try dsimp only
 have hm:=Q14 hLj_2 hE
 try dsimp only at hm
 refine Q2 (wP Z (wP Z ?_))
 obtain ⟨dT,hm⟩:=Qd hm
 refine Qz (d:=18) (v':=.int .i64 ((a5 + 1:Nat):Int)) (S':=V7 ..) Z Z (Q1i (a:=a5) (b:=1) dT) (QI (S':=V7 ..) Z Z Z Z Z (Q3 ?_))
 have hE:=(Zi hm).symm
 replace hE:=Q14 hLu1 hE
 refine Q1a (_,a5 + 1,aQ,aI) (Nat.lt_succ_self _) hE [10,9,0,1,2,3] Z (asK [0] Z) Z
 replace hm:=Q1y hm bU
 refine Q5 [] (S':=[]) Z (Q19 (Qc (Qc (Qt ?_))))
 have hE:=(Zi hm).symm
 replace hE:=QO hLu1 hE
 refine Qp a6 hE [] Z (asK [0] Z) Z
 rintro aH hE
 try dsimp only
 have hm:=Q14 hLj_1 hE
 refine Q6 (Q2 (wP Z (Q3 (Q4 (QP ?_)))))
 have hE:=(Zi hm).symm
 obtain ⟨hE0,hE1⟩:=Prod.mk.inj hE
 clear hE
 replace hE0:=hE0.symm
 subst hE0
 replace hE1:=hE1.symm
 subst hE1
 refine QH (Hr:=[_,_]) [0,1] Tryz.results153 (QD Z) ⟨Z,Z,Z⟩ (asK [] Z) Z Z (.inl Z)
theorem Q6U (N:Nat) (aD:OA) (aE:Nat) (aF:Nat) (l0:List Q1) (a1:Int) (a2:Int) (a3:Int) (a6:Addr) (a7:Nat) (a8:Nat) (l4:List Int) (o0:Int) (o1:List Q1) (hm:Q21 N l0 a1 a2 a3 l4 = some (o0,o1)):Q1R Tryz.prog 154 [.slice aD aE aF,.int .i64 a1,.int .i64 a2,.int .i64 a3,.func (.func 41) #[.slice (some a6) a7 a8] #[]] [tF] [.own 45 2 Q9 (.slice aD aE aF) l0,.own 3 1 Qi (.slice (some a6) a7 a8) l4] (fun v Φr Hr=>v = .int .i64 o0 ∧ Φr = [] ∧ Hr = [.own 45 2 Q9 (.slice aD aE aF) o1,.own 3 1 Qi (.slice (some a6) a7 a8) l4]):=by
 unfold Q21 at hm
 refine QZ Tryz.func154 Z Tryz.ntmps154 Z (S:=V5 ..) Z (fun C=>(Q6 (Q2 (wP Z (Q3 (Q4 (Q5 [0,1,2,3,4] (S':=V5 ..) Z (Q6 ?_))))))))
 obtain ⟨bX,hm⟩:=Qd hm
 obtain ⟨aY,bA,hm⟩:=Q7 hm
 obtain ⟨bY,hm⟩:=Qd hm
 obtain ⟨aZ,bB,hm⟩:=Q7 hm
 obtain ⟨bN,hm⟩:=Qd hm
 obtain ⟨cP,b5,hm⟩:=Q7 hm
 obtain ⟨bO,hm⟩:=Qd hm
 obtain ⟨cQ,b6,hm⟩:=Q7 hm
 refine Q18 (σ:=Unit) (fun _=>True) (fun _=>[(0,.slice aD aE aF),(1,.int .i64 a1),(2,.int .i64 a2),(4,.func (.func 41) #[.slice (some a6) a7 a8] #[])]) (fun _=>[tF]) (fun _=>[.own 45 2 Q9 (.slice aD aE aF) ((l0.set a1.toNat aY).set a3.toNat aZ),.own 3 1 Qi (.slice (some a6) a7 a8) l4]) ?_ ?_
 refine QV [0,1,2,3,4,5,6,8,9,10,12,14] Z Z (fun hok=>(xP hok 0 Z (xP hok 1 Z (xP hok 2 Z (xP hok 3 Z (xP hok 4 Z (xP hok 5 Z (Q1F hok 6 0 a3.toNat Z Z Z Zq Z Z Z Z Z (QC bX) (Qw bA) QB Qe (fun cR bZ=>?_)))))))))
 subst bZ
 refine xP hok 8 Z (xP hok 9 Z (QJ hok 10 0 a1.toNat Z Z Z Zq Z Z Z Z Z (QC bY) (Qw bB) QB Qe ?_))
 refine Q1W hok 7 11 Z Z Z Z Z Z ?_ ?_
 refine Qk Qa 0 a3.toNat 0 Z Z Z Zq Z Z Z bA Qe QS (v:=fun aT=>.agg #[.int .i64 (aY.rule),.slice aT.1 aY.ids.length aT.2]) (fun _=>Z) (fun _=>Z) (fun aT _=>(Q3 (Qy [1] [] Z Z (xS hok 11 Z (Qk Qa 0 a1.toNat 0 Z Z Z Zq Z Z Z bB Qe QS (v:=fun aU=>.agg #[.int .i64 (aZ.rule),.slice aU.1 aZ.ids.length aU.2]) (fun _=>Z) (fun _=>Z) (fun aU _=>(Q3 (Qy [1,2] [] Z Z (QJ hok 12 0 a1.toNat Z Z Z Zq Z Z Z Z Z (QC bN) (Qw b5) QB Qe (xS hok 13 Z (QU (u:=aY) 0 a1.toNat Z Z Z Z Z (Qw b5) Z Z Qe Z (fun F w hφ=>⟨(aT.1,aT.2),Z,(Qh (hφ _ (Qu (k:=1) Z)) Qv)⟩) (H':=[_,_]) Z (Q3 (Qy [0,1,2] [] Z Z (QJ hok 14 0 a3.toNat Z Z Z Zq Z Z Z Z Z (QC bO) (Qw b6) QB Qe (xS hok 15 Z ?_)))))))))))))))
 refine QU (u:=aZ) 0 a3.toNat Z Z Z Z Z (Qw b6) Z Z Qe Z (fun F w hφ=>⟨(aU.1,aU.2),Z,(Qh (hφ _ (Qu (k:=0) Z)) Qv)⟩) (H':=[_,_]) Z (Q3 (Qy [0,1,2] [] Z Z (QL hok Z ?_)))
 refine Qp () trivial [0,1,2,4] Z (asK [2] Z) Z
 refine Qk Qa 0 a1.toNat 0 Z Z Z Zq Z Z Z bB Qe QS (v:=fun aU=>.agg #[.int .i64 (aZ.rule),.slice aU.1 aZ.ids.length aU.2]) (fun _=>Z) (fun _=>Z) (fun aU _=>(Q3 (Qy [1] [] Z Z (xS hok 7 Z (Qk Qa 0 a3.toNat 0 Z Z Z Zq Z Z Z bA Qe QS (v:=fun aT=>.agg #[.int .i64 (aY.rule),.slice aT.1 aY.ids.length aT.2]) (fun _=>Z) (fun _=>Z) (fun aT _=>(Q3 (Qy [1,2] [] Z Z (QJ hok 12 0 a1.toNat Z Z Z Zq Z Z Z Z Z (QC bN) (Qw b5) QB Qe (xS hok 13 Z (QU (u:=aY) 0 a1.toNat Z Z Z Z Z (Qw b5) Z Z Qe Z (fun F w hφ=>⟨(aT.1,aT.2),Z,(Qh (hφ _ (Qu (k:=0) Z)) Qv)⟩) (H':=[_,_]) Z (Q3 (Qy [0,1,2] [] Z Z (QJ hok 14 0 a3.toNat Z Z Z Zq Z Z Z Z Z (QC bO) (Qw b6) QB Qe (xS hok 15 Z ?_)))))))))))))))
 refine QU (u:=aZ) 0 a3.toNat Z Z Z Z Z (Qw b6) Z Z Qe Z (fun F w hφ=>⟨(aU.1,aU.2),Z,(Qh (hφ _ (Qu (k:=1) Z)) Qv)⟩) (H':=[_,_]) Z (Q3 (Qy [0,1,2] [] Z Z (QL hok Z ?_)))
 refine Qp () trivial [0,1,2,4] Z (asK [2] Z) Z
 rintro _ _
 try dsimp only
 refine Q6 (Q2 (wP Z (wP Z ?_)))
 obtain ⟨c0,hm⟩:=Qd hm
 refine Qz (d:=28) (v':=.int .i64 (a1 + 1)) (S':=V5 ..) Z Z (i64_in c0) (wP Z (wP Z ?_))
 obtain ⟨c1,hm⟩:=Qd hm
 refine Qz (d:=30) (v':=.int .i64 (a2 - 1)) (S':=V7 ..) Z Z (i64_in c1) (wP Z (wP Z (Q3 (Q4 (Q5 [12,11,0,1,4] (S':=V5 ..) Z (Q6 ?_))))))
 obtain ⟨bP,hm,hLj_2⟩:=Q7 hm
 refine Q18 (σ:=Int × (List Q1)) (fun (aH,aC)=>bP = (aH,aC)) (fun (aH,aC)=>[(11,.int .i64 aH)]) (fun (aH,aC)=>[tF]) (fun (aH,aC)=>[.own 45 2 Q9 (.slice aD aE aF) aC,.own 3 1 Qi (.slice (some a6) a7 a8) l4]) ?_ ?_
 refine Qm (Q1f (σ:=Nat × Int × Int × (List Q1)) (fun (b2,aB,aG,a4)=>Q1o (Q1q N a1 l4) b2 (aB,aG,a4) = some bP) (fun (b2,aB,aG,a4)=>b2) (fun (b2,aB,aG,a4)=>[(12,.int .i64 aB),(11,.int .i64 aG),(0,.slice aD aE aF),(1,.int .i64 a1),(4,.func (.func 41) #[.slice (some a6) a7 a8] #[])]) (fun (b2,aB,aG,a4)=>[tF]) (fun (b2,aB,aG,a4)=>[.own 45 2 Q9 (.slice aD aE aF) a4,.own 3 1 Qi (.slice (some a6) a7 a8) l4]) (N,a2 - 1,a1 + 1,(l0.set a1.toNat aY).set a3.toNat aZ) hm [12,11,0,1,4] Z (asK [0] Z) Z (fun s_ hm=>?_))
 obtain ⟨b2,aB,aG,a4⟩:=s_
 try dsimp only at hm ⊢
 obtain ⟨cS,cT,c2,hq,hLu1⟩:=Q1d hm
 clear hm
 subst c2
 replace hm:=hq
 clear hq
 unfold Q1q at hm
 try dsimp only at hm
 refine Qm (Q6 ?_)
 obtain ⟨bQ,hm,hLj_3⟩:=Q7 hm
 refine Q18 (σ:=Int) (fun a0=>bQ = a0) (fun a0=>[(12,.int .i64 aB),(11,.int .i64 a0),(0,.slice aD aE aF),(1,.int .i64 a1),(4,.func (.func 41) #[.slice (some a6) a7 a8] #[])]) (fun a0=>[tF]) (fun a0=>[.own 45 2 Q9 (.slice aD aE aF) a4,.own 3 1 Qi (.slice (some a6) a7 a8) l4]) ?_ ?_
 refine Qm (Q1f (σ:=Nat × Int) (fun (b3,a9)=>Q1o (Q2c N aB a1 a4 l4) b3 a9 = some bQ) (fun (b3,a9)=>b3) (fun (b3,a9)=>[(12,.int .i64 aB),(11,.int .i64 a9),(0,.slice aD aE aF),(1,.int .i64 a1),(4,.func (.func 41) #[.slice (some a6) a7 a8] #[])]) (fun (b3,a9)=>[tF]) (fun (b3,a9)=>[.own 45 2 Q9 (.slice aD aE aF) a4,.own 3 1 Qi (.slice (some a6) a7 a8) l4]) (N,aG) hm [12,11,0,1,4] Z (asK [0] Z) Z (fun s_ hm=>?_))
 obtain ⟨b3,a9⟩:=s_
 try dsimp only at hm ⊢
 obtain ⟨cU,cV,c3,hq,hLu2⟩:=Q1d hm
 clear hm
 subst c3
 replace hm:=hq
 clear hq
 unfold Q2c at hm
 try dsimp only at hm
 refine Q6 (Q6 ?_)
 obtain ⟨c4,hm,hLj_4⟩:=Q7 hm
 unfold Q3P at hm
 refine Q18 (σ:=Bool) (fun aI=>c4 = aI) (fun aI=>[(12,.int .i64 aB),(11,.int .i64 a9),(0,.slice aD aE aF),(1,.int .i64 a1),(4,.func (.func 41) #[.slice (some a6) a7 a8] #[]),(47,.bool aI)]) (fun aI=>[tF]) (fun aI=>[.own 45 2 Q9 (.slice aD aE aF) a4,.own 3 1 Qi (.slice (some a6) a7 a8) l4]) ?_ ?_
 rcases Q32 hm with ⟨bC,hm⟩ | ⟨bC,hm⟩
 ·
  obtain ⟨c5,hm⟩:=Qd hm
  obtain ⟨aP,bD,hm⟩:=Q7 hm
  obtain ⟨c6,hm⟩:=Qd hm
  obtain ⟨aQ,bE,hm⟩:=Q7 hm
  obtain ⟨cL,bR,hm⟩:=Q7 hm
  refine QV [0,1,2,3,4,5,6,7,9,10,11,14,15,16] Z Z (fun hok=>(xP hok 0 Z (xP hok 1 Z (xP hok 2 Z (xP hok 3 Z (Q1e (d:=34) (v':=.bool true) (S':=V8 ..) Z Z (Q16 bC) (xP hok 4 Z (xP hok 5 Z (xP hok 6 Z (Q1F hok 7 0 a1.toNat Z Z Z Zq Z Z Z Z Z (QC c5) (Qw bD) QB Qe (fun cW c7=>?_)))))))))))
  subst c7
  refine xP hok 9 Z (xP hok 10 Z (QJ hok 11 0 a9.toNat Z Z Z Zq Z Z Z Z Z (QC c6) (Qw bE) QB Qe ?_))
  refine Q1W hok 8 12 Z Z Z Z Z Z ?_ ?_
  rotate_left
  focus
   refine Qk Qa 0 a9.toNat 0 Z Z Z Zq Z Z Z bE Qe QS (v:=fun aL=>.agg #[.int .i64 (aQ.rule),.slice aL.1 aQ.ids.length aL.2]) (fun _=>Z) (fun _=>Z) (fun aL _=>(Q3 (Qy [1] [] Z Z (xS hok 8 Z (Qk Qa 0 a1.toNat 0 Z Z Z Zq Z Z Z bD Qe QS (v:=fun aM=>.agg #[.int .i64 (aP.rule),.slice aM.1 aP.ids.length aM.2]) (fun _=>Z) (fun _=>Z) (fun aM _=>(Q3 (Qy [1,2] [] Z Z (xS hok 13 Z (Q26 (args:=[.slice (some a6) a7 a8,.agg #[.int .i64 (aP.rule),.slice aM.1 aP.ids.length aM.2],.agg #[.int .i64 (aQ.rule),.slice aL.1 aQ.ids.length aL.2]]) [1] [0] Z Z Z Zq Z Z Z Q66 Z Z (QN N a6 a7 a8 l4 aP.rule aM.1 aM.2 aP.ids aQ.rule aL.1 aL.2 aQ.ids _ bR) (asK [0,1,2] Z) Z (H':=[_]) Z ?_))))))))))
  rotate_right
  focus
   refine Qk Qa 0 a1.toNat 0 Z Z Z Zq Z Z Z bD Qe QS (v:=fun aM=>.agg #[.int .i64 (aP.rule),.slice aM.1 aP.ids.length aM.2]) (fun _=>Z) (fun _=>Z) (fun aM _=>(Q3 (Qy [1] [] Z Z (xS hok 12 Z (Qk Qa 0 a9.toNat 0 Z Z Z Zq Z Z Z bE Qe QS (v:=fun aL=>.agg #[.int .i64 (aQ.rule),.slice aL.1 aQ.ids.length aL.2]) (fun _=>Z) (fun _=>Z) (fun aL _=>(Q3 (Qy [1,2] [] Z Z (xS hok 13 Z (Q26 (args:=[.slice (some a6) a7 a8,.agg #[.int .i64 (aP.rule),.slice aM.1 aP.ids.length aM.2],.agg #[.int .i64 (aQ.rule),.slice aL.1 aQ.ids.length aL.2]]) [1] [0] Z Z Z Zq Z Z Z Q66 Z Z (QN N a6 a7 a8 l4 aP.rule aM.1 aM.2 aP.ids aQ.rule aL.1 aL.2 aQ.ids _ bR) (asK [1,0,2] Z) Z (H':=[_]) Z ?_))))))))))
  all_goals
   rintro _ _ _ ⟨rfl,rfl,rfl⟩
   refine Q3 (Qy [0,1,2] [] Z Z (xP hok 14 Z (xP hok 15 Z (xP hok 16 Z (QL hok Z ?_)))))
   have hE:=(Zi hm).symm
   refine Q1m [1,0] Z (H':=[_,_]) Z ?_
   refine Qp (!(decide (cL < 0))) hE [12,11,0,1,4,47] Z (asK [2] Z) Z
 ·
  refine QV [0,1,2,3,4,5,6,7,9,10,11,14,15,16] Z Z (fun hok=>(xP hok 0 Z (xP hok 1 Z (xP hok 2 Z (xP hok 3 Z (Q1e (d:=34) (v':=.bool false) (S':=V8 ..) Z Z (Q16 bC) (xO hok 4 Z (xO hok 5 Z (xO hok 6 Z (xO hok 7 Z (xO hok 9 Z (xO hok 10 Z (xO hok 11 Z ?_)))))))))))))
  refine Q1W hok 8 12 Z Z Z Z Z Z ?_ ?_
  rotate_left
  focus
   refine wO Z (Q3 (Qy [0] [] Z Z (xS hok 8 Z ?_)))
  rotate_right
  focus
   refine wO Z (Q3 (Qy [0] [] Z Z (xS hok 12 Z ?_)))
  all_goals
   refine wO Z (Q3 (Qy [0] [] Z Z (xS hok 13 Z (wO Z (Q3 (Qy [0] [] Z Z (xO hok 14 Z (xO hok 15 Z (xP hok 16 Z (QL hok Z ?_))))))))))
   have hE:=(Zi hm).symm
   refine Qp false hE [12,11,0,1,4,47] Z (asK [0] Z) Z
 rintro aI hE
 try dsimp only
 have hm:=hLj_4
 try rw [hE] at hm
 refine QA Z (fun bF=>?_) (fun bF=>?_)
 replace hm:=Q1z hm bF
 refine Q5 [12,11,0,1,4] (S':=V5 ..) Z (Qs (Q4 (Qm (Q2 (wP Z (wP Z ?_))))))
 obtain ⟨c8,hm⟩:=Qd hm
 refine Qz (d:=49) (v':=.int .i64 (a9 + 1)) (S':=V6 ..) Z Z (i64_in c8) (QI (S':=V6 ..) Z Z Z Z Z (Q3 (Qj ?_)))
 have hE:=(Zi hm).symm
 replace hE:=Q14 hLu2 hE
 refine Q1a (_,a9 + 1) (Nat.lt_succ_self _) hE [12,11,0,1,4] Z (asK [0] Z) Z
 replace hm:=Q1y hm bF
 refine Q5 [12,11,0,1,4] (S':=V5 ..) Z (Q19 (Qc (Qc (Qt ?_))))
 have hE:=(Zi hm).symm
 replace hE:=QO hLu2 hE
 refine Qp a9 hE [12,11,0,1,4] Z (asK [0] Z) Z
 rintro a0 hE
 try dsimp only
 have hm:=hLj_3
 try rw [hE] at hm
 refine Q6 ?_
 obtain ⟨bS,hm,hLj_5⟩:=Q7 hm
 refine Q18 (σ:=Int) (fun a5=>bS = a5) (fun a5=>[(12,.int .i64 a5),(11,.int .i64 a0),(0,.slice aD aE aF),(1,.int .i64 a1),(4,.func (.func 41) #[.slice (some a6) a7 a8] #[])]) (fun a5=>[tF]) (fun a5=>[.own 45 2 Q9 (.slice aD aE aF) a4,.own 3 1 Qi (.slice (some a6) a7 a8) l4]) ?_ ?_
 refine Qm (Q1f (σ:=Nat × Int) (fun (b4,aA)=>Q1o (Q2d N a0 a1 a4 l4) b4 aA = some bS) (fun (b4,aA)=>b4) (fun (b4,aA)=>[(12,.int .i64 aA),(11,.int .i64 a0),(0,.slice aD aE aF),(1,.int .i64 a1),(4,.func (.func 41) #[.slice (some a6) a7 a8] #[])]) (fun (b4,aA)=>[tF]) (fun (b4,aA)=>[.own 45 2 Q9 (.slice aD aE aF) a4,.own 3 1 Qi (.slice (some a6) a7 a8) l4]) (N,aB) hm [12,11,0,1,4] Z (asK [0] Z) Z (fun s_ hm=>?_))
 obtain ⟨b4,aA⟩:=s_
 try dsimp only at hm ⊢
 obtain ⟨cX,cY,c9,hq,hLu3⟩:=Q1d hm
 clear hm
 subst c9
 replace hm:=hq
 clear hq
 unfold Q2d at hm
 try dsimp only at hm
 refine Q6 (Q6 ?_)
 obtain ⟨cA,hm,hLj_6⟩:=Q7 hm
 unfold Q3Q at hm
 refine Q18 (σ:=Bool) (fun aJ=>cA = aJ) (fun aJ=>[(12,.int .i64 aA),(11,.int .i64 a0),(0,.slice aD aE aF),(1,.int .i64 a1),(4,.func (.func 41) #[.slice (some a6) a7 a8] #[]),(65,.bool aJ)]) (fun aJ=>[tF]) (fun aJ=>[.own 45 2 Q9 (.slice aD aE aF) a4,.own 3 1 Qi (.slice (some a6) a7 a8) l4]) ?_ ?_
 rcases Q32 hm with ⟨bG,hm⟩ | ⟨bG,hm⟩
 ·
  obtain ⟨cB,hm⟩:=Qd hm
  obtain ⟨aR,bH,hm⟩:=Q7 hm
  obtain ⟨cC,hm⟩:=Qd hm
  obtain ⟨aS,bI,hm⟩:=Q7 hm
  obtain ⟨cM,bT,hm⟩:=Q7 hm
  refine QV [0,1,2,3,4,5,6,7,9,10,11,14,15] Z Z (fun hok=>(xP hok 0 Z (xP hok 1 Z (xP hok 2 Z (xP hok 3 Z (Q1e (d:=53) (v':=.bool true) (S':=V8 ..) Z Z (Q16 bG) (xP hok 4 Z (xP hok 5 Z (xP hok 6 Z (Q1F hok 7 0 a1.toNat Z Z Z Zq Z Z Z Z Z (QC cB) (Qw bH) QB Qe (fun cZ cD=>?_)))))))))))
  subst cD
  refine xP hok 9 Z (xP hok 10 Z (QJ hok 11 0 aA.toNat Z Z Z Zq Z Z Z Z Z (QC cC) (Qw bI) QB Qe ?_))
  refine Q1W hok 8 12 Z Z Z Z Z Z ?_ ?_
  rotate_left
  focus
   refine Qk Qa 0 aA.toNat 0 Z Z Z Zq Z Z Z bI Qe QS (v:=fun aN=>.agg #[.int .i64 (aS.rule),.slice aN.1 aS.ids.length aN.2]) (fun _=>Z) (fun _=>Z) (fun aN _=>(Q3 (Qy [1] [] Z Z (xS hok 8 Z (Qk Qa 0 a1.toNat 0 Z Z Z Zq Z Z Z bH Qe QS (v:=fun aO=>.agg #[.int .i64 (aR.rule),.slice aO.1 aR.ids.length aO.2]) (fun _=>Z) (fun _=>Z) (fun aO _=>(Q3 (Qy [1,2] [] Z Z (xS hok 13 Z (Q26 (args:=[.slice (some a6) a7 a8,.agg #[.int .i64 (aR.rule),.slice aO.1 aR.ids.length aO.2],.agg #[.int .i64 (aS.rule),.slice aN.1 aS.ids.length aN.2]]) [1] [0] Z Z Z Zq Z Z Z Q66 Z Z (QN N a6 a7 a8 l4 aR.rule aO.1 aO.2 aR.ids aS.rule aN.1 aN.2 aS.ids _ bT) (asK [0,1,2] Z) Z (H':=[_]) Z ?_))))))))))
  rotate_right
  focus
   refine Qk Qa 0 a1.toNat 0 Z Z Z Zq Z Z Z bH Qe QS (v:=fun aO=>.agg #[.int .i64 (aR.rule),.slice aO.1 aR.ids.length aO.2]) (fun _=>Z) (fun _=>Z) (fun aO _=>(Q3 (Qy [1] [] Z Z (xS hok 12 Z (Qk Qa 0 aA.toNat 0 Z Z Z Zq Z Z Z bI Qe QS (v:=fun aN=>.agg #[.int .i64 (aS.rule),.slice aN.1 aS.ids.length aN.2]) (fun _=>Z) (fun _=>Z) (fun aN _=>(Q3 (Qy [1,2] [] Z Z (xS hok 13 Z (Q26 (args:=[.slice (some a6) a7 a8,.agg #[.int .i64 (aR.rule),.slice aO.1 aR.ids.length aO.2],.agg #[.int .i64 (aS.rule),.slice aN.1 aS.ids.length aN.2]]) [1] [0] Z Z Z Zq Z Z Z Q66 Z Z (QN N a6 a7 a8 l4 aR.rule aO.1 aO.2 aR.ids aS.rule aN.1 aN.2 aS.ids _ bT) (asK [1,0,2] Z) Z (H':=[_]) Z ?_))))))))))
  all_goals
   rintro _ _ _ ⟨rfl,rfl,rfl⟩
   refine Q3 (Qy [0,1,2] [] Z Z (xP hok 14 Z (xP hok 15 Z (QL hok Z ?_))))
   have hE:=(Zi hm).symm
   refine Q1m [1,0] Z (H':=[_,_]) Z ?_
   refine Qp (decide (cM < 0)) hE [12,11,0,1,4,65] Z (asK [2] Z) Z
 ·
  refine QV [0,1,2,3,4,5,6,7,9,10,11,14,15] Z Z (fun hok=>(xP hok 0 Z (xP hok 1 Z (xP hok 2 Z (xP hok 3 Z (Q1e (d:=53) (v':=.bool false) (S':=V8 ..) Z Z (Q16 bG) (xO hok 4 Z (xO hok 5 Z (xO hok 6 Z (xO hok 7 Z (xO hok 9 Z (xO hok 10 Z (xO hok 11 Z ?_)))))))))))))
  refine Q1W hok 8 12 Z Z Z Z Z Z ?_ ?_
  rotate_left
  focus
   refine wO Z (Q3 (Qy [0] [] Z Z (xS hok 8 Z ?_)))
  rotate_right
  focus
   refine wO Z (Q3 (Qy [0] [] Z Z (xS hok 12 Z ?_)))
  all_goals
   refine wO Z (Q3 (Qy [0] [] Z Z (xS hok 13 Z (wO Z (Q3 (Qy [0] [] Z Z (xO hok 14 Z (xP hok 15 Z (QL hok Z ?_)))))))))
   have hE:=(Zi hm).symm
   refine Qp false hE [12,11,0,1,4,65] Z (asK [0] Z) Z
 rintro aJ hE
 try dsimp only
 have hm:=hLj_6
 try rw [hE] at hm
 refine QA Z (fun bJ=>?_) (fun bJ=>?_)
 replace hm:=Q1z hm bJ
 refine Q5 [12,11,0,1,4] (S':=V5 ..) Z (Qs (Q4 (Qm (Q2 (wP Z (wP Z ?_))))))
 obtain ⟨cE,hm⟩:=Qd hm
 refine Qz (d:=67) (v':=.int .i64 (aA - 1)) (S':=V6 ..) Z Z (i64_in cE) (QI (S':=V6 ..) Z Z Z Z Z (Q3 (Qj ?_)))
 have hE:=(Zi hm).symm
 replace hE:=Q14 hLu3 hE
 refine Q1a (_,aA - 1) (Nat.lt_succ_self _) hE [12,11,0,1,4] Z (asK [0] Z) Z
 replace hm:=Q1y hm bJ
 refine Q5 [12,11,0,1,4] (S':=V5 ..) Z (Q19 (Qc (Qc (Qt ?_))))
 have hE:=(Zi hm).symm
 replace hE:=QO hLu3 hE
 refine Qp aA hE [12,11,0,1,4] Z (asK [0] Z) Z
 rintro a5 hE
 try dsimp only
 have hm:=hLj_5
 try rw [hE] at hm
 refine Q6 (Q6 (Q2 (wP Z (wP Z (wP Z (Q3 (Q4 (Q5 [70,12,11,0,1,4] (S':=V6 ..) Z ?_))))))))
 refine QA Z (fun bK=>?_) (fun bK=>?_)
 replace hm:=Q1z hm bK
 refine Q5 [11] (S':=[_]) Z (Q19 (Qc (Q6W (by decide) (Qc (Qt ?_)))))
 have hE:=(Zi hm).symm
 replace hE:=QO hLu1 hE
 refine Qp (a0,a4) hE [11] Z (asK [0] Z) Z
 replace hm:=Q1y hm bK
 refine Q5 [12,11,0,1,4] (S':=V5 ..) Z (Qs (Q4 (Q6 ?_)))
 obtain ⟨cF,hm⟩:=Qd hm
 obtain ⟨b0,bL,hm⟩:=Q7 hm
 obtain ⟨cG,hm⟩:=Qd hm
 obtain ⟨b1,bM,hm⟩:=Q7 hm
 obtain ⟨bU,hm⟩:=Qd hm
 obtain ⟨d0,b7,hm⟩:=Q7 hm
 obtain ⟨bV,hm⟩:=Qd hm
 obtain ⟨d1,b8,hm⟩:=Q7 hm
 refine Q18 (σ:=Unit) (fun _=>True) (fun _=>[(12,.int .i64 a5),(11,.int .i64 a0),(0,.slice aD aE aF),(1,.int .i64 a1),(4,.func (.func 41) #[.slice (some a6) a7 a8] #[])]) (fun _=>[tF]) (fun _=>[.own 45 2 Q9 (.slice aD aE aF) ((a4.set a0.toNat b0).set a5.toNat b1),.own 3 1 Qi (.slice (some a6) a7 a8) l4]) ?_ ?_
 refine QV [0,1,2,3,4,5,6,8,9,10,12,14] Z Z (fun hok=>(xP hok 0 Z (xP hok 1 Z (xP hok 2 Z (xP hok 3 Z (xP hok 4 Z (xP hok 5 Z (Q1F hok 6 0 a5.toNat Z Z Z Zq Z Z Z Z Z (QC cF) (Qw bL) QB Qe (fun d2 cH=>?_)))))))))
 subst cH
 refine xP hok 8 Z (xP hok 9 Z (QJ hok 10 0 a0.toNat Z Z Z Zq Z Z Z Z Z (QC cG) (Qw bM) QB Qe ?_))
 refine Q1W hok 7 11 Z Z Z Z Z Z ?_ ?_
 refine Qk Qa 0 a5.toNat 0 Z Z Z Zq Z Z Z bL Qe QS (v:=fun aV=>.agg #[.int .i64 (b0.rule),.slice aV.1 b0.ids.length aV.2]) (fun _=>Z) (fun _=>Z) (fun aV _=>(Q3 (Qy [1] [] Z Z (xS hok 11 Z (Qk Qa 0 a0.toNat 0 Z Z Z Zq Z Z Z bM Qe QS (v:=fun aW=>.agg #[.int .i64 (b1.rule),.slice aW.1 b1.ids.length aW.2]) (fun _=>Z) (fun _=>Z) (fun aW _=>(Q3 (Qy [1,2] [] Z Z (QJ hok 12 0 a0.toNat Z Z Z Zq Z Z Z Z Z (QC bU) (Qw b7) QB Qe (xS hok 13 Z (QU (u:=b0) 0 a0.toNat Z Z Z Z Z (Qw b7) Z Z Qe Z (fun F w hφ=>⟨(aV.1,aV.2),Z,(Qh (hφ _ (Qu (k:=1) Z)) Qv)⟩) (H':=[_,_]) Z (Q3 (Qy [0,1,2] [] Z Z (QJ hok 14 0 a5.toNat Z Z Z Zq Z Z Z Z Z (QC bV) (Qw b8) QB Qe (xS hok 15 Z ?_)))))))))))))))
 refine QU (u:=b1) 0 a5.toNat Z Z Z Z Z (Qw b8) Z Z Qe Z (fun F w hφ=>⟨(aW.1,aW.2),Z,(Qh (hφ _ (Qu (k:=0) Z)) Qv)⟩) (H':=[_,_]) Z (Q3 (Qy [0,1,2] [] Z Z (QL hok Z ?_)))
 refine Qp () trivial [12,11,0,1,4] Z (asK [2] Z) Z
 refine Qk Qa 0 a0.toNat 0 Z Z Z Zq Z Z Z bM Qe QS (v:=fun aW=>.agg #[.int .i64 (b1.rule),.slice aW.1 b1.ids.length aW.2]) (fun _=>Z) (fun _=>Z) (fun aW _=>(Q3 (Qy [1] [] Z Z (xS hok 7 Z (Qk Qa 0 a5.toNat 0 Z Z Z Zq Z Z Z bL Qe QS (v:=fun aV=>.agg #[.int .i64 (b0.rule),.slice aV.1 b0.ids.length aV.2]) (fun _=>Z) (fun _=>Z) (fun aV _=>(Q3 (Qy [1,2] [] Z Z (QJ hok 12 0 a0.toNat Z Z Z Zq Z Z Z Z Z (QC bU) (Qw b7) QB Qe (xS hok 13 Z (QU (u:=b0) 0 a0.toNat Z Z Z Z Z (Qw b7) Z Z Qe Z (fun F w hφ=>⟨(aV.1,aV.2),Z,(Qh (hφ _ (Qu (k:=0) Z)) Qv)⟩) (H':=[_,_]) Z (Q3 (Qy [0,1,2] [] Z Z (QJ hok 14 0 a5.toNat Z Z Z Zq Z Z Z Z Z (QC bV) (Qw b8) QB Qe (xS hok 15 Z ?_)))))))))))))))
 refine QU (u:=b1) 0 a5.toNat Z Z Z Z Z (Qw b8) Z Z Qe Z (fun F w hφ=>⟨(aW.1,aW.2),Z,(Qh (hφ _ (Qu (k:=1) Z)) Qv)⟩) (H':=[_,_]) Z (Q3 (Qy [0,1,2] [] Z Z (QL hok Z ?_)))
 refine Qp () trivial [12,11,0,1,4] Z (asK [2] Z) Z
 rintro _ _
 try dsimp only
 refine Q6 (Q2 (wP Z (wP Z ?_)))
 obtain ⟨cI,hm⟩:=Qd hm
 refine Qz (d:=86) (v':=.int .i64 (a0 + 1)) (S':=V6 ..) Z Z (i64_in cI) (QI (S':=V6 ..) Z Z Z Z Z (Q3 (Q4 (Q5 [11,12,0,1,4] (S':=V5 ..) Z (Q2 (wP Z (wP Z ?_)))))))
 obtain ⟨cJ,hm⟩:=Qd hm
 refine Qz (d:=88) (v':=.int .i64 (a5 - 1)) (S':=V6 ..) Z Z (i64_in cJ) (QI (S':=V6 ..) Z Z Z Z Z (Q3 (Qj ?_)))
 have hE:=(Zi hm).symm
 replace hE:=Q14 hLu1 hE
 refine Q1a (_,a5 - 1,a0 + 1,(a4.set a0.toNat b0).set a5.toNat b1) (Nat.lt_succ_self _) hE [12,11,0,1,4] Z (asK [0] Z) Z
 rintro ⟨aH,aC⟩ hE
 try dsimp only
 have hm:=hLj_2
 try rw [hE] at hm
 try dsimp only at hm
 refine Q6 (Q2 (wP Z (wP Z (Q3 (Q4 (Q5 [10] (S':=[_]) Z (QP ?_)))))))
 have hE:=(Zi hm).symm
 obtain ⟨hE0,hE1⟩:=Prod.mk.inj hE
 clear hE
 replace hE0:=hE0.symm
 subst hE0
 replace hE1:=hE1.symm
 subst hE1
 refine QH (Hr:=[_,_]) [0,1] Tryz.results154 (QD Z) ⟨Z,Z,Z⟩ (asK [] Z) Z Z (.inl Z)
theorem Q7n (N:Nat) (aB:OA) (aC:Nat) (aD:Nat) (l0:List Q1) (a1:Int) (a2:Int) (a3:Int) (a7:Addr) (a8:Nat) (a9:Nat) (l4:List Int) (o0:Int) (o1:Bool) (o2:List Q1) (hm:Q2n N l0 a1 a2 a3 l4 = some (o0,o1,o2)):Q1R Tryz.prog 155 [.slice aB aC aD,.int .i64 a1,.int .i64 a2,.int .i64 a3,.func (.func 41) #[.slice (some a7) a8 a9] #[]] [tF] [.own 45 2 Q9 (.slice aB aC aD) l0,.own 3 1 Qi (.slice (some a7) a8 a9) l4] (fun v Φr Hr=>v = .tuple #[.int .i64 o0,.bool o1] ∧ Φr = [] ∧ Hr = [.own 45 2 Q9 (.slice aB aC aD) o2,.own 3 1 Qi (.slice (some a7) a8 a9) l4]):=by
 unfold Q2n at hm
 refine QZ Tryz.func155 Z Tryz.ntmps155 Z (S:=V5 ..) Z (fun C=>(Q6 (Q2 (wP Z (wP Z (Q3 (Q4 (Q5 [0,1,2,3,4] (S':=V5 ..) Z (Q6 ?_)))))))))
 obtain ⟨e6,hm⟩:=Qd hm
 obtain ⟨aW,cM,hm⟩:=Q7 hm
 obtain ⟨e7,hm⟩:=Qd hm
 obtain ⟨aX,cN,hm⟩:=Q7 hm
 obtain ⟨dA,hm⟩:=Qd hm
 obtain ⟨fC,cH,hm⟩:=Q7 hm
 obtain ⟨dB,hm⟩:=Qd hm
 obtain ⟨fD,cI,hm⟩:=Q7 hm
 refine Q18 (σ:=Unit) (fun _=>True) (fun _=>[(0,.slice aB aC aD),(1,.int .i64 a1),(2,.int .i64 a2),(4,.func (.func 41) #[.slice (some a7) a8 a9] #[])]) (fun _=>[tF]) (fun _=>[.own 45 2 Q9 (.slice aB aC aD) ((l0.set a1.toNat aW).set a3.toNat aX),.own 3 1 Qi (.slice (some a7) a8 a9) l4]) ?_ ?_
 refine QV [0,1,2,3,4,5,6,8,9,10,12,14] Z Z (fun hok=>(xP hok 0 Z (xP hok 1 Z (xP hok 2 Z (xP hok 3 Z (xP hok 4 Z (xP hok 5 Z (Q1F hok 6 0 a3.toNat Z Z Z Zq Z Z Z Z Z (QC e6) (Qw cM) QB Qe (fun fE e8=>?_)))))))))
 subst e8
 refine xP hok 8 Z (xP hok 9 Z (QJ hok 10 0 a1.toNat Z Z Z Zq Z Z Z Z Z (QC e7) (Qw cN) QB Qe ?_))
 refine Q1W hok 7 11 Z Z Z Z Z Z ?_ ?_
 refine Qk Qa 0 a3.toNat 0 Z Z Z Zq Z Z Z cM Qe QS (v:=fun bG=>.agg #[.int .i64 (aW.rule),.slice bG.1 aW.ids.length bG.2]) (fun _=>Z) (fun _=>Z) (fun bG _=>(Q3 (Qy [1] [] Z Z (xS hok 11 Z (Qk Qa 0 a1.toNat 0 Z Z Z Zq Z Z Z cN Qe QS (v:=fun bH=>.agg #[.int .i64 (aX.rule),.slice bH.1 aX.ids.length bH.2]) (fun _=>Z) (fun _=>Z) (fun bH _=>(Q3 (Qy [1,2] [] Z Z (QJ hok 12 0 a1.toNat Z Z Z Zq Z Z Z Z Z (QC dA) (Qw cH) QB Qe (xS hok 13 Z (QU (u:=aW) 0 a1.toNat Z Z Z Z Z (Qw cH) Z Z Qe Z (fun F w hφ=>⟨(bG.1,bG.2),Z,(Qh (hφ _ (Qu (k:=1) Z)) Qv)⟩) (H':=[_,_]) Z (Q3 (Qy [0,1,2] [] Z Z (QJ hok 14 0 a3.toNat Z Z Z Zq Z Z Z Z Z (QC dB) (Qw cI) QB Qe (xS hok 15 Z ?_)))))))))))))))
 refine QU (u:=aX) 0 a3.toNat Z Z Z Z Z (Qw cI) Z Z Qe Z (fun F w hφ=>⟨(bH.1,bH.2),Z,(Qh (hφ _ (Qu (k:=0) Z)) Qv)⟩) (H':=[_,_]) Z (Q3 (Qy [0,1,2] [] Z Z (QL hok Z ?_)))
 refine Qp () trivial [0,1,2,4] Z (asK [2] Z) Z
 refine Qk Qa 0 a1.toNat 0 Z Z Z Zq Z Z Z cN Qe QS (v:=fun bH=>.agg #[.int .i64 (aX.rule),.slice bH.1 aX.ids.length bH.2]) (fun _=>Z) (fun _=>Z) (fun bH _=>(Q3 (Qy [1] [] Z Z (xS hok 7 Z (Qk Qa 0 a3.toNat 0 Z Z Z Zq Z Z Z cM Qe QS (v:=fun bG=>.agg #[.int .i64 (aW.rule),.slice bG.1 aW.ids.length bG.2]) (fun _=>Z) (fun _=>Z) (fun bG _=>(Q3 (Qy [1,2] [] Z Z (QJ hok 12 0 a1.toNat Z Z Z Zq Z Z Z Z Z (QC dA) (Qw cH) QB Qe (xS hok 13 Z (QU (u:=aW) 0 a1.toNat Z Z Z Z Z (Qw cH) Z Z Qe Z (fun F w hφ=>⟨(bG.1,bG.2),Z,(Qh (hφ _ (Qu (k:=0) Z)) Qv)⟩) (H':=[_,_]) Z (Q3 (Qy [0,1,2] [] Z Z (QJ hok 14 0 a3.toNat Z Z Z Zq Z Z Z Z Z (QC dB) (Qw cI) QB Qe (xS hok 15 Z ?_)))))))))))))))
 refine QU (u:=aX) 0 a3.toNat Z Z Z Z Z (Qw cI) Z Z Qe Z (fun F w hφ=>⟨(bH.1,bH.2),Z,(Qh (hφ _ (Qu (k:=1) Z)) Qv)⟩) (H':=[_,_]) Z (Q3 (Qy [0,1,2] [] Z Z (QL hok Z ?_)))
 refine Qp () trivial [0,1,2,4] Z (asK [2] Z) Z
 rintro _ _
 try dsimp only
 refine Q6 (Q2 (wP Z (wP Z ?_)))
 obtain ⟨e9,hm⟩:=Qd hm
 refine Qz (d:=29) (v':=.int .i64 (a1 + 1)) (S':=V5 ..) Z Z (i64_in e9) (wP Z (wP Z ?_))
 obtain ⟨eA,hm⟩:=Qd hm
 refine Qz (d:=31) (v':=.int .i64 (a2 - 1)) (S':=V7 ..) Z Z (i64_in eA) (wP Z (wP Z (Q3 (Q4 (Q5 [13,12,0,1,4] (S':=V5 ..) Z (Q6 ?_))))))
 obtain ⟨dC,hm,hLj_2⟩:=Q7 hm
 refine Q18 (σ:=Int) (fun a5=>dC = a5) (fun a5=>[(13,.int .i64 (a2 - 1)),(12,.int .i64 a5),(0,.slice aB aC aD),(1,.int .i64 a1),(4,.func (.func 41) #[.slice (some a7) a8 a9] #[])]) (fun a5=>[tF]) (fun a5=>[.own 45 2 Q9 (.slice aB aC aD) ((l0.set a1.toNat aW).set a3.toNat aX),.own 3 1 Qi (.slice (some a7) a8 a9) l4]) ?_ ?_
 refine Qm (Q1f (σ:=Nat × Int) (fun (bW,aG)=>Q1o (Q2z N a2 l0 a1 aW a3 aX l4) bW aG = some dC) (fun (bW,aG)=>bW) (fun (bW,aG)=>[(13,.int .i64 (a2 - 1)),(12,.int .i64 aG),(0,.slice aB aC aD),(1,.int .i64 a1),(4,.func (.func 41) #[.slice (some a7) a8 a9] #[])]) (fun (bW,aG)=>[tF]) (fun (bW,aG)=>[.own 45 2 Q9 (.slice aB aC aD) ((l0.set a1.toNat aW).set a3.toNat aX),.own 3 1 Qi (.slice (some a7) a8 a9) l4]) (N,a1 + 1) hm [13,12,0,1,4] Z (asK [0] Z) Z (fun s_ hm=>?_))
 obtain ⟨bW,aG⟩:=s_
 try dsimp only at hm ⊢
 obtain ⟨fF,fG,eB,hq,hLu1⟩:=Q1d hm
 clear hm
 subst eB
 replace hm:=hq
 clear hq
 unfold Q2z at hm
 try dsimp only at hm
 refine Q6 (Q6 ?_)
 obtain ⟨eC,hm,hLj_3⟩:=Q7 hm
 unfold Q4u at hm
 refine Q18 (σ:=Bool) (fun b4=>eC = b4) (fun b4=>[(13,.int .i64 (a2 - 1)),(12,.int .i64 aG),(0,.slice aB aC aD),(1,.int .i64 a1),(4,.func (.func 41) #[.slice (some a7) a8 a9] #[]),(47,.bool b4)]) (fun b4=>[tF]) (fun b4=>[.own 45 2 Q9 (.slice aB aC aD) ((l0.set a1.toNat aW).set a3.toNat aX),.own 3 1 Qi (.slice (some a7) a8 a9) l4]) ?_ ?_
 rcases Q32 hm with ⟨cO,hm⟩ | ⟨cO,hm⟩
 ·
  obtain ⟨eD,hm⟩:=Qd hm
  obtain ⟨bC,cP,hm⟩:=Q7 hm
  obtain ⟨eE,hm⟩:=Qd hm
  obtain ⟨bD,cQ,hm⟩:=Q7 hm
  obtain ⟨eY,dD,hm⟩:=Q7 hm
  refine QV [0,1,2,3,4,5,6,7,9,10,11,14,15] Z Z (fun hok=>(xP hok 0 Z (xP hok 1 Z (xP hok 2 Z (xP hok 3 Z (Q1e (d:=35) (v':=.bool true) (S':=V8 ..) Z Z (Q16 cO) (xP hok 4 Z (xP hok 5 Z (xP hok 6 Z (Q1F hok 7 0 aG.toNat Z Z Z Zq Z Z Z Z Z (QC eD) (Qw cP) QB Qe (fun fI eF=>?_)))))))))))
  subst eF
  refine xP hok 9 Z (xP hok 10 Z (QJ hok 11 0 a1.toNat Z Z Z Zq Z Z Z Z Z (QC eE) (Qw cQ) QB Qe ?_))
  refine Q1W hok 8 12 Z Z Z Z Z Z ?_ ?_
  rotate_left
  focus
   refine Qk Qa 0 a1.toNat 0 Z Z Z Zq Z Z Z cQ Qe QS (v:=fun b6=>.agg #[.int .i64 (bD.rule),.slice b6.1 bD.ids.length b6.2]) (fun _=>Z) (fun _=>Z) (fun b6 _=>(Q3 (Qy [1] [] Z Z (xS hok 8 Z (Qk Qa 0 aG.toNat 0 Z Z Z Zq Z Z Z cP Qe QS (v:=fun b7=>.agg #[.int .i64 (bC.rule),.slice b7.1 bC.ids.length b7.2]) (fun _=>Z) (fun _=>Z) (fun b7 _=>(Q3 (Qy [1,2] [] Z Z (xS hok 13 Z (Q26 (args:=[.slice (some a7) a8 a9,.agg #[.int .i64 (bC.rule),.slice b7.1 bC.ids.length b7.2],.agg #[.int .i64 (bD.rule),.slice b6.1 bD.ids.length b6.2]]) [1] [0] Z Z Z Zq Z Z Z Q66 Z Z (QN N a7 a8 a9 l4 bC.rule b7.1 b7.2 bC.ids bD.rule b6.1 b6.2 bD.ids _ dD) (asK [0,1,2] Z) Z (H':=[_]) Z ?_))))))))))
  rotate_right
  focus
   refine Qk Qa 0 aG.toNat 0 Z Z Z Zq Z Z Z cP Qe QS (v:=fun b7=>.agg #[.int .i64 (bC.rule),.slice b7.1 bC.ids.length b7.2]) (fun _=>Z) (fun _=>Z) (fun b7 _=>(Q3 (Qy [1] [] Z Z (xS hok 12 Z (Qk Qa 0 a1.toNat 0 Z Z Z Zq Z Z Z cQ Qe QS (v:=fun b6=>.agg #[.int .i64 (bD.rule),.slice b6.1 bD.ids.length b6.2]) (fun _=>Z) (fun _=>Z) (fun b6 _=>(Q3 (Qy [1,2] [] Z Z (xS hok 13 Z (Q26 (args:=[.slice (some a7) a8 a9,.agg #[.int .i64 (bC.rule),.slice b7.1 bC.ids.length b7.2],.agg #[.int .i64 (bD.rule),.slice b6.1 bD.ids.length b6.2]]) [1] [0] Z Z Z Zq Z Z Z Q66 Z Z (QN N a7 a8 a9 l4 bC.rule b7.1 b7.2 bC.ids bD.rule b6.1 b6.2 bD.ids _ dD) (asK [1,0,2] Z) Z (H':=[_]) Z ?_))))))))))
  all_goals
   rintro _ _ _ ⟨rfl,rfl,rfl⟩
   refine Q3 (Qy [0,1,2] [] Z Z (xP hok 14 Z (xP hok 15 Z (QL hok Z ?_))))
   have hE:=(Zi hm).symm
   refine Q1m [1,0] Z (H':=[_,_]) Z ?_
   refine Qp (decide (eY < 0)) hE [13,12,0,1,4,47] Z (asK [2] Z) Z
 ·
  refine QV [0,1,2,3,4,5,6,7,9,10,11,14,15] Z Z (fun hok=>(xP hok 0 Z (xP hok 1 Z (xP hok 2 Z (xP hok 3 Z (Q1e (d:=35) (v':=.bool false) (S':=V8 ..) Z Z (Q16 cO) (xO hok 4 Z (xO hok 5 Z (xO hok 6 Z (xO hok 7 Z (xO hok 9 Z (xO hok 10 Z (xO hok 11 Z ?_)))))))))))))
  refine Q1W hok 8 12 Z Z Z Z Z Z ?_ ?_
  rotate_left
  focus
   refine wO Z (Q3 (Qy [0] [] Z Z (xS hok 8 Z ?_)))
  rotate_right
  focus
   refine wO Z (Q3 (Qy [0] [] Z Z (xS hok 12 Z ?_)))
  all_goals
   refine wO Z (Q3 (Qy [0] [] Z Z (xS hok 13 Z (wO Z (Q3 (Qy [0] [] Z Z (xO hok 14 Z (xP hok 15 Z (QL hok Z ?_)))))))))
   have hE:=(Zi hm).symm
   refine Qp false hE [13,12,0,1,4,47] Z (asK [0] Z) Z
 rintro b4 hE
 try dsimp only
 have hm:=hLj_3
 try rw [hE] at hm
 refine QA Z (fun cR=>?_) (fun cR=>?_)
 replace hm:=Q1z hm cR
 refine Q5 [13,12,0,1,4] (S':=V5 ..) Z (Qs (Q4 (Qm (Q2 (wP Z (wP Z ?_))))))
 obtain ⟨eG,hm⟩:=Qd hm
 refine Qz (d:=49) (v':=.int .i64 (aG + 1)) (S':=V6 ..) Z Z (i64_in eG) (QI (S':=V6 ..) Z Z Z Z Z (Q3 (Qj ?_)))
 have hE:=(Zi hm).symm
 replace hE:=Q14 hLu1 hE
 refine Q1a (_,aG + 1) (Nat.lt_succ_self _) hE [13,12,0,1,4] Z (asK [0] Z) Z
 replace hm:=Q1y hm cR
 refine Q5 [13,12,0,1,4] (S':=V5 ..) Z (Q19 (Qc (Qc (Qt ?_))))
 have hE:=(Zi hm).symm
 replace hE:=QO hLu1 hE
 refine Qp aG hE [13,12,0,1,4] Z (asK [0] Z) Z
 rintro a5 hE
 try dsimp only
 have hm:=hLj_2
 try rw [hE] at hm
 refine Q6 ?_
 obtain ⟨dE,hm,hLj_4⟩:=Q7 hm
 refine Q18 (σ:=Int) (fun a0=>dE = a0) (fun a0=>[(13,.int .i64 a0),(12,.int .i64 a5),(0,.slice aB aC aD),(1,.int .i64 a1),(4,.func (.func 41) #[.slice (some a7) a8 a9] #[])]) (fun a0=>[tF]) (fun a0=>[.own 45 2 Q9 (.slice aB aC aD) ((l0.set a1.toNat aW).set a3.toNat aX),.own 3 1 Qi (.slice (some a7) a8 a9) l4]) ?_ ?_
 refine Qm (Q1f (σ:=Nat × Int) (fun (bX,aH)=>Q1o (Q2A N a5 l0 a1 aW a3 aX l4) bX aH = some dE) (fun (bX,aH)=>bX) (fun (bX,aH)=>[(13,.int .i64 aH),(12,.int .i64 a5),(0,.slice aB aC aD),(1,.int .i64 a1),(4,.func (.func 41) #[.slice (some a7) a8 a9] #[])]) (fun (bX,aH)=>[tF]) (fun (bX,aH)=>[.own 45 2 Q9 (.slice aB aC aD) ((l0.set a1.toNat aW).set a3.toNat aX),.own 3 1 Qi (.slice (some a7) a8 a9) l4]) (N,a2 - 1) hm [13,12,0,1,4] Z (asK [0] Z) Z (fun s_ hm=>?_))
 obtain ⟨bX,aH⟩:=s_
 try dsimp only at hm ⊢
 obtain ⟨fJ,fK,eH,hq,hLu2⟩:=Q1d hm
 clear hm
 subst eH
 replace hm:=hq
 clear hq
 unfold Q2A at hm
 try dsimp only at hm
 refine Q6 (Q6 ?_)
 obtain ⟨eI,hm,hLj_5⟩:=Q7 hm
 unfold Q4v at hm
 refine Q18 (σ:=Bool) (fun b5=>eI = b5) (fun b5=>[(13,.int .i64 aH),(12,.int .i64 a5),(0,.slice aB aC aD),(1,.int .i64 a1),(4,.func (.func 41) #[.slice (some a7) a8 a9] #[]),(66,.bool b5)]) (fun b5=>[tF]) (fun b5=>[.own 45 2 Q9 (.slice aB aC aD) ((l0.set a1.toNat aW).set a3.toNat aX),.own 3 1 Qi (.slice (some a7) a8 a9) l4]) ?_ ?_
 rcases Q32 hm with ⟨cS,hm⟩ | ⟨cS,hm⟩
 ·
  obtain ⟨eJ,hm⟩:=Qd hm
  obtain ⟨bE,cT,hm⟩:=Q7 hm
  obtain ⟨eK,hm⟩:=Qd hm
  obtain ⟨bF,cU,hm⟩:=Q7 hm
  obtain ⟨eZ,dF,hm⟩:=Q7 hm
  refine QV [0,1,2,3,4,5,6,7,9,10,11,14,15,16] Z Z (fun hok=>(xP hok 0 Z (xP hok 1 Z (xP hok 2 Z (xP hok 3 Z (Q1e (d:=53) (v':=.bool true) (S':=V8 ..) Z Z (Q16 cS) (xP hok 4 Z (xP hok 5 Z (xP hok 6 Z (Q1F hok 7 0 aH.toNat Z Z Z Zq Z Z Z Z Z (QC eJ) (Qw cT) QB Qe (fun fL eL=>?_)))))))))))
  subst eL
  refine xP hok 9 Z (xP hok 10 Z (QJ hok 11 0 a1.toNat Z Z Z Zq Z Z Z Z Z (QC eK) (Qw cU) QB Qe ?_))
  refine Q1W hok 8 12 Z Z Z Z Z Z ?_ ?_
  rotate_left
  focus
   refine Qk Qa 0 a1.toNat 0 Z Z Z Zq Z Z Z cU Qe QS (v:=fun b8=>.agg #[.int .i64 (bF.rule),.slice b8.1 bF.ids.length b8.2]) (fun _=>Z) (fun _=>Z) (fun b8 _=>(Q3 (Qy [1] [] Z Z (xS hok 8 Z (Qk Qa 0 aH.toNat 0 Z Z Z Zq Z Z Z cT Qe QS (v:=fun b9=>.agg #[.int .i64 (bE.rule),.slice b9.1 bE.ids.length b9.2]) (fun _=>Z) (fun _=>Z) (fun b9 _=>(Q3 (Qy [1,2] [] Z Z (xS hok 13 Z (Q26 (args:=[.slice (some a7) a8 a9,.agg #[.int .i64 (bE.rule),.slice b9.1 bE.ids.length b9.2],.agg #[.int .i64 (bF.rule),.slice b8.1 bF.ids.length b8.2]]) [1] [0] Z Z Z Zq Z Z Z Q66 Z Z (QN N a7 a8 a9 l4 bE.rule b9.1 b9.2 bE.ids bF.rule b8.1 b8.2 bF.ids _ dF) (asK [0,1,2] Z) Z (H':=[_]) Z ?_))))))))))
  rotate_right
  focus
   refine Qk Qa 0 aH.toNat 0 Z Z Z Zq Z Z Z cT Qe QS (v:=fun b9=>.agg #[.int .i64 (bE.rule),.slice b9.1 bE.ids.length b9.2]) (fun _=>Z) (fun _=>Z) (fun b9 _=>(Q3 (Qy [1] [] Z Z (xS hok 12 Z (Qk Qa 0 a1.toNat 0 Z Z Z Zq Z Z Z cU Qe QS (v:=fun b8=>.agg #[.int .i64 (bF.rule),.slice b8.1 bF.ids.length b8.2]) (fun _=>Z) (fun _=>Z) (fun b8 _=>(Q3 (Qy [1,2] [] Z Z (xS hok 13 Z (Q26 (args:=[.slice (some a7) a8 a9,.agg #[.int .i64 (bE.rule),.slice b9.1 bE.ids.length b9.2],.agg #[.int .i64 (bF.rule),.slice b8.1 bF.ids.length b8.2]]) [1] [0] Z Z Z Zq Z Z Z Q66 Z Z (QN N a7 a8 a9 l4 bE.rule b9.1 b9.2 bE.ids bF.rule b8.1 b8.2 bF.ids _ dF) (asK [1,0,2] Z) Z (H':=[_]) Z ?_))))))))))
  all_goals
   rintro _ _ _ ⟨rfl,rfl,rfl⟩
   refine Q3 (Qy [0,1,2] [] Z Z (xP hok 14 Z (xP hok 15 Z (xP hok 16 Z (QL hok Z ?_)))))
   have hE:=(Zi hm).symm
   refine Q1m [1,0] Z (H':=[_,_]) Z ?_
   refine Qp (!(decide (eZ < 0))) hE [13,12,0,1,4,66] Z (asK [2] Z) Z
 ·
  refine QV [0,1,2,3,4,5,6,7,9,10,11,14,15,16] Z Z (fun hok=>(xP hok 0 Z (xP hok 1 Z (xP hok 2 Z (xP hok 3 Z (Q1e (d:=53) (v':=.bool false) (S':=V8 ..) Z Z (Q16 cS) (xO hok 4 Z (xO hok 5 Z (xO hok 6 Z (xO hok 7 Z (xO hok 9 Z (xO hok 10 Z (xO hok 11 Z ?_)))))))))))))
  refine Q1W hok 8 12 Z Z Z Z Z Z ?_ ?_
  rotate_left
  focus
   refine wO Z (Q3 (Qy [0] [] Z Z (xS hok 8 Z ?_)))
  rotate_right
  focus
   refine wO Z (Q3 (Qy [0] [] Z Z (xS hok 12 Z ?_)))
  all_goals
   refine wO Z (Q3 (Qy [0] [] Z Z (xS hok 13 Z (wO Z (Q3 (Qy [0] [] Z Z (xO hok 14 Z (xO hok 15 Z (xP hok 16 Z (QL hok Z ?_))))))))))
   have hE:=(Zi hm).symm
   refine Qp false hE [13,12,0,1,4,66] Z (asK [0] Z) Z
 rintro b5 hE
 try dsimp only
 have hm:=hLj_5
 try rw [hE] at hm
 refine QA Z (fun cV=>?_) (fun cV=>?_)
 replace hm:=Q1z hm cV
 refine Q5 [13,12,0,1,4] (S':=V5 ..) Z (Qs (Q4 (Qm (Q2 (wP Z (wP Z ?_))))))
 obtain ⟨eM,hm⟩:=Qd hm
 refine Qz (d:=68) (v':=.int .i64 (aH - 1)) (S':=V6 ..) Z Z (i64_in eM) (QI (S':=V6 ..) Z Z Z Z Z (Q3 (Qj ?_)))
 have hE:=(Zi hm).symm
 replace hE:=Q14 hLu2 hE
 refine Q1a (_,aH - 1) (Nat.lt_succ_self _) hE [13,12,0,1,4] Z (asK [0] Z) Z
 replace hm:=Q1y hm cV
 refine Q5 [13,12,0,1,4] (S':=V5 ..) Z (Q19 (Qc (Qc (Qt ?_))))
 have hE:=(Zi hm).symm
 replace hE:=QO hLu2 hE
 refine Qp aH hE [13,12,0,1,4] Z (asK [0] Z) Z
 rintro a0 hE
 try dsimp only
 have hm:=hLj_4
 try rw [hE] at hm
 refine Q6 (Q6 (Q2 (wP Z (wP Z (wP Z (Q3 (Q4 (Q5 [71,13,12,0,1,4] (S':=V6 ..) Z ?_))))))))
 refine QA Z (fun cW=>?_) (fun cW=>?_)
 replace hm:=Q1z hm cW
 refine Q5 [13,0,1] (S':=V3 ..) Z (Q6 ?_)
 obtain ⟨eN,hm⟩:=Qd hm
 obtain ⟨bY,cX,hm⟩:=Q7 hm
 obtain ⟨eO,hm⟩:=Qd hm
 obtain ⟨bZ,cY,hm⟩:=Q7 hm
 obtain ⟨dG,hm⟩:=Qd hm
 obtain ⟨fM,cJ,hm⟩:=Q7 hm
 obtain ⟨dH,hm⟩:=Qd hm
 obtain ⟨fN,cK,hm⟩:=Q7 hm
 refine Q18 (σ:=Unit) (fun _=>True) (fun _=>[(13,.int .i64 a0)]) (fun _=>[tF]) (fun _=>[.own 45 2 Q9 (.slice aB aC aD) ((((l0.set a1.toNat aW).set a3.toNat aX).set a0.toNat bY).set a1.toNat bZ),.own 3 1 Qi (.slice (some a7) a8 a9) l4]) ?_ ?_
 refine QV [0,1,2,3,4,5,6,8,9,10,12,14] Z Z (fun hok=>(xP hok 0 Z (xP hok 1 Z (xP hok 2 Z (xP hok 3 Z (xP hok 4 Z (xP hok 5 Z (Q1F hok 6 0 a1.toNat Z Z Z Zq Z Z Z Z Z (QC eN) (Qw cX) QB Qe (fun fO eP=>?_)))))))))
 subst eP
 refine xP hok 8 Z (xP hok 9 Z (QJ hok 10 0 a0.toNat Z Z Z Zq Z Z Z Z Z (QC eO) (Qw cY) QB Qe ?_))
 refine Q1W hok 7 11 Z Z Z Z Z Z ?_ ?_
 refine Qk Qa 0 a1.toNat 0 Z Z Z Zq Z Z Z cX Qe QS (v:=fun bI=>.agg #[.int .i64 (bY.rule),.slice bI.1 bY.ids.length bI.2]) (fun _=>Z) (fun _=>Z) (fun bI _=>(Q3 (Qy [1] [] Z Z (xS hok 11 Z (Qk Qa 0 a0.toNat 0 Z Z Z Zq Z Z Z cY Qe QS (v:=fun bJ=>.agg #[.int .i64 (bZ.rule),.slice bJ.1 bZ.ids.length bJ.2]) (fun _=>Z) (fun _=>Z) (fun bJ _=>(Q3 (Qy [1,2] [] Z Z (QJ hok 12 0 a0.toNat Z Z Z Zq Z Z Z Z Z (QC dG) (Qw cJ) QB Qe (xS hok 13 Z (QU (u:=bY) 0 a0.toNat Z Z Z Z Z (Qw cJ) Z Z Qe Z (fun F w hφ=>⟨(bI.1,bI.2),Z,(Qh (hφ _ (Qu (k:=1) Z)) Qv)⟩) (H':=[_,_]) Z (Q3 (Qy [0,1,2] [] Z Z (QJ hok 14 0 a1.toNat Z Z Z Zq Z Z Z Z Z (QC dH) (Qw cK) QB Qe (xS hok 15 Z ?_)))))))))))))))
 refine QU (u:=bZ) 0 a1.toNat Z Z Z Z Z (Qw cK) Z Z Qe Z (fun F w hφ=>⟨(bJ.1,bJ.2),Z,(Qh (hφ _ (Qu (k:=0) Z)) Qv)⟩) (H':=[_,_]) Z (Q3 (Qy [0,1,2] [] Z Z (QL hok Z ?_)))
 refine Qp () trivial [13] Z (asK [2] Z) Z
 refine Qk Qa 0 a0.toNat 0 Z Z Z Zq Z Z Z cY Qe QS (v:=fun bJ=>.agg #[.int .i64 (bZ.rule),.slice bJ.1 bZ.ids.length bJ.2]) (fun _=>Z) (fun _=>Z) (fun bJ _=>(Q3 (Qy [1] [] Z Z (xS hok 7 Z (Qk Qa 0 a1.toNat 0 Z Z Z Zq Z Z Z cX Qe QS (v:=fun bI=>.agg #[.int .i64 (bY.rule),.slice bI.1 bY.ids.length bI.2]) (fun _=>Z) (fun _=>Z) (fun bI _=>(Q3 (Qy [1,2] [] Z Z (QJ hok 12 0 a0.toNat Z Z Z Zq Z Z Z Z Z (QC dG) (Qw cJ) QB Qe (xS hok 13 Z (QU (u:=bY) 0 a0.toNat Z Z Z Z Z (Qw cJ) Z Z Qe Z (fun F w hφ=>⟨(bI.1,bI.2),Z,(Qh (hφ _ (Qu (k:=0) Z)) Qv)⟩) (H':=[_,_]) Z (Q3 (Qy [0,1,2] [] Z Z (QJ hok 14 0 a1.toNat Z Z Z Zq Z Z Z Z Z (QC dH) (Qw cK) QB Qe (xS hok 15 Z ?_)))))))))))))))
 refine QU (u:=bZ) 0 a1.toNat Z Z Z Z Z (Qw cK) Z Z Qe Z (fun F w hφ=>⟨(bJ.1,bJ.2),Z,(Qh (hφ _ (Qu (k:=1) Z)) Qv)⟩) (H':=[_,_]) Z (Q3 (Qy [0,1,2] [] Z Z (QL hok Z ?_)))
 refine Qp () trivial [13] Z (asK [2] Z) Z
 rintro _ _
 try dsimp only
 refine Q6 (Q2 (wP Z (wP Z (wP Z (Q3 (Q4 (Q5 [11,10] (S':=[_,_]) Z (QP (Qn ?_)))))))))
 have hE:=(Zi hm).symm
 obtain ⟨hE0,hF1⟩:=Prod.mk.inj hE
 obtain ⟨hE1,hE2⟩:=Prod.mk.inj hF1
 clear hE hF1
 replace hE0:=hE0.symm
 subst hE0
 replace hE1:=hE1.symm
 subst hE1
 replace hE2:=hE2.symm
 subst hE2
 refine Q7e (Hr:=[_,_]) [0,1] Tryz.results155 (QD Z) (QD Z) ⟨Z,Z,Z⟩ (asK [] Z) Z Z (.inl Z)
 replace hm:=Q1y hm cW
 refine Q5 [13,12,0,1,4] (S':=V5 ..) Z (Qs (Q4 (Q6 ?_)))
 obtain ⟨eQ,hm⟩:=Qd hm
 obtain ⟨bU,cZ,hm⟩:=Q7 hm
 obtain ⟨eR,hm⟩:=Qd hm
 obtain ⟨bV,d0,hm⟩:=Q7 hm
 obtain ⟨dI,hm⟩:=Qd hm
 obtain ⟨fQ,cL,hm⟩:=Q7 hm
 obtain ⟨d1,hm⟩:=Qd hm
 obtain ⟨f3,bP,hm⟩:=Q7 hm
 refine Q18 (σ:=Unit) (fun _=>True) (fun _=>[(13,.int .i64 a0),(12,.int .i64 a5),(0,.slice aB aC aD),(1,.int .i64 a1),(4,.func (.func 41) #[.slice (some a7) a8 a9] #[])]) (fun _=>[tF]) (fun _=>[.own 45 2 Q9 (.slice aB aC aD) ((((l0.set a1.toNat aW).set a3.toNat aX).set a5.toNat bU).set a0.toNat bV),.own 3 1 Qi (.slice (some a7) a8 a9) l4]) ?_ ?_
 refine QV [0,1,2,3,4,5,6,8,9,10,12,14] Z Z (fun hok=>(xP hok 0 Z (xP hok 1 Z (xP hok 2 Z (xP hok 3 Z (xP hok 4 Z (xP hok 5 Z (Q1F hok 6 0 a0.toNat Z Z Z Zq Z Z Z Z Z (QC eQ) (Qw cZ) QB Qe (fun fR eS=>?_)))))))))
 subst eS
 refine xP hok 8 Z (xP hok 9 Z (QJ hok 10 0 a5.toNat Z Z Z Zq Z Z Z Z Z (QC eR) (Qw d0) QB Qe ?_))
 refine Q1W hok 7 11 Z Z Z Z Z Z ?_ ?_
 refine Qk Qa 0 a0.toNat 0 Z Z Z Zq Z Z Z cZ Qe QS (v:=fun bK=>.agg #[.int .i64 (bU.rule),.slice bK.1 bU.ids.length bK.2]) (fun _=>Z) (fun _=>Z) (fun bK _=>(Q3 (Qy [1] [] Z Z (xS hok 11 Z (Qk Qa 0 a5.toNat 0 Z Z Z Zq Z Z Z d0 Qe QS (v:=fun bL=>.agg #[.int .i64 (bV.rule),.slice bL.1 bV.ids.length bL.2]) (fun _=>Z) (fun _=>Z) (fun bL _=>(Q3 (Qy [1,2] [] Z Z (QJ hok 12 0 a5.toNat Z Z Z Zq Z Z Z Z Z (QC dI) (Qw cL) QB Qe (xS hok 13 Z (QU (u:=bU) 0 a5.toNat Z Z Z Z Z (Qw cL) Z Z Qe Z (fun F w hφ=>⟨(bK.1,bK.2),Z,(Qh (hφ _ (Qu (k:=1) Z)) Qv)⟩) (H':=[_,_]) Z (Q3 (Qy [0,1,2] [] Z Z (QJ hok 14 0 a0.toNat Z Z Z Zq Z Z Z Z Z (QC d1) (Qw bP) QB Qe (xS hok 15 Z ?_)))))))))))))))
 refine QU (u:=bV) 0 a0.toNat Z Z Z Z Z (Qw bP) Z Z Qe Z (fun F w hφ=>⟨(bL.1,bL.2),Z,(Qh (hφ _ (Qu (k:=0) Z)) Qv)⟩) (H':=[_,_]) Z (Q3 (Qy [0,1,2] [] Z Z (QL hok Z ?_)))
 refine Qp () trivial [13,12,0,1,4] Z (asK [2] Z) Z
 refine Qk Qa 0 a5.toNat 0 Z Z Z Zq Z Z Z d0 Qe QS (v:=fun bL=>.agg #[.int .i64 (bV.rule),.slice bL.1 bV.ids.length bL.2]) (fun _=>Z) (fun _=>Z) (fun bL _=>(Q3 (Qy [1] [] Z Z (xS hok 7 Z (Qk Qa 0 a0.toNat 0 Z Z Z Zq Z Z Z cZ Qe QS (v:=fun bK=>.agg #[.int .i64 (bU.rule),.slice bK.1 bU.ids.length bK.2]) (fun _=>Z) (fun _=>Z) (fun bK _=>(Q3 (Qy [1,2] [] Z Z (QJ hok 12 0 a5.toNat Z Z Z Zq Z Z Z Z Z (QC dI) (Qw cL) QB Qe (xS hok 13 Z (QU (u:=bU) 0 a5.toNat Z Z Z Z Z (Qw cL) Z Z Qe Z (fun F w hφ=>⟨(bK.1,bK.2),Z,(Qh (hφ _ (Qu (k:=0) Z)) Qv)⟩) (H':=[_,_]) Z (Q3 (Qy [0,1,2] [] Z Z (QJ hok 14 0 a0.toNat Z Z Z Zq Z Z Z Z Z (QC d1) (Qw bP) QB Qe (xS hok 15 Z ?_)))))))))))))))
 refine QU (u:=bV) 0 a0.toNat Z Z Z Z Z (Qw bP) Z Z Qe Z (fun F w hφ=>⟨(bL.1,bL.2),Z,(Qh (hφ _ (Qu (k:=1) Z)) Qv)⟩) (H':=[_,_]) Z (Q3 (Qy [0,1,2] [] Z Z (QL hok Z ?_)))
 refine Qp () trivial [13,12,0,1,4] Z (asK [2] Z) Z
 rintro _ _
 try dsimp only
 refine Q6 (Q2 (wP Z (wP Z ?_)))
 obtain ⟨dL,hm⟩:=Qd hm
 refine Qz (d:=102) (v':=.int .i64 (a5 + 1)) (S':=V6 ..) Z Z (i64_in dL) (QI (S':=V6 ..) Z Z Z Z Z (Q3 (Q4 (Q5 [12,13,0,1,4] (S':=V5 ..) Z (Q6 (Q2 (wP Z (wP Z ?_))))))))
 obtain ⟨dM,hm⟩:=Qd hm
 refine Qz (d:=104) (v':=.int .i64 (a0 - 1)) (S':=V6 ..) Z Z (i64_in dM) (QI (S':=V6 ..) Z Z Z Z Z (Q3 (Q4 (Q5 [13,12,0,1,4] (S':=V5 ..) Z (Q6 ?_)))))
 obtain ⟨dJ,hm,hLj_8⟩:=Q7 hm
 refine Q18 (σ:=Int × (List Q1)) (fun (aE,aN)=>dJ = (aE,aN)) (fun (aE,aN)=>[(13,.int .i64 aE),(0,.slice aB aC aD),(1,.int .i64 a1)]) (fun (aE,aN)=>[tF]) (fun (aE,aN)=>[.own 45 2 Q9 (.slice aB aC aD) aN,.own 3 1 Qi (.slice (some a7) a8 a9) l4]) ?_ ?_
 refine Qm (Q1f (σ:=Nat × Int × Int × (List Q1)) (fun (c0,aK,aZ,aA)=>Q1o (Q1D N a1 l4) c0 (aK,aZ,aA) = some dJ) (fun (c0,aK,aZ,aA)=>c0) (fun (c0,aK,aZ,aA)=>[(13,.int .i64 aK),(12,.int .i64 aZ),(0,.slice aB aC aD),(1,.int .i64 a1),(4,.func (.func 41) #[.slice (some a7) a8 a9] #[])]) (fun (c0,aK,aZ,aA)=>[tF]) (fun (c0,aK,aZ,aA)=>[.own 45 2 Q9 (.slice aB aC aD) aA,.own 3 1 Qi (.slice (some a7) a8 a9) l4]) (N,a0 - 1,a5 + 1,(((l0.set a1.toNat aW).set a3.toNat aX).set a5.toNat bU).set a0.toNat bV) hm [13,12,0,1,4] Z (asK [0] Z) Z (fun s_ hm=>?_))
 obtain ⟨c0,aK,aZ,aA⟩:=s_
 try dsimp only at hm ⊢
 obtain ⟨fS,fT,eT,hq,hLu3⟩:=Q1d hm
 clear hm
 subst eT
 replace hm:=hq
 clear hq
 unfold Q1D at hm
 try dsimp only at hm
 refine Qm (Q6 ?_)
 obtain ⟨dK,hm,hLj_9⟩:=Q7 hm
 refine Q18 (σ:=Int) (fun a6=>dK = a6) (fun a6=>[(13,.int .i64 aK),(12,.int .i64 a6),(0,.slice aB aC aD),(1,.int .i64 a1),(4,.func (.func 41) #[.slice (some a7) a8 a9] #[])]) (fun a6=>[tF]) (fun a6=>[.own 45 2 Q9 (.slice aB aC aD) aA,.own 3 1 Qi (.slice (some a7) a8 a9) l4]) ?_ ?_
 refine Qm (Q1f (σ:=Nat × Int) (fun (c1,aI)=>Q1o (Q2B N aK aA a1 l4) c1 aI = some dK) (fun (c1,aI)=>c1) (fun (c1,aI)=>[(13,.int .i64 aK),(12,.int .i64 aI),(0,.slice aB aC aD),(1,.int .i64 a1),(4,.func (.func 41) #[.slice (some a7) a8 a9] #[])]) (fun (c1,aI)=>[tF]) (fun (c1,aI)=>[.own 45 2 Q9 (.slice aB aC aD) aA,.own 3 1 Qi (.slice (some a7) a8 a9) l4]) (N,aZ) hm [13,12,0,1,4] Z (asK [0] Z) Z (fun s_ hm=>?_))
 obtain ⟨c1,aI⟩:=s_
 try dsimp only at hm ⊢
 obtain ⟨fU,fW,eU,hq,hLu4⟩:=Q1d hm
 clear hm
 subst eU
 replace hm:=hq
 clear hq
 unfold Q2B at hm
 try dsimp only at hm
 refine Q6 (Q6 ?_)
 obtain ⟨dN,hm,hLj_10⟩:=Q7 hm
 unfold Q4n at hm
 refine Q18 (σ:=Bool) (fun aL=>dN = aL) (fun aL=>[(13,.int .i64 aK),(12,.int .i64 aI),(0,.slice aB aC aD),(1,.int .i64 a1),(4,.func (.func 41) #[.slice (some a7) a8 a9] #[]),(120,.bool aL)]) (fun aL=>[tF]) (fun aL=>[.own 45 2 Q9 (.slice aB aC aD) aA,.own 3 1 Qi (.slice (some a7) a8 a9) l4]) ?_ ?_
 rcases Q32 hm with ⟨c2,hm⟩ | ⟨c2,hm⟩
 ·
  obtain ⟨dO,hm⟩:=Qd hm
  obtain ⟨aS,c3,hm⟩:=Q7 hm
  obtain ⟨dP,hm⟩:=Qd hm
  obtain ⟨aT,c4,hm⟩:=Q7 hm
  obtain ⟨eV,d2,hm⟩:=Q7 hm
  refine QV [0,1,2,3,4,5,6,7,9,10,11,14,15] Z Z (fun hok=>(xP hok 0 Z (xP hok 1 Z (xP hok 2 Z (xP hok 3 Z (Q1e (d:=108) (v':=.bool true) (S':=V8 ..) Z Z (Q16 c2) (xP hok 4 Z (xP hok 5 Z (xP hok 6 Z (Q1F hok 7 0 aI.toNat Z Z Z Zq Z Z Z Z Z (QC dO) (Qw c3) QB Qe (fun f4 dQ=>?_)))))))))))
  subst dQ
  refine xP hok 9 Z (xP hok 10 Z (QJ hok 11 0 a1.toNat Z Z Z Zq Z Z Z Z Z (QC dP) (Qw c4) QB Qe ?_))
  refine Q1W hok 8 12 Z Z Z Z Z Z ?_ ?_
  rotate_left
  focus
   refine Qk Qa 0 a1.toNat 0 Z Z Z Zq Z Z Z c4 Qe QS (v:=fun aO=>.agg #[.int .i64 (aT.rule),.slice aO.1 aT.ids.length aO.2]) (fun _=>Z) (fun _=>Z) (fun aO _=>(Q3 (Qy [1] [] Z Z (xS hok 8 Z (Qk Qa 0 aI.toNat 0 Z Z Z Zq Z Z Z c3 Qe QS (v:=fun aP=>.agg #[.int .i64 (aS.rule),.slice aP.1 aS.ids.length aP.2]) (fun _=>Z) (fun _=>Z) (fun aP _=>(Q3 (Qy [1,2] [] Z Z (xS hok 13 Z (Q26 (args:=[.slice (some a7) a8 a9,.agg #[.int .i64 (aS.rule),.slice aP.1 aS.ids.length aP.2],.agg #[.int .i64 (aT.rule),.slice aO.1 aT.ids.length aO.2]]) [1] [0] Z Z Z Zq Z Z Z Q66 Z Z (QN N a7 a8 a9 l4 aS.rule aP.1 aP.2 aS.ids aT.rule aO.1 aO.2 aT.ids _ d2) (asK [0,1,2] Z) Z (H':=[_]) Z ?_))))))))))
  rotate_right
  focus
   refine Qk Qa 0 aI.toNat 0 Z Z Z Zq Z Z Z c3 Qe QS (v:=fun aP=>.agg #[.int .i64 (aS.rule),.slice aP.1 aS.ids.length aP.2]) (fun _=>Z) (fun _=>Z) (fun aP _=>(Q3 (Qy [1] [] Z Z (xS hok 12 Z (Qk Qa 0 a1.toNat 0 Z Z Z Zq Z Z Z c4 Qe QS (v:=fun aO=>.agg #[.int .i64 (aT.rule),.slice aO.1 aT.ids.length aO.2]) (fun _=>Z) (fun _=>Z) (fun aO _=>(Q3 (Qy [1,2] [] Z Z (xS hok 13 Z (Q26 (args:=[.slice (some a7) a8 a9,.agg #[.int .i64 (aS.rule),.slice aP.1 aS.ids.length aP.2],.agg #[.int .i64 (aT.rule),.slice aO.1 aT.ids.length aO.2]]) [1] [0] Z Z Z Zq Z Z Z Q66 Z Z (QN N a7 a8 a9 l4 aS.rule aP.1 aP.2 aS.ids aT.rule aO.1 aO.2 aT.ids _ d2) (asK [1,0,2] Z) Z (H':=[_]) Z ?_))))))))))
  all_goals
   rintro _ _ _ ⟨rfl,rfl,rfl⟩
   refine Q3 (Qy [0,1,2] [] Z Z (xP hok 14 Z (xP hok 15 Z (QL hok Z ?_))))
   have hE:=(Zi hm).symm
   refine Q1m [1,0] Z (H':=[_,_]) Z ?_
   refine Qp (decide (eV < 0)) hE [13,12,0,1,4,120] Z (asK [2] Z) Z
 ·
  refine QV [0,1,2,3,4,5,6,7,9,10,11,14,15] Z Z (fun hok=>(xP hok 0 Z (xP hok 1 Z (xP hok 2 Z (xP hok 3 Z (Q1e (d:=108) (v':=.bool false) (S':=V8 ..) Z Z (Q16 c2) (xO hok 4 Z (xO hok 5 Z (xO hok 6 Z (xO hok 7 Z (xO hok 9 Z (xO hok 10 Z (xO hok 11 Z ?_)))))))))))))
  refine Q1W hok 8 12 Z Z Z Z Z Z ?_ ?_
  rotate_left
  focus
   refine wO Z (Q3 (Qy [0] [] Z Z (xS hok 8 Z ?_)))
  rotate_right
  focus
   refine wO Z (Q3 (Qy [0] [] Z Z (xS hok 12 Z ?_)))
  all_goals
   refine wO Z (Q3 (Qy [0] [] Z Z (xS hok 13 Z (wO Z (Q3 (Qy [0] [] Z Z (xO hok 14 Z (xP hok 15 Z (QL hok Z ?_)))))))))
   have hE:=(Zi hm).symm
   refine Qp false hE [13,12,0,1,4,120] Z (asK [0] Z) Z
 rintro aL hE
 try dsimp only
 have hm:=hLj_10
 try rw [hE] at hm
 refine QA Z (fun c5=>?_) (fun c5=>?_)
 replace hm:=Q1z hm c5
 refine Q5 [13,12,0,1,4] (S':=V5 ..) Z (Qs (Q4 (Qm (Q2 (wP Z (wP Z ?_))))))
 obtain ⟨dR,hm⟩:=Qd hm
 refine Qz (d:=122) (v':=.int .i64 (aI + 1)) (S':=V6 ..) Z Z (i64_in dR) (QI (S':=V6 ..) Z Z Z Z Z (Q3 (Qj ?_)))
 have hE:=(Zi hm).symm
 replace hE:=Q14 hLu4 hE
 refine Q1a (_,aI + 1) (Nat.lt_succ_self _) hE [13,12,0,1,4] Z (asK [0] Z) Z
 replace hm:=Q1y hm c5
 refine Q5 [13,12,0,1,4] (S':=V5 ..) Z (Q19 (Qc (Qc (Qt ?_))))
 have hE:=(Zi hm).symm
 replace hE:=QO hLu4 hE
 refine Qp aI hE [13,12,0,1,4] Z (asK [0] Z) Z
 rintro a6 hE
 try dsimp only
 have hm:=hLj_9
 try rw [hE] at hm
 refine Q6 ?_
 obtain ⟨d3,hm,hLj_11⟩:=Q7 hm
 refine Q18 (σ:=Int) (fun a4=>d3 = a4) (fun a4=>[(13,.int .i64 a4),(12,.int .i64 a6),(0,.slice aB aC aD),(1,.int .i64 a1),(4,.func (.func 41) #[.slice (some a7) a8 a9] #[])]) (fun a4=>[tF]) (fun a4=>[.own 45 2 Q9 (.slice aB aC aD) aA,.own 3 1 Qi (.slice (some a7) a8 a9) l4]) ?_ ?_
 refine Qm (Q1f (σ:=Nat × Int) (fun (c6,aJ)=>Q1o (Q2C N a6 aA a1 l4) c6 aJ = some d3) (fun (c6,aJ)=>c6) (fun (c6,aJ)=>[(13,.int .i64 aJ),(12,.int .i64 a6),(0,.slice aB aC aD),(1,.int .i64 a1),(4,.func (.func 41) #[.slice (some a7) a8 a9] #[])]) (fun (c6,aJ)=>[tF]) (fun (c6,aJ)=>[.own 45 2 Q9 (.slice aB aC aD) aA,.own 3 1 Qi (.slice (some a7) a8 a9) l4]) (N,aK) hm [13,12,0,1,4] Z (asK [0] Z) Z (fun s_ hm=>?_))
 obtain ⟨c6,aJ⟩:=s_
 try dsimp only at hm ⊢
 obtain ⟨fY,fZ,eW,hq,hLu5⟩:=Q1d hm
 clear hm
 subst eW
 replace hm:=hq
 clear hq
 unfold Q2C at hm
 try dsimp only at hm
 refine Q6 (Q6 ?_)
 obtain ⟨dS,hm,hLj_12⟩:=Q7 hm
 unfold Q4o at hm
 refine Q18 (σ:=Bool) (fun aM=>dS = aM) (fun aM=>[(13,.int .i64 aJ),(12,.int .i64 a6),(0,.slice aB aC aD),(1,.int .i64 a1),(4,.func (.func 41) #[.slice (some a7) a8 a9] #[]),(139,.bool aM)]) (fun aM=>[tF]) (fun aM=>[.own 45 2 Q9 (.slice aB aC aD) aA,.own 3 1 Qi (.slice (some a7) a8 a9) l4]) ?_ ?_
 rcases Q32 hm with ⟨c7,hm⟩ | ⟨c7,hm⟩
 ·
  obtain ⟨dT,hm⟩:=Qd hm
  obtain ⟨aU,c8,hm⟩:=Q7 hm
  obtain ⟨dU,hm⟩:=Qd hm
  obtain ⟨aV,c9,hm⟩:=Q7 hm
  obtain ⟨eX,d4,hm⟩:=Q7 hm
  refine QV [0,1,2,3,4,5,6,7,9,10,11,14,15,16] Z Z (fun hok=>(xP hok 0 Z (xP hok 1 Z (xP hok 2 Z (xP hok 3 Z (Q1e (d:=126) (v':=.bool true) (S':=V8 ..) Z Z (Q16 c7) (xP hok 4 Z (xP hok 5 Z (xP hok 6 Z (Q1F hok 7 0 aJ.toNat Z Z Z Zq Z Z Z Z Z (QC dT) (Qw c8) QB Qe (fun f5 dV=>?_)))))))))))
  subst dV
  refine xP hok 9 Z (xP hok 10 Z (QJ hok 11 0 a1.toNat Z Z Z Zq Z Z Z Z Z (QC dU) (Qw c9) QB Qe ?_))
  refine Q1W hok 8 12 Z Z Z Z Z Z ?_ ?_
  rotate_left
  focus
   refine Qk Qa 0 a1.toNat 0 Z Z Z Zq Z Z Z c9 Qe QS (v:=fun aQ=>.agg #[.int .i64 (aV.rule),.slice aQ.1 aV.ids.length aQ.2]) (fun _=>Z) (fun _=>Z) (fun aQ _=>(Q3 (Qy [1] [] Z Z (xS hok 8 Z (Qk Qa 0 aJ.toNat 0 Z Z Z Zq Z Z Z c8 Qe QS (v:=fun aR=>.agg #[.int .i64 (aU.rule),.slice aR.1 aU.ids.length aR.2]) (fun _=>Z) (fun _=>Z) (fun aR _=>(Q3 (Qy [1,2] [] Z Z (xS hok 13 Z (Q26 (args:=[.slice (some a7) a8 a9,.agg #[.int .i64 (aU.rule),.slice aR.1 aU.ids.length aR.2],.agg #[.int .i64 (aV.rule),.slice aQ.1 aV.ids.length aQ.2]]) [1] [0] Z Z Z Zq Z Z Z Q66 Z Z (QN N a7 a8 a9 l4 aU.rule aR.1 aR.2 aU.ids aV.rule aQ.1 aQ.2 aV.ids _ d4) (asK [0,1,2] Z) Z (H':=[_]) Z ?_))))))))))
  rotate_right
  focus
   refine Qk Qa 0 aJ.toNat 0 Z Z Z Zq Z Z Z c8 Qe QS (v:=fun aR=>.agg #[.int .i64 (aU.rule),.slice aR.1 aU.ids.length aR.2]) (fun _=>Z) (fun _=>Z) (fun aR _=>(Q3 (Qy [1] [] Z Z (xS hok 12 Z (Qk Qa 0 a1.toNat 0 Z Z Z Zq Z Z Z c9 Qe QS (v:=fun aQ=>.agg #[.int .i64 (aV.rule),.slice aQ.1 aV.ids.length aQ.2]) (fun _=>Z) (fun _=>Z) (fun aQ _=>(Q3 (Qy [1,2] [] Z Z (xS hok 13 Z (Q26 (args:=[.slice (some a7) a8 a9,.agg #[.int .i64 (aU.rule),.slice aR.1 aU.ids.length aR.2],.agg #[.int .i64 (aV.rule),.slice aQ.1 aV.ids.length aQ.2]]) [1] [0] Z Z Z Zq Z Z Z Q66 Z Z (QN N a7 a8 a9 l4 aU.rule aR.1 aR.2 aU.ids aV.rule aQ.1 aQ.2 aV.ids _ d4) (asK [1,0,2] Z) Z (H':=[_]) Z ?_))))))))))
  all_goals
   rintro _ _ _ ⟨rfl,rfl,rfl⟩
   refine Q3 (Qy [0,1,2] [] Z Z (xP hok 14 Z (xP hok 15 Z (xP hok 16 Z (QL hok Z ?_)))))
   have hE:=(Zi hm).symm
   refine Q1m [1,0] Z (H':=[_,_]) Z ?_
   refine Qp (!(decide (eX < 0))) hE [13,12,0,1,4,139] Z (asK [2] Z) Z
 ·
  refine QV [0,1,2,3,4,5,6,7,9,10,11,14,15,16] Z Z (fun hok=>(xP hok 0 Z (xP hok 1 Z (xP hok 2 Z (xP hok 3 Z (Q1e (d:=126) (v':=.bool false) (S':=V8 ..) Z Z (Q16 c7) (xO hok 4 Z (xO hok 5 Z (xO hok 6 Z (xO hok 7 Z (xO hok 9 Z (xO hok 10 Z (xO hok 11 Z ?_)))))))))))))
  refine Q1W hok 8 12 Z Z Z Z Z Z ?_ ?_
  rotate_left
  focus
   refine wO Z (Q3 (Qy [0] [] Z Z (xS hok 8 Z ?_)))
  rotate_right
  focus
   refine wO Z (Q3 (Qy [0] [] Z Z (xS hok 12 Z ?_)))
  all_goals
   refine wO Z (Q3 (Qy [0] [] Z Z (xS hok 13 Z (wO Z (Q3 (Qy [0] [] Z Z (xO hok 14 Z (xO hok 15 Z (xP hok 16 Z (QL hok Z ?_))))))))))
   have hE:=(Zi hm).symm
   refine Qp false hE [13,12,0,1,4,139] Z (asK [0] Z) Z
 rintro aM hE
 try dsimp only
 have hm:=hLj_12
 try rw [hE] at hm
 refine QA Z (fun cA=>?_) (fun cA=>?_)
 replace hm:=Q1z hm cA
 refine Q5 [13,12,0,1,4] (S':=V5 ..) Z (Qs (Q4 (Qm (Q2 (wP Z (wP Z ?_))))))
 obtain ⟨dW,hm⟩:=Qd hm
 refine Qz (d:=141) (v':=.int .i64 (aJ - 1)) (S':=V6 ..) Z Z (i64_in dW) (QI (S':=V6 ..) Z Z Z Z Z (Q3 (Qj ?_)))
 have hE:=(Zi hm).symm
 replace hE:=Q14 hLu5 hE
 refine Q1a (_,aJ - 1) (Nat.lt_succ_self _) hE [13,12,0,1,4] Z (asK [0] Z) Z
 replace hm:=Q1y hm cA
 refine Q5 [13,12,0,1,4] (S':=V5 ..) Z (Q19 (Qc (Qc (Qt ?_))))
 have hE:=(Zi hm).symm
 replace hE:=QO hLu5 hE
 refine Qp aJ hE [13,12,0,1,4] Z (asK [0] Z) Z
 rintro a4 hE
 try dsimp only
 have hm:=hLj_11
 try rw [hE] at hm
 refine Q6 (Q6 (Q2 (wP Z (wP Z (wP Z (Q3 (Q4 (Q5 [144,13,12,0,1,4] (S':=V6 ..) Z ?_))))))))
 refine QA Z (fun cB=>?_) (fun cB=>?_)
 replace hm:=Q1z hm cB
 refine Q5 [13,0,1] (S':=V3 ..) Z (Q19 (Qc (Q6W (by decide) (Qc (Qt ?_)))))
 have hE:=(Zi hm).symm
 replace hE:=QO hLu3 hE
 refine Qp (a4,aA) hE [13,0,1] Z (asK [0] Z) Z
 replace hm:=Q1y hm cB
 refine Q5 [13,12,0,1,4] (S':=V5 ..) Z (Qs (Q4 (Q6 ?_)))
 obtain ⟨dX,hm⟩:=Qd hm
 obtain ⟨bA,cC,hm⟩:=Q7 hm
 obtain ⟨dY,hm⟩:=Qd hm
 obtain ⟨bB,cD,hm⟩:=Q7 hm
 obtain ⟨d5,hm⟩:=Qd hm
 obtain ⟨f6,bQ,hm⟩:=Q7 hm
 obtain ⟨d6,hm⟩:=Qd hm
 obtain ⟨f7,bR,hm⟩:=Q7 hm
 refine Q18 (σ:=Unit) (fun _=>True) (fun _=>[(13,.int .i64 a4),(12,.int .i64 a6),(0,.slice aB aC aD),(1,.int .i64 a1),(4,.func (.func 41) #[.slice (some a7) a8 a9] #[])]) (fun _=>[tF]) (fun _=>[.own 45 2 Q9 (.slice aB aC aD) ((aA.set a6.toNat bA).set a4.toNat bB),.own 3 1 Qi (.slice (some a7) a8 a9) l4]) ?_ ?_
 refine QV [0,1,2,3,4,5,6,8,9,10,12,14] Z Z (fun hok=>(xP hok 0 Z (xP hok 1 Z (xP hok 2 Z (xP hok 3 Z (xP hok 4 Z (xP hok 5 Z (Q1F hok 6 0 a4.toNat Z Z Z Zq Z Z Z Z Z (QC dX) (Qw cC) QB Qe (fun f8 dZ=>?_)))))))))
 subst dZ
 refine xP hok 8 Z (xP hok 9 Z (QJ hok 10 0 a6.toNat Z Z Z Zq Z Z Z Z Z (QC dY) (Qw cD) QB Qe ?_))
 refine Q1W hok 7 11 Z Z Z Z Z Z ?_ ?_
 refine Qk Qa 0 a4.toNat 0 Z Z Z Zq Z Z Z cC Qe QS (v:=fun b0=>.agg #[.int .i64 (bA.rule),.slice b0.1 bA.ids.length b0.2]) (fun _=>Z) (fun _=>Z) (fun b0 _=>(Q3 (Qy [1] [] Z Z (xS hok 11 Z (Qk Qa 0 a6.toNat 0 Z Z Z Zq Z Z Z cD Qe QS (v:=fun b1=>.agg #[.int .i64 (bB.rule),.slice b1.1 bB.ids.length b1.2]) (fun _=>Z) (fun _=>Z) (fun b1 _=>(Q3 (Qy [1,2] [] Z Z (QJ hok 12 0 a6.toNat Z Z Z Zq Z Z Z Z Z (QC d5) (Qw bQ) QB Qe (xS hok 13 Z (QU (u:=bA) 0 a6.toNat Z Z Z Z Z (Qw bQ) Z Z Qe Z (fun F w hφ=>⟨(b0.1,b0.2),Z,(Qh (hφ _ (Qu (k:=1) Z)) Qv)⟩) (H':=[_,_]) Z (Q3 (Qy [0,1,2] [] Z Z (QJ hok 14 0 a4.toNat Z Z Z Zq Z Z Z Z Z (QC d6) (Qw bR) QB Qe (xS hok 15 Z ?_)))))))))))))))
 refine QU (u:=bB) 0 a4.toNat Z Z Z Z Z (Qw bR) Z Z Qe Z (fun F w hφ=>⟨(b1.1,b1.2),Z,(Qh (hφ _ (Qu (k:=0) Z)) Qv)⟩) (H':=[_,_]) Z (Q3 (Qy [0,1,2] [] Z Z (QL hok Z ?_)))
 refine Qp () trivial [13,12,0,1,4] Z (asK [2] Z) Z
 refine Qk Qa 0 a6.toNat 0 Z Z Z Zq Z Z Z cD Qe QS (v:=fun b1=>.agg #[.int .i64 (bB.rule),.slice b1.1 bB.ids.length b1.2]) (fun _=>Z) (fun _=>Z) (fun b1 _=>(Q3 (Qy [1] [] Z Z (xS hok 7 Z (Qk Qa 0 a4.toNat 0 Z Z Z Zq Z Z Z cC Qe QS (v:=fun b0=>.agg #[.int .i64 (bA.rule),.slice b0.1 bA.ids.length b0.2]) (fun _=>Z) (fun _=>Z) (fun b0 _=>(Q3 (Qy [1,2] [] Z Z (QJ hok 12 0 a6.toNat Z Z Z Zq Z Z Z Z Z (QC d5) (Qw bQ) QB Qe (xS hok 13 Z (QU (u:=bA) 0 a6.toNat Z Z Z Z Z (Qw bQ) Z Z Qe Z (fun F w hφ=>⟨(b0.1,b0.2),Z,(Qh (hφ _ (Qu (k:=0) Z)) Qv)⟩) (H':=[_,_]) Z (Q3 (Qy [0,1,2] [] Z Z (QJ hok 14 0 a4.toNat Z Z Z Zq Z Z Z Z Z (QC d6) (Qw bR) QB Qe (xS hok 15 Z ?_)))))))))))))))
 refine QU (u:=bB) 0 a4.toNat Z Z Z Z Z (Qw bR) Z Z Qe Z (fun F w hφ=>⟨(b1.1,b1.2),Z,(Qh (hφ _ (Qu (k:=1) Z)) Qv)⟩) (H':=[_,_]) Z (Q3 (Qy [0,1,2] [] Z Z (QL hok Z ?_)))
 refine Qp () trivial [13,12,0,1,4] Z (asK [2] Z) Z
 rintro _ _
 try dsimp only
 refine Q6 (Q2 (wP Z (wP Z ?_)))
 obtain ⟨e0,hm⟩:=Qd hm
 refine Qz (d:=160) (v':=.int .i64 (a6 + 1)) (S':=V6 ..) Z Z (i64_in e0) (QI (S':=V6 ..) Z Z Z Z Z (Q3 (Q4 (Q5 [12,13,0,1,4] (S':=V5 ..) Z (Q2 (wP Z (wP Z ?_)))))))
 obtain ⟨e1,hm⟩:=Qd hm
 refine Qz (d:=162) (v':=.int .i64 (a4 - 1)) (S':=V6 ..) Z Z (i64_in e1) (QI (S':=V6 ..) Z Z Z Z Z (Q3 (Qj ?_)))
 have hE:=(Zi hm).symm
 replace hE:=Q14 hLu3 hE
 refine Q1a (_,a4 - 1,a6 + 1,(aA.set a6.toNat bA).set a4.toNat bB) (Nat.lt_succ_self _) hE [13,12,0,1,4] Z (asK [0] Z) Z
 rintro ⟨aE,aN⟩ hE
 try dsimp only
 have hm:=hLj_8
 try rw [hE] at hm
 try dsimp only at hm
 refine Q6 ?_
 obtain ⟨e2,hm⟩:=Qd hm
 obtain ⟨bM,cE,hm⟩:=Q7 hm
 obtain ⟨e4,hm⟩:=Qd hm
 obtain ⟨bN,cF,hm⟩:=Q7 hm
 obtain ⟨d7,hm⟩:=Qd hm
 obtain ⟨f9,bS,hm⟩:=Q7 hm
 obtain ⟨d8,hm⟩:=Qd hm
 obtain ⟨fA,bT,hm⟩:=Q7 hm
 refine Q18 (σ:=Unit) (fun _=>True) (fun _=>[(13,.int .i64 aE)]) (fun _=>[tF]) (fun _=>[.own 45 2 Q9 (.slice aB aC aD) ((aN.set aE.toNat bM).set a1.toNat bN),.own 3 1 Qi (.slice (some a7) a8 a9) l4]) ?_ ?_
 refine QV [0,1,2,3,4,5,6,8,9,10,12,14] Z Z (fun hok=>(xP hok 0 Z (xP hok 1 Z (xP hok 2 Z (xP hok 3 Z (xP hok 4 Z (xP hok 5 Z (Q1F hok 6 0 a1.toNat Z Z Z Zq Z Z Z Z Z (QC e2) (Qw cE) QB Qe (fun fB e5=>?_)))))))))
 subst e5
 refine xP hok 8 Z (xP hok 9 Z (QJ hok 10 0 aE.toNat Z Z Z Zq Z Z Z Z Z (QC e4) (Qw cF) QB Qe ?_))
 refine Q1W hok 7 11 Z Z Z Z Z Z ?_ ?_
 refine Qk Qa 0 a1.toNat 0 Z Z Z Zq Z Z Z cE Qe QS (v:=fun b2=>.agg #[.int .i64 (bM.rule),.slice b2.1 bM.ids.length b2.2]) (fun _=>Z) (fun _=>Z) (fun b2 _=>(Q3 (Qy [1] [] Z Z (xS hok 11 Z (Qk Qa 0 aE.toNat 0 Z Z Z Zq Z Z Z cF Qe QS (v:=fun b3=>.agg #[.int .i64 (bN.rule),.slice b3.1 bN.ids.length b3.2]) (fun _=>Z) (fun _=>Z) (fun b3 _=>(Q3 (Qy [1,2] [] Z Z (QJ hok 12 0 aE.toNat Z Z Z Zq Z Z Z Z Z (QC d7) (Qw bS) QB Qe (xS hok 13 Z (QU (u:=bM) 0 aE.toNat Z Z Z Z Z (Qw bS) Z Z Qe Z (fun F w hφ=>⟨(b2.1,b2.2),Z,(Qh (hφ _ (Qu (k:=1) Z)) Qv)⟩) (H':=[_,_]) Z (Q3 (Qy [0,1,2] [] Z Z (QJ hok 14 0 a1.toNat Z Z Z Zq Z Z Z Z Z (QC d8) (Qw bT) QB Qe (xS hok 15 Z ?_)))))))))))))))
 refine QU (u:=bN) 0 a1.toNat Z Z Z Z Z (Qw bT) Z Z Qe Z (fun F w hφ=>⟨(b3.1,b3.2),Z,(Qh (hφ _ (Qu (k:=0) Z)) Qv)⟩) (H':=[_,_]) Z (Q3 (Qy [0,1,2] [] Z Z (QL hok Z ?_)))
 refine Qp () trivial [13] Z (asK [2] Z) Z
 refine Qk Qa 0 aE.toNat 0 Z Z Z Zq Z Z Z cF Qe QS (v:=fun b3=>.agg #[.int .i64 (bN.rule),.slice b3.1 bN.ids.length b3.2]) (fun _=>Z) (fun _=>Z) (fun b3 _=>(Q3 (Qy [1] [] Z Z (xS hok 7 Z (Qk Qa 0 a1.toNat 0 Z Z Z Zq Z Z Z cE Qe QS (v:=fun b2=>.agg #[.int .i64 (bM.rule),.slice b2.1 bM.ids.length b2.2]) (fun _=>Z) (fun _=>Z) (fun b2 _=>(Q3 (Qy [1,2] [] Z Z (QJ hok 12 0 aE.toNat Z Z Z Zq Z Z Z Z Z (QC d7) (Qw bS) QB Qe (xS hok 13 Z (QU (u:=bM) 0 aE.toNat Z Z Z Z Z (Qw bS) Z Z Qe Z (fun F w hφ=>⟨(b2.1,b2.2),Z,(Qh (hφ _ (Qu (k:=0) Z)) Qv)⟩) (H':=[_,_]) Z (Q3 (Qy [0,1,2] [] Z Z (QJ hok 14 0 a1.toNat Z Z Z Zq Z Z Z Z Z (QC d8) (Qw bT) QB Qe (xS hok 15 Z ?_)))))))))))))))
 refine QU (u:=bN) 0 a1.toNat Z Z Z Z Z (Qw bT) Z Z Qe Z (fun F w hφ=>⟨(b3.1,b3.2),Z,(Qh (hφ _ (Qu (k:=1) Z)) Qv)⟩) (H':=[_,_]) Z (Q3 (Qy [0,1,2] [] Z Z (QL hok Z ?_)))
 refine Qp () trivial [13] Z (asK [2] Z) Z
 rintro _ _
 try dsimp only
 refine Q6 (Q2 (wP Z (wP Z (wP Z (Q3 (Q4 (Q5 [11,10] (S':=[_,_]) Z (QP ?_))))))))
 have hE:=(Zi hm).symm
 obtain ⟨hE0,hF1⟩:=Prod.mk.inj hE
 obtain ⟨hE1,hE2⟩:=Prod.mk.inj hF1
 clear hE hF1
 replace hE0:=hE0.symm
 subst hE0
 replace hE1:=hE1.symm
 subst hE1
 replace hE2:=hE2.symm
 subst hE2
 refine Q7e (Hr:=[_,_]) [0,1] Tryz.results155 (QD Z) (QD Z) ⟨Z,Z,Z⟩ (asK [] Z) Z Z (.inl Z)
theorem Q90 (N:Nat) (a0:Int) (o0:Int) (hm:Q4Z N a0 = some o0):Q1R Tryz.prog 174 [.int .i64 a0] [tF] [] (fun v Φr Hr=>v = .int .u64 o0 ∧ Φr = [] ∧ Hr = []):=by
 unfold Q4Z at hm
 refine QZ Tryz.func174 Z Tryz.ntmps174 Z (S:=[_]) Z (fun C=>(Q6 (Q2 (wP Z (Q3 (Q4 (Q5 [0] (S':=[_]) Z (Q6 (Q2 (wP Z (Q9M Z Z Z Zq (rk_conv Z Z tI_3 tI_157) ?_)))))))))))
 obtain ⟨v5,hc5,hm⟩:=Q7 hm
 refine wC [] [] Z fn_97 Z (w_bits_Len_s N (IntKind.wrap .u64 a0) _ hc5) (asK [0] Z) Z (H':=[]) Z ?_
 rintro _ _ _ ⟨rfl,rfl,rfl⟩
 obtain ⟨hg6,hm⟩:=Qd hm
 refine Q5q Z Z Z Zq Z Z Z (run_shl hg6) (wP Z (Q3 (Q4 (Q5 [2] (S':=[_]) Z (QP ?_)))))
 have hE:=(Zi hm).symm
 replace hE:=hE.symm
 subst hE
 refine QH (Hr:=[]) [] Tryz.results174 (QD Z) ⟨Z,Z,Z⟩ (asK [] Z) Z Z (.inl Z)
end Go.Proofs.YtgangmegcejllaaGreatDoor
