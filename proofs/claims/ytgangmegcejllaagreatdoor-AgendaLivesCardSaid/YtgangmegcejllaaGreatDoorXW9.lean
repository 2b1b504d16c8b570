import Derived.Test.YtgangmegcejllaaGreatDoorXW8
namespace Go.Proofs.YtgangmegcejllaaGreatDoor
open Go.RowKit
set_option maxRecDepth 100000
set_option maxHeartbeats 4000000
theorem Q8f (N:Nat) (e6:OA) (e7:Nat) (l0:List Int) (bT:OA) (bU:Nat) (l1:List Q3c) (o0:Bool) (hm:Q4d N l0 l1 = some o0):Q1R Tryz.prog 3 [.slice e6 l0.length e7,.slice bT l1.length bU] [.sli 1 Qi e6 e7 l0,.sli 3 Q2p bT bU l1,tF] [] (fun v Φr Hr=>v = .bool o0 ∧ Φr = [] ∧ Hr = []):=by
 unfold Q4d at hm
 refine QZ Tryz.func3 Z Tryz.ntmps3 Z (S:=[_,_]) Z (fun C=>(Q6 (Q2 (wP Z (Q3 (Q4 (Q5 [0,1] (S':=[_,_]) Z (Q6 (Q6 (Q2 (wP Z (wN Z Q1j (wP Z (Qz (d:=21) (v':=.bool (decide (400 < l0.length))) (S':=V4 ..) Z Z (natgt (a:=l0.length) (b:=400)) ?_))))))))))))))
 refine Q3 (Q4 (Q5 [21,0,1] (S':=V3 ..) Z ?_))
 refine QA Z (fun dG=>?_) (fun dG=>?_)
 replace hm:=Q1z hm dG
 refine Q5 [] (S':=[]) Z (Q6 (Q2 ?_))
 obtain ⟨_,f3,hm⟩:=Q7 hm
 try dsimp only at hm
 refine wC [] [] Z fn_5 Z (Q5J N  f3) (asK [2] Z) Z (H':=[]) Z ?_
 rintro _ _ _ ⟨rfl,rfl,rfl⟩
 refine wP Z (Q3 (Q4 (Q5 [4] (S':=[_]) Z (QP (Qn ?_)))))
 have hE:=(Zi hm).symm
 replace hE:=hE.symm
 subst hE
 refine QH (Hr:=[]) [] Tryz.results3 (QD Z) ⟨Z,Z,Z⟩ (asK [] Z) Z Z (.inl Z)
 replace hm:=Q1y hm dG
 refine Q5 [0,1] (S':=[_,_]) Z (Qs (Q4 (Q6 (Q2 (wP Z ?_)))))
 obtain ⟨bV,f4,hm⟩:=Q7 hm
 refine wC [] [] Z fn_6 Z (Qa7 N e6 e7 l0 _ f4) (asK [0,2] Z) Z (H':=[]) Z ?_
 rintro _ _ _ ⟨bR,bS,g2,rfl,rfl,rfl⟩
 refine Q25 Z Z Z Zq Z tZ_28 Z (fun g5=>(wS 0 0 Z Q6s (all':=[_,_]) Z (H':=[_,_]) Z (Q3 (Q4 (Q5 [5,1] (S':=[_,_]) Z (Q6 (Q2 (Q1V 0 0 Z Z Z Zq Z Z Z (cs:=[_,_]) Z Q6s Q7a Z Z (Q4Q (.sli 2 QR none 0 ([] : List Qr)) (fun _ _ _=>Q5n) (QK 1 Z (fun dH _=>?_)))))))))))
 subst dH
 obtain ⟨_ | e8,dY,hm⟩:=Q7 hm
 try dsimp only at hm
 refine wC [1] [0] Z fn_7 Z (Qai N none 0 ([] : List Qr) bR bV.length bS bV dY) (asK [0,3] Z) Z (H':=[_]) Z ?_
 rintro _ _ _ ⟨rfl,rfl,rfl⟩
 refine wP Z (Q3 (Q4 (Q5 [6,5,1] (S':=V3 ..) Z (Q6 (Q2 (Q1V 1 0 Z Z Z Zq Z Z Z (cs:=[_,_]) Z Q6s Q7a Z Z (Q4Q (.sli 2 QR none 0 ([] : List Qr)) (fun _ _ _=>Q5n) ?_)))))))
 obtain ⟨_ | c0,c8,hm⟩:=Q7 hm
 try dsimp only at hm
 refine wC [0] [1] Z fn_8 Z (Q7j N none 0 ([] : List Qr) bR bV.length bS bV c8) (asK [0,4] Z) Z (H':=[_]) Z ?_
 rintro _ _ _ ⟨rfl,rfl,rfl⟩
 refine wP Z (wP Z (wP Z (wP Z (wP Z (Q3 (Q4 (Q5 [8,7,6,5,1] (S':=V5 ..) Z (Q6 (Q6 (Q2 (wP Z (Q5q Z Z Z Zq Z Z Z (neqP tQ_30 _ _ _) (wP Z ?_)))))))))))))
 refine Q5q Z Z Z Zq Z Z Z (neqB _ _ false false) (Qz (d:=35) (v':=.bool false) (S':=V8 ..) Z Z Z (Q3 (Q4 (Q5 [35,8,7,6,5,1] (S':=V6 ..) Z (Q4q Z (Q5 [8,7,6,5,1] (S':=V5 ..) Z (Qs (Q4 (Q6 ?_)))))))))
 obtain ⟨dZ,hm,hLj_3⟩:=Q7 hm
 refine Q18 (σ:=Unit) (fun _=>dZ = ()) (fun _=>[(8,.bool false),(7,.pointer none),(6,.pointer none),(1,.slice bT l1.length bU)]) (fun _=>[.sli 3 Q2p bT bU l1,tF]) (fun _=>[]) ?_ ?_
 refine Q6 (Q2 (wP Z (Q3 (Q4 (Qm (Q6L [1,0] Z (H':=[_,_]) Z (Q1f (σ:=Nat × Nat × (List QG)) (fun (cB,bN,aG)=>Q1o (Q4s N) cB (bN,aG) = some dZ) (fun (cB,bN,aG)=>cB) (fun (cB,bN,aG)=>[(9,.int .i64 ((bN:Nat):Int)),(8,.bool false),(7,.pointer none),(6,.pointer none),(5,.pointer (some ⟨g5,0,none⟩)),(1,.slice bT l1.length bU)]) (fun (cB,bN,aG)=>[.sli 3 Q2p bT bU l1,tF]) (fun (cB,bN,aG)=>[.blk g5 [V1,.slice bR bV.length bS] 28,.own 38 5 QM (.slice bR bV.length bS) aG]) (N,0,bV) hm [9,8,7,6,5,1] Z (asK [3,4] Z) Z (fun s_ hm=>?_))))))))
 obtain ⟨cB,bN,aG⟩:=s_
 try dsimp only at hm ⊢
 obtain ⟨gH,gI,f5,hq,hLu1⟩:=Q1d hm
 clear hm
 subst f5
 replace hm:=hq
 clear hq
 unfold Q4s at hm
 try dsimp only at hm
 refine Q6 (Q6 (Q2 (wP Z (wF Z Q5u (wD 0 1 Z Q7r Q7U Z (QK 1 Z (fun dI _=>(wN Z Q72 (Qz (d:=39) (v':=.int .i64 ((aG.length:Nat):Int)) (S':=V9 ..) Z Z (Q4A dI) (wP Z (Qz (d:=40) (v':=.bool (decide (bN < aG.length))) (S':=V10 ..) Z Z (Q3f (a:=bN) (b:=aG.length)) (Q3 (Q4 (Q5 [40,9,8,7,6,5,1] (S':=V7 ..) Z ?_))))))))))))))
 refine QA Z (fun c1=>?_) (fun c1=>?_)
 replace hm:=Q1z hm c1
 refine Q5 [9,8,7,6,5,1] (S':=V6 ..) Z (Qs (Q4 (Q6 (Qm ?_))))
 obtain ⟨cC,c9,hm⟩:=Q7 hm
 obtain ⟨bW,cA,hm⟩:=Q7 hm
 refine QV [0,1,2,3,4,5,6,7,9,10,11] Z Z (fun hok=>(Ql hok 0 Z Z Z Zq Z Z Z Q5u (Qq hok 1 0 1 Z Z Z Zq Z Z Z Z (cs:=[_]) Z Q7r Q7U Z Z (xP hok 2 Z (Ql hok 3 Z Z Z Zq Z Z Z Q5u (Qq hok 4 0 1 Z Z Z Zq Z Z Z Z (cs:=[_]) Z Q7r Q7U Z Z (xP hok 5 Z (Q1F hok 6 1 bN Z Z Z Zq Z Z Z Z Z Z (Qw c9) Q72 Q7V (fun g3 dJ=>?_)))))))))
 subst dJ
 refine Ql hok 7 Z Z Z Zq Z Z Z tF_38_1 (xS hok 8 Z (Qk Q6g 1 bN 1 Z Z Z Zq Z Z Z c9 Q1w Q3z (v:=fun e9=>.int .i64 (cC.salience)) (fun _=>Z) (fun _=>Z) (fun e9 _=>(Q3 (Qy [2,3] [0,0] Z Z (wx_reck hok 9 Z Z Z Zq Z (rk_neg Z Z) (QJ hok 10 1 bN Z Z Z Zq Z Z Z Z Z Z (Qw cA) Q72 Q7V (Ql hok 11 Z Z Z Zq Z Z Z tF_38_1 (xS hok 12 Z (wl_storePart (u:=(⟨bW.name,IntKind.wrap .i64 (0 - cC.salience),bW.vars,bW.conds,bW.acts⟩ : QG)) 1 bN 1 Z Z Z Z Z cA Z Z Q1w Z Z (fun F w hφ ds hd=>by obtain ⟨bY,rfl,hf⟩:=hd; exact ⟨((bY.1.1,bY.1.2),(bY.2.1,bY.2.2)),Z,(Qh (hf _ (Qu (k:=0) Z)) (Qh (hf _ (Qu (k:=1) Z)) Qv))⟩) Z (H':=[_,_]) Z (Q3 (Qy [0,1,2,3] [] Z Z (QL hok Z (Qj ?_))))))))))))))
 refine Q4 (Q5 [9,8,7,6,5,1] (S':=V6 ..) Z (Q2 (wP Z (wP Z ?_))))
 obtain ⟨dK,hm⟩:=Qd hm
 refine Qz (d:=42) (v':=.int .i64 ((bN + 1:Nat):Int)) (S':=V7 ..) Z Z (Q1i (a:=bN) (b:=1) dK) (QI (S':=V7 ..) Z Z Z Z Z (Q3 ?_))
 have hE:=(Zi hm).symm
 replace hE:=Q14 hLu1 hE
 refine Q1a (_,bN + 1,(aG.set bN (⟨bW.name,IntKind.wrap .i64 (0 - cC.salience),bW.vars,bW.conds,bW.acts⟩ : QG))) (Nat.lt_succ_self _) hE [9,8,7,6,5,1] Z (asK [2,3] Z) Z
 replace hm:=Q1y hm c1
 refine Q5 [8,7,6,1] (S':=V4 ..) Z (Q19 (Qc (Qc (Qt ?_))))
 have hE:=(Zi hm).symm
 replace hE:=QO hLu1 hE
 refine Q1m [] Z (H':=[]) Z ?_
 refine Qp () hE [8,7,6,1] Z (asK [0,1] Z) Z
 rintro _ hE
 try dsimp only
 have hm:=hLj_3
 try rw [hE] at hm
 try dsimp only at hm
 refine Q6 (Q6 (Q2 (wP Z (Q3 (Q4 (Qm (Q1f (σ:=Unit) (fun _=>True) (fun _=>0) (fun _=>[(10,.int .i64 0),(8,.bool false),(7,.pointer none),(6,.pointer none),(1,.slice bT l1.length bU)]) (fun _=>[.sli 3 Q2p bT bU l1,tF]) (fun _=>[]) () trivial [10,8,7,6,1] Z (asK [0,1] Z) Z (fun _ _=>?_))))))))
 try dsimp only
 refine Q6 (Q6 ?_)
 obtain ⟨f6,hm,hLj_4⟩:=Q7 hm
 refine Q18 (σ:=Unit) (fun _=>f6 = ()) (fun _=>[(10,.int .i64 0),(8,.bool false),(7,.pointer none),(6,.pointer none),(1,.slice bT l1.length bU),(65,.bool false)]) (fun _=>[.sli 3 Q2p bT bU l1,tF]) (fun _=>[]) ?_ ?_
 refine Q2 (wP Z (wP Z (wN Z tE_23 (wP Z (Qz (d:=58) (v':=.bool (decide (0 < l1.length))) (S':=V8 ..) Z Z (Q3f (a:=0) (b:=l1.length)) (wP Z ?_))))))
 refine Q5F (d:=59) (S':=V9 ..) Z Z (fun c2=>?_) (fun c2=>?_)
 replace hm:=Q1z hm c2
 refine wP Z (wP Z (Qz (d:=61) (v':=.bool true) (S':=V11 ..) Z Z Z (wP Z (wP Z (wP Z (wP Z (Q3 ?_)))))))
 have hE:=(Zi hm).symm
 refine Qp () hE [10,8,7,6,1,65] Z (asK [0,1] Z) Z
 replace hm:=Q1y hm c2
 refine wO Z (wO Z (wP Z (wP Z (wO Z (wP Z (Q3 ?_))))))
 have hE:=(Zi hm).symm
 refine Qp () hE [10,8,7,6,1,65] Z (asK [0,1] Z) Z
 rintro _ hE
 try dsimp only
 have hm:=hLj_4
 try rw [hE] at hm
 try dsimp only at hm
 refine Q4q Z (Q5 [8,7,6] (S':=V3 ..) Z (Q19 (Qc (Qc (Qt (Q4 (Q6 (Q6 (Q2 (wP Z (wP Z (Q3 (Q4 ?_)))))))))))))
 refine Q5 [111,7,6] (S':=V3 ..) Z (wc_true Z (Q5 [] (S':=[]) Z (Q6 (Q2 ?_))))
 obtain ⟨_,eA,hm⟩:=Q7 hm
 try dsimp only at hm
 refine wC [] [] Z fn_5 Z (Q5J N  eA) (asK [1] Z) Z (H':=[]) Z ?_
 rintro _ _ _ ⟨rfl,rfl,rfl⟩
 refine wP Z (Q3 (Q4 (Q5 [4] (S':=[_]) Z (QP (Qn ?_)))))
 have hE:=(Zi hm).symm
 replace hE:=hE.symm
 subst hE
 refine QH (Hr:=[]) [] Tryz.results3 (QD Z) ⟨Z,Z,Z⟩ (asK [] Z) Z Z (.inl Z)
 try dsimp only at hm
 refine wC [0] [1] Z fn_8 Z (Q7k N none 0 ([] : List Qr) bR bV.length bS bV _ c8) (asK [0,4] Z) Z (H':=[_]) Z ?_
 rintro _ _ _ ⟨bC,bD,bE,bF,bG,bH,rfl,rfl,rfl⟩
 refine wP Z (wP Z (wP Z (wP Z (wP Z (Q3 (Q4 (Q5 [8,7,6,5,1] (S':=V5 ..) Z (Q6 (Q6 (Q2 (wP Z (Q5q Z Z Z Zq Z Z Z (neqP tQ_30 _ _ _) (wP Z ?_)))))))))))))
 refine Q5q Z Z Z Zq Z Z Z (neqB _ _ false true) (Qz (d:=35) (v':=.bool true) (S':=V8 ..) Z Z Z (Q3 (Q4 (Q5 [35,8,7,6,5,1] (S':=V6 ..) Z (wc_true Z (Q5 [] (S':=[]) Z (Q6 (Q2 (wP Z (Q3 (Q4 (QP (Qn ?_)))))))))))))
 have hE:=(Zi hm).symm
 replace hE:=hE.symm
 subst hE
 refine QH (Hr:=[]) [] Tryz.results3 (QD Z) ⟨Z,Z,Z⟩ (asK [] Z) Z Z (.inl Z)
 try dsimp only at hm
 refine wC [1] [0] Z fn_7 Z (Q8K N none 0 ([] : List Qr) bR bV.length bS bV _ dY) (asK [0,3] Z) Z (H':=[_]) Z ?_
 rintro _ _ _ ⟨aF,b7,b8,b9,c3,rfl,rfl,rfl⟩
 refine wP Z (Q3 (Q4 (Q5 [6,5,1] (S':=V3 ..) Z (Q6 (Q2 (Q1V 4 0 Z Z Z Zq Z Z Z (cs:=[_,_]) Z Q6s Q7a Z Z (Q4Q (.sli 2 QR none 0 ([] : List Qr)) (fun _ _ _=>Q5n) ?_)))))))
 obtain ⟨_ | c0,c8,hm⟩:=Q7 hm
 try dsimp only at hm
 refine wC [3] [0,1,2,4] Z fn_8 Z (Q7j N none 0 ([] : List Qr) bR bV.length bS bV c8) (asK [0,4] Z) Z (H':=V4 ..) Z ?_
 rintro _ _ _ ⟨rfl,rfl,rfl⟩
 refine wP Z (wP Z (wP Z (wP Z (wP Z (Q3 (Q4 (Q5 [8,7,6,5,1] (S':=V5 ..) Z (Q6 (Q6 (Q2 (wP Z (Q5q Z Z Z Zq Z Z Z (neqP tQ_30 _ _ _) (wP Z ?_)))))))))))))
 refine Q5q Z Z Z Zq Z Z Z (neqB _ _ true false) (Qz (d:=35) (v':=.bool true) (S':=V8 ..) Z Z Z (Q3 (Q4 (Q5 [35,8,7,6,5,1] (S':=V6 ..) Z (wc_true Z (Q5 [] (S':=[]) Z (Q6 (Q2 (wP Z (Q3 (Q4 (QP (Qn ?_)))))))))))))
 have hE:=(Zi hm).symm
 replace hE:=hE.symm
 subst hE
 refine QH (Hr:=[]) [] Tryz.results3 (QD Z) ⟨Z,Z,Z⟩ (asK [] Z) Z Z (.inl Z)
 try dsimp only at hm
 refine wC [3] [0,1,2,4] Z fn_8 Z (Q7k N none 0 ([] : List Qr) bR bV.length bS bV _ c8) (asK [0,4] Z) Z (H':=V4 ..) Z ?_
 rintro _ _ _ ⟨bC,bD,bE,bF,bG,bH,rfl,rfl,rfl⟩
 refine wP Z (wP Z (wP Z (wP Z (wP Z (Q3 (Q4 (Q5 [8,7,6,5,1] (S':=V5 ..) Z (Q6 (Q6 (Q2 (wP Z (Q5q Z Z Z Zq Z Z Z (neqP tQ_30 _ _ _) (wP Z ?_)))))))))))))
 refine Q5q Z Z Z Zq Z Z Z (neqB _ _ true true) (Qz (d:=35) (v':=.bool false) (S':=V8 ..) Z Z Z (Q3 (Q4 (Q5 [35,8,7,6,5,1] (S':=V6 ..) Z (Q4q Z (Q5 [8,7,6,5,1] (S':=V5 ..) Z (Qs (Q4 (Q6 ?_)))))))))
 obtain ⟨e0,hm,hLj_6⟩:=Q7 hm
 refine Q18 (σ:=Unit) (fun _=>e0 = ()) (fun _=>[(8,.bool true),(7,.pointer (some ⟨bC,0,none⟩)),(6,.pointer (some ⟨aF,0,none⟩)),(1,.slice bT l1.length bU)]) (fun _=>[.sli 3 Q2p bT bU l1,tF]) (fun _=>[.blk bC [.slice bD ((([] : List Qr)).length) bE,.slice bF bH bG,V1,V1] 70,.own 213 2 QR (.slice bD ((([] : List Qr)).length) bE) ([] : List Qr),.own 38 5 QM (.slice bF bH bG) c0,.blk aF [.slice (some b7) b9 b8,V1,V1,.map (some c3)] 66,.own 3 1 Qi (.slice (some b7) b9 b8) e8,Q2s (Q1g (QQ Q2t)) false QW c3 ([] : List (ByteArray × Bool))]) ?_ ?_
 refine Q6 (Q2 (wP Z (Q3 (Q4 (Qm (Q6L [0,1,2,4,5,6,7,3] Z (H':=V8 ..) Z (Q1f (σ:=Nat × Nat × (List QG)) (fun (cD,bO,aH)=>Q1o (Q4t N) cD (bO,aH) = some e0) (fun (cD,bO,aH)=>cD) (fun (cD,bO,aH)=>[(9,.int .i64 ((bO:Nat):Int)),(8,.bool true),(7,.pointer (some ⟨bC,0,none⟩)),(6,.pointer (some ⟨aF,0,none⟩)),(5,.pointer (some ⟨g5,0,none⟩)),(1,.slice bT l1.length bU)]) (fun (cD,bO,aH)=>[.sli 3 Q2p bT bU l1,tF]) (fun (cD,bO,aH)=>[.blk bC [.slice bD ((([] : List Qr)).length) bE,.slice bF bH bG,V1,V1] 70,.own 213 2 QR (.slice bD ((([] : List Qr)).length) bE) ([] : List Qr),.own 38 5 QM (.slice bF bH bG) c0,.blk aF [.slice (some b7) b9 b8,V1,V1,.map (some c3)] 66,.own 3 1 Qi (.slice (some b7) b9 b8) e8,Q2s (Q1g (QQ Q2t)) false QW c3 ([] : List (ByteArray × Bool)),.blk g5 [V1,.slice bR bV.length bS] 28,.own 38 5 QM (.slice bR bV.length bS) aH]) (N,0,bV) hm [9,8,7,6,5,1] Z (asK [3,4] Z) Z (fun s_ hm=>?_))))))))
 obtain ⟨cD,bO,aH⟩:=s_
 try dsimp only at hm ⊢
 obtain ⟨gJ,gK,f7,hq,hLu3⟩:=Q1d hm
 clear hm
 subst f7
 replace hm:=hq
 clear hq
 unfold Q4t at hm
 try dsimp only at hm
 refine Q6 (Q6 (Q2 (wP Z (wF Z Q5u (wD 6 1 Z Q7r Q7U Z (QK 7 Z (fun dI _=>(wN Z Q72 (Qz (d:=39) (v':=.int .i64 ((aH.length:Nat):Int)) (S':=V9 ..) Z Z (Q4A dI) (wP Z (Qz (d:=40) (v':=.bool (decide (bO < aH.length))) (S':=V10 ..) Z Z (Q3f (a:=bO) (b:=aH.length)) (Q3 (Q4 (Q5 [40,9,8,7,6,5,1] (S':=V7 ..) Z ?_))))))))))))))
 refine QA Z (fun c1=>?_) (fun c1=>?_)
 replace hm:=Q1z hm c1
 refine Q5 [9,8,7,6,5,1] (S':=V6 ..) Z (Qs (Q4 (Q6 (Qm ?_))))
 obtain ⟨cC,c9,hm⟩:=Q7 hm
 obtain ⟨bW,cA,hm⟩:=Q7 hm
 refine QV [0,1,2,3,4,5,6,7,9,10,11] Z Z (fun hok=>(Ql hok 0 Z Z Z Zq Z Z Z Q5u (Qq hok 1 6 1 Z Z Z Zq Z Z Z Z (cs:=[_]) Z Q7r Q7U Z Z (xP hok 2 Z (Ql hok 3 Z Z Z Zq Z Z Z Q5u (Qq hok 4 6 1 Z Z Z Zq Z Z Z Z (cs:=[_]) Z Q7r Q7U Z Z (xP hok 5 Z (Q1F hok 6 7 bO Z Z Z Zq Z Z Z Z Z Z (Qw c9) Q72 Q7V (fun g3 dJ=>?_)))))))))
 subst dJ
 refine Ql hok 7 Z Z Z Zq Z Z Z tF_38_1 (xS hok 8 Z (Qk Q6g 7 bO 1 Z Z Z Zq Z Z Z c9 Q1w Q3z (v:=fun e9=>.int .i64 (cC.salience)) (fun _=>Z) (fun _=>Z) (fun e9 _=>(Q3 (Qy [2,3] [6,6] Z Z (wx_reck hok 9 Z Z Z Zq Z (rk_neg Z Z) (QJ hok 10 7 bO Z Z Z Zq Z Z Z Z Z Z (Qw cA) Q72 Q7V (Ql hok 11 Z Z Z Zq Z Z Z tF_38_1 (xS hok 12 Z (wl_storePart (u:=(⟨bW.name,IntKind.wrap .i64 (0 - cC.salience),bW.vars,bW.conds,bW.acts⟩ : QG)) 7 bO 1 Z Z Z Z Z cA Z Z Q1w Z Z (fun F w hφ ds hd=>by obtain ⟨bY,rfl,hf⟩:=hd; exact ⟨((bY.1.1,bY.1.2),(bY.2.1,bY.2.2)),Z,(Qh (hf _ (Qu (k:=0) Z)) (Qh (hf _ (Qu (k:=1) Z)) Qv))⟩) Z (H':=V8 ..) Z (Q3 (Qy [0,1,2,3] [] Z Z (QL hok Z (Qj ?_))))))))))))))
 refine Q4 (Q5 [9,8,7,6,5,1] (S':=V6 ..) Z (Q2 (wP Z (wP Z ?_))))
 obtain ⟨dK,hm⟩:=Qd hm
 refine Qz (d:=42) (v':=.int .i64 ((bO + 1:Nat):Int)) (S':=V7 ..) Z Z (Q1i (a:=bO) (b:=1) dK) (QI (S':=V7 ..) Z Z Z Z Z (Q3 ?_))
 have hE:=(Zi hm).symm
 replace hE:=Q14 hLu3 hE
 refine Q1a (_,bO + 1,(aH.set bO (⟨bW.name,IntKind.wrap .i64 (0 - cC.salience),bW.vars,bW.conds,bW.acts⟩ : QG))) (Nat.lt_succ_self _) hE [9,8,7,6,5,1] Z (asK [2,3] Z) Z
 replace hm:=Q1y hm c1
 refine Q5 [8,7,6,1] (S':=V4 ..) Z (Q19 (Qc (Qc (Qt ?_))))
 have hE:=(Zi hm).symm
 replace hE:=QO hLu3 hE
 refine Q1m [0,1,2,3,4,5] Z (H':=V6 ..) Z ?_
 refine Qp () hE [8,7,6,1] Z (asK [0,1] Z) Z
 rintro _ hE
 try dsimp only
 have hm:=hLj_6
 try rw [hE] at hm
 try dsimp only at hm
 refine Q6 ?_
 obtain ⟨e1,hm,hLj_7⟩:=Q35 hm
 refine Q18 (σ:=(List Q1) × (List Bool) × (List Int) × (List Q1) × (List Q1) × (List (ByteArray × Bool)) × OA × Nat × Nat × OA × Nat × Nat × OA × Nat × Nat × OA × Nat × Nat × Nat) (fun (bA,bB,aB,aC,aD,aE,aV,aW,aX,aY,aZ,b0,a4,a5,a6,a7,a8,a9,aA)=>e1 = .inl (bA,bB,aB,aC,aD,aE)) (fun (bA,bB,aB,aC,aD,aE,aV,aW,aX,aY,aZ,b0,a4,a5,a6,a7,a8,a9,aA)=>[(8,.bool true),(7,.pointer (some ⟨bC,0,none⟩)),(6,.pointer (some ⟨aF,0,none⟩))]) (fun (bA,bB,aB,aC,aD,aE,aV,aW,aX,aY,aZ,b0,a4,a5,a6,a7,a8,a9,aA)=>[tF]) (fun (bA,bB,aB,aC,aD,aE,aV,aW,aX,aY,aZ,b0,a4,a5,a6,a7,a8,a9,aA)=>[.blk bC [.slice bD ((([] : List Qr)).length) bE,.slice bF bH bG,.slice aV aX aW,.slice aY b0 aZ] 70,.own 213 2 QR (.slice bD ((([] : List Qr)).length) bE) ([] : List Qr),.own 38 5 QM (.slice bF bH bG) c0,.own 45 2 Q9 (.slice aV aX aW) bA,.own 4 1 QW (.slice aY b0 aZ) bB,.blk aF [.slice (some b7) b9 b8,.slice a4 a6 a5,.slice a7 a9 a8,.map (some aA)] 66,.own 3 1 Qi (.slice (some b7) b9 b8) aB,.own 45 2 Q9 (.slice a4 a6 a5) aC,.own 45 2 Q9 (.slice a7 a9 a8) aD,Q2s (Q1g (QQ Q2t)) false QW aA aE]) ?_ ?_
 refine Q6 (Q2 (wP Z (Q3 (Q4 (Qm (Q52 45 2 Q9 (Q52 4 1 QW (Q52 45 2 Q9 (Q52 45 2 Q9 (Q6L [4,5,6,3,2,7,8,1,0,9] Z (H':=V10 ..) Z (Q1f (σ:=Nat × Nat × (List Q1) × (List Bool) × (List Int) × (List Q1) × (List Q1) × (List (ByteArray × Bool)) × OA × Nat × Nat × OA × Nat × Nat × OA × Nat × Nat × OA × Nat × Nat × Nat) (fun (cE,bI,b1,b2,b3,b4,b5,b6,aI,aJ,aK,aL,aM,aN,aO,aP,aQ,aR,aS,aT,aU)=>Q1o (Q2U N l1 c0) cE (bI,b1,b2,b3,b4,b5,b6) = some e1) (fun (cE,bI,b1,b2,b3,b4,b5,b6,aI,aJ,aK,aL,aM,aN,aO,aP,aQ,aR,aS,aT,aU)=>cE) (fun (cE,bI,b1,b2,b3,b4,b5,b6,aI,aJ,aK,aL,aM,aN,aO,aP,aQ,aR,aS,aT,aU)=>[(10,.int .i64 ((bI:Nat):Int)),(8,.bool true),(7,.pointer (some ⟨bC,0,none⟩)),(6,.pointer (some ⟨aF,0,none⟩)),(1,.slice bT l1.length bU)]) (fun (cE,bI,b1,b2,b3,b4,b5,b6,aI,aJ,aK,aL,aM,aN,aO,aP,aQ,aR,aS,aT,aU)=>[.sli 3 Q2p bT bU l1,tF]) (fun (cE,bI,b1,b2,b3,b4,b5,b6,aI,aJ,aK,aL,aM,aN,aO,aP,aQ,aR,aS,aT,aU)=>[.blk bC [.slice bD ((([] : List Qr)).length) bE,.slice bF bH bG,.slice aI aK aJ,.slice aL aN aM] 70,.own 213 2 QR (.slice bD ((([] : List Qr)).length) bE) ([] : List Qr),.own 38 5 QM (.slice bF bH bG) c0,.own 45 2 Q9 (.slice aI aK aJ) b1,.own 4 1 QW (.slice aL aN aM) b2,.blk aF [.slice (some b7) b9 b8,.slice aO aQ aP,.slice aR aT aS,.map (some aU)] 66,.own 3 1 Qi (.slice (some b7) b9 b8) b3,.own 45 2 Q9 (.slice aO aQ aP) b4,.own 45 2 Q9 (.slice aR aT aS) b5,Q2s (Q1g (QQ Q2t)) false QW aU b6]) (N,0,[],[],e8,[],[],([] : List (ByteArray × Bool)),none,0,0,none,0,0,none,0,0,none,0,0,c3) hm [10,8,7,6,1] Z (asK [0,1] Z) Z (fun s_ hm=>?_))))))))))))
 obtain ⟨cE,bI,b1,b2,b3,b4,b5,b6,aI,aJ,aK,aL,aM,aN,aO,aP,aQ,aR,aS,aT,aU⟩:=s_
 try dsimp only at hm ⊢
 obtain ⟨gL,gM,f8,hq,hLu4⟩:=Q1d hm
 clear hm
 subst f8
 replace hm:=hq
 clear hq
 unfold Q2U at hm
 try dsimp only at hm
 refine Q6 (Q6 ?_)
 obtain ⟨f9,hm,hLj_8⟩:=Q7 hm
 refine Q18 (σ:=Bool) (fun bX=>f9 = bX) (fun bX=>[(10,.int .i64 ((bI:Nat):Int)),(8,.bool true),(7,.pointer (some ⟨bC,0,none⟩)),(6,.pointer (some ⟨aF,0,none⟩)),(1,.slice bT l1.length bU),(65,.bool bX)]) (fun bX=>[.sli 3 Q2p bT bU l1,tF]) (fun bX=>[.blk bC [.slice bD ((([] : List Qr)).length) bE,.slice bF bH bG,.slice aI aK aJ,.slice aL aN aM] 70,.own 213 2 QR (.slice bD ((([] : List Qr)).length) bE) ([] : List Qr),.own 38 5 QM (.slice bF bH bG) c0,.own 45 2 Q9 (.slice aI aK aJ) b1,.own 4 1 QW (.slice aL aN aM) b2,.blk aF [.slice (some b7) b9 b8,.slice aO aQ aP,.slice aR aT aS,.map (some aU)] 66,.own 3 1 Qi (.slice (some b7) b9 b8) b3,.own 45 2 Q9 (.slice aO aQ aP) b4,.own 45 2 Q9 (.slice aR aT aS) b5,Q2s (Q1g (QQ Q2t)) false QW aU b6]) ?_ ?_
 refine Q2 (wP Z (wP Z (wN Z tE_23 (wP Z (Qz (d:=58) (v':=.bool (decide (bI < l1.length))) (S':=V8 ..) Z Z (Q3f (a:=bI) (b:=l1.length)) (wP Z ?_))))))
 refine Q5F (d:=59) (S':=V9 ..) Z Z (fun c2=>?_) (fun c2=>?_)
 replace hm:=Q1z hm c2
 refine wP Z (wP Z (Qz (d:=61) (v':=.bool (decide (bI < 60))) (S':=V11 ..) Z Z (Q3f (a:=bI) (b:=60)) (wP Z (wP Z ?_))))
 refine Q5F (d:=63) (S':=V13 ..) Z Z (fun dL=>?_) (fun dL=>?_)
 replace hm:=Q1z hm dL
 refine wP Z (wP Z (Q3 ?_))
 have hE:=(Zi hm).symm
 refine Qp true hE [10,8,7,6,1,65] Z (asK [0,1] Z) Z
 replace hm:=Q1y hm dL
 refine wO Z (wP Z (Q3 ?_))
 have hE:=(Zi hm).symm
 refine Qp false hE [10,8,7,6,1,65] Z (asK [0,1] Z) Z
 replace hm:=Q1y hm c2
 refine wO Z (wO Z (wP Z (wP Z (wO Z (wP Z (Q3 ?_))))))
 have hE:=(Zi hm).symm
 refine Qp false hE [10,8,7,6,1,65] Z (asK [0,1] Z) Z
 rintro bX hE
 try dsimp only
 have hm:=hLj_8
 try rw [hE] at hm
 refine QA Z (fun dM=>?_) (fun dM=>?_)
 replace hm:=Q1z hm dM
 refine Q5 [10,8,7,6,1] (S':=V5 ..) Z (Qs (Q4 (Q6 (Qm (Q6 (Q6 (Q2 (wP Z (wP Z ?_)))))))))
 obtain ⟨g4,fA,hm⟩:=Q7 hm
 refine Q53 0 bI Z Z Z Zq Z Z Z Z Z fA tE_23 tS_42 (fun gN gO gD g6=>(Q6m Q7h 1 Z (fun fB fC _=>?_)))
 subst fC
 refine wF Z Q96 (Q6l 1 2 Z Z Z Zq Z Z Z (cs:=[_]) Z Q1X Q3D Z Z ?_)
 obtain ⟨gP,fD,hm⟩:=Q7 hm
 refine wC [] [0,1,2,3,4,5,6,7,8,9] Z fn_9 Z (Q9s N fB.1 fB.2 g4.l _ fD) (asK [0,4] Z) Z (H':=V10 ..) Z ?_
 rintro _ _ _ ⟨rfl,rfl,rfl⟩
 refine Q3 (Q4 (Q5 [73,10,8,7,6,1] (S':=V6 ..) Z ?_))
 refine QA Z (fun dN=>?_) (fun dN=>?_)
 replace hm:=Q1z hm dN
 refine Q5 [] (S':=[]) Z (Q6 (Q2 ?_))
 obtain ⟨_,fE,hm⟩:=Q7 hm
 try dsimp only at hm
 refine wC [] [0,1,2,3,4,5,6,7,8,9] Z fn_5 Z (Q5J N  fE) (asK [4] Z) Z (H':=V10 ..) Z ?_
 rintro _ _ _ ⟨rfl,rfl,rfl⟩
 refine wP Z (Q3 (Q4 (Q5 [4] (S':=[_]) Z (QP (Qn (Q11 (Qn (Qn (Q11 (Qn ?_))))))))))
 have hE:=(Zi hm).symm
 replace hE:=QO hLu4 hE
 replace hE:=QO hLj_7 hE
 replace hE:=hE.symm
 subst hE
 refine QH (Hr:=[]) [] Tryz.results3 (QD Z) ⟨Z,Z,Z⟩ (asK [] Z) Z Z (.inl Z)
 replace hm:=Q1y hm dN
 refine Q5 [10,8,7,6,1] (S':=V5 ..) Z (Qs (Q4 (Q6 (Q6 (Q2 (wP Z (wP Z (wP Z (wP Z ?_)))))))))
 obtain ⟨eB,fF,hm⟩:=Q7 hm
 refine Q53 3 bI Z Z Z Zq Z Z Z Z Z fF tE_23 tS_42 (fun gQ gR gE g7=>(Q6m Q7h 1 Z (fun fG fI _=>?_)))
 subst fI
 refine Q6l 1 0 Z Z Z Zq Z Z Z (cs:=V3 ..) Z tS_42 tA_42 Z Z ?_
 obtain ⟨⟨g8,cF,cG,cH,cI,cJ,cK⟩,fJ,hm⟩:=Q7 hm
 try dsimp only at hm
 refine wC [5,6,7,8,9,0,1,2,3,4] [] Z fn_10 Z (Q9J N aF b7 b9 b8 b3 aO aQ aP b4 aR aT aS b5 aU b6 bC bD ((([] : List Qr)).length) bE ([] : List Qr) bF bH bG c0 aI aK aJ b1 aL aN aM b2 eB.op eB.which fG.1 fG.2 eB.l _ _ _ _ _ _ _ fJ) (asK [0,7] Z) Z (H':=[]) Z ?_
 rintro _ _ _ ⟨cL,cM,cN,cO,cP,cQ,cR,cS,cT,cU,c4,c5,c6,rfl,rfl,rfl⟩
 obtain ⟨eC,hm⟩:=Qd hm
 refine Qz (d:=81) (v':=.bool true) (S':=V11 ..) Z Z (Q16 eC) (wP Z (Q3 (Q4 (Q5 [82,10,8,7,6,1] (S':=V6 ..) Z (Q4q Z (Q5 [10,8,7,6,1] (S':=V5 ..) Z (Qs (Q4 (Q6 (Q2 (wP Z ?_)))))))))))
 obtain ⟨⟨eD,eE,eF⟩,fK,hm⟩:=Q7 hm
 try dsimp only at hm
 refine wC [0,1,2,3,4] [5,6,7,8,9] Z fn_11 Z (Q5c N aF b7 b9 b8 cF cL cN cM cG cO cQ cP cH cR cI _ _ _ fK) (asK [7] Z) Z (H':=V5 ..) Z ?_
 rintro _ _ _ ⟨eG,eH,g9,rfl,rfl,rfl⟩
 refine wP Z (wP Z (wP Z (Q25 Z Z Z Zq Z Q42 Z (fun gS=>(wS 0 0 Z Qe (all':=[_,_]) Z (H':=V12 ..) Z (wP Z (Q3 (Q4 (Q5 [12,11,10,8,7,6,1] (S':=V7 ..) Z (Q6 (Q2 (wP Z ?_))))))))))))
 obtain ⟨⟨eI,eJ,eK⟩,fL,hm⟩:=Q7 hm
 try dsimp only at hm
 refine wC [7,8,9,10,11] [0,1,2,3,4,5,6] Z fn_12 Z (Q8h N bC bD ((([] : List Qr)).length) bE ([] : List Qr) bF bH bG c0 cS cU cT cJ c4 c6 c5 cK _ _ _ fL) (asK [7] Z) Z (H':=V7 ..) Z ?_
 rintro _ _ _ ⟨eL,eM,rfl,rfl,rfl⟩
 refine wP Z (wP Z (wP Z (Q25 Z Z Z Zq Z Q42 Z (fun gT=>(wS 0 0 Z Qe (all':=[_,_]) Z (H':=V13 ..) Z (wP Z (Q3 (Q4 (Q5 [14,13,12,11,10,8,7,6,1] (S':=V9 ..) Z (Q6 (Q2 (wP Z (wP Z (Q5q Z Z Z Zq Z Z Z (neqB _ _ eF eK) ?_))))))))))))))
 obtain ⟨eN,hm⟩:=Qd hm
 refine Qz (d:=95) (v':=.bool false) (S':=V11 ..) Z Z (Q16 eN) (wP Z (Q1V 6 0 Z Z Z Zq Z Z Z (cs:=[_,_]) Z Qe QS Z Z (Q1V 0 0 Z Z Z Zq Z Z Z (cs:=[_,_]) Z Qe QS Z Z (QK 7 Z (fun dO _=>?_)))))
 subst dO
 obtain ⟨gU,fM,hm⟩:=Q7 hm
 refine Q2k [] [0,1,2,3,4,5,6,7,8,9,10,11,12] [7] Z Z Z Zq Z Z fn_13 Z (Q5l N eD eG eH eE eI eL eM eJ _ fM) (fun F w hφ hh=>(Qh (Q1n (hh _ (Qu (k:=0) Z))) (Qh (hφ _ (Qu (k:=0) Z)) Qv))) (fun _ _ _ hR=>by obtain ⟨rfl,rfl,rfl⟩:=hR; exact ⟨Z,(fun _ h=>Q1O h)⟩) Z Z (H':=V13 ..) Z ?_
 rintro _ _ _ ⟨rfl,rfl,rfl⟩
 obtain ⟨eO,hm⟩:=Qd hm
 refine Qz (d:=99) (v':=.bool true) (S':=V15 ..) Z Z (Q16 eO) (wP Z (wP Z (wP Z (wP Z ?_))))
 obtain ⟨fN,eP,hm⟩:=Q7 hm
 refine wC [8,9,10,11,12] [0,1,2,3,4,5,6,7] Z fn_15 Z (Q50 N aF b7 b9 b8 cF cL cN cM cG cO cQ cP cH cR cI _ eP) (asK [8] Z) Z (H':=V8 ..) Z ?_
 rintro _ _ _ ⟨dS,dT,fT,rfl,rfl,rfl⟩
 refine wP Z ?_
 obtain ⟨fO,eQ,hm⟩:=Q7 hm
 refine wC [7,8,9,10,11] [0,1,2,3,4,5,6,12,13] Z fn_16 Z (Q6z N bC bD ((([] : List Qr)).length) bE ([] : List Qr) bF bH bG c0 cS cU cT cJ c4 c6 c5 cK _ eQ) (asK [8] Z) Z (H':=V9 ..) Z ?_
 rintro _ _ _ ⟨dU,dV,fU,rfl,rfl,rfl⟩
 refine Q2o 6 Z (fun eR _=>?_)
 subst eR
 refine QK 0 Z (fun dD _=>?_)
 subst dD
 obtain ⟨gF,eS,hm⟩:=Q7 hm
 refine Q2k [] [0,1,2,3,4,5,6,7,8,9,10,11,12,13,14] [6,0] Z Z Z Zq Z Z fn_14 Z (Q7b N dS dT fN dU dV fO _ eS) (fun F w hφ hh=>(Qh (tree_sli Q4B (hh _ (Qu (k:=0) Z)) (fun _ h=>h) (fun _ h=>h)) (Qh (Q1n (hh _ (Qu (k:=1) Z))) Qv))) (fun _ _ _ hR=>by obtain ⟨rfl,rfl,rfl⟩:=hR; exact ⟨Z,(fun _ h=>Q1O h)⟩) Z Z (H':=V15 ..) Z ?_
 rintro _ _ _ ⟨rfl,rfl,rfl⟩
 obtain ⟨dW,hm⟩:=Qd hm
 refine Qz (d:=107) (v':=.bool true) (S':=V23 ..) Z Z (Q16 dW) (wP Z (wP Z (Q3 (Q4 (Q5 [109,10,8,7,6,1] (S':=V6 ..) Z (Q4q Z (Q5 [10,8,7,6,1] (S':=V5 ..) Z (Qs (Qj (Q4 (Q2 (wP Z (wP Z ?_)))))))))))))
 obtain ⟨fQ,hm⟩:=Qd hm
 refine Qz (d:=67) (v':=.int .i64 ((bI + 1:Nat):Int)) (S':=V6 ..) Z Z (Q1i (a:=bI) (b:=1) fQ) (QI (S':=V6 ..) Z Z Z Z Z (Q3 ?_))
 have hE:=(Zi hm).symm
 replace hE:=Q14 hLu4 hE
 refine Q1m [1,2,3,4,5,7,8,9,10,11] Z (H':=V10 ..) Z ?_
 refine Q1a (_,bI + 1,cJ,cK,cF,cG,cH,cI,cS,cT,cU,c4,c5,c6,cL,cM,cN,cO,cP,cQ,cR) (Nat.lt_succ_self _) hE [10,8,7,6,1] Z (asK [7,8] Z) Z
 replace hm:=Q1y hm dM
 refine Q5 [8,7,6] (S':=V3 ..) Z (Q19 (Qc (Qc (Qt ?_))))
 have hE:=(Zi hm).symm
 replace hE:=QO hLu4 hE
 refine Qp (b1,b2,b3,b4,b5,b6,aI,aJ,aK,aL,aM,aN,aO,aP,aQ,aR,aS,aT,aU) hE [8,7,6] Z (asK [1] Z) Z
 rintro ⟨bA,bB,aB,aC,aD,aE,aV,aW,aX,aY,aZ,b0,a4,a5,a6,a7,a8,a9,aA⟩ hE
 try dsimp only
 have hm:=Q14 hLj_7 hE
 try dsimp only at hm
 refine Q6 (Q6 (Q2 (wP Z (wP Z (Q3 (Q4 (Q5 [111,7,6] (S':=V3 ..) Z (Q4q Z (Q5 [7,6] (S':=[_,_]) Z (Qs (Q4 (Q6 (Q2 ?_)))))))))))))
 refine wP Z ?_
 obtain ⟨⟨a1,a0,fW⟩,eT,hm⟩:=Q7 hm
 try dsimp only at hm
 refine wC [5,6,7,8,9] [0,1,2,3,4] Z fn_11 Z (Q5c N aF b7 b9 b8 aB a4 a6 a5 aC a7 a9 a8 aD aA aE _ _ _ eT) (asK [0] Z) Z (H':=V5 ..) Z ?_
 rintro _ _ _ ⟨bJ,bK,fY,rfl,rfl,rfl⟩
 refine wP Z (wP Z (wP Z (Q25 Z Z Z Zq Z Q42 Z (fun gA=>(wS 0 0 Z Qe (all':=[_,_]) Z (H':=V12 ..) Z (wP Z (Q3 (Q4 (Q5 [15,7,6] (S':=V3 ..) Z (Q6 (Q2 (wP Z ?_))))))))))))
 obtain ⟨⟨a3,a2,fZ⟩,eU,hm⟩:=Q7 hm
 try dsimp only at hm
 refine wC [2,3,4,5,6] [0,1,7,8,9,10,11] Z fn_11 Z (Q5c N aF b7 b9 b8 aB a4 a6 a5 aC a7 a9 a8 aD aA aE _ _ _ eU) (asK [0] Z) Z (H':=V7 ..) Z ?_
 rintro _ _ _ ⟨bL,bM,g0,rfl,rfl,rfl⟩
 refine wP Z (wP Z (wP Z (Q25 Z Z Z Zq Z Q42 Z (fun gB=>(wS 0 0 Z Qe (all':=[_,_]) Z (H':=V14 ..) Z (wP Z (Q3 (Q4 (Q5 [17,15,7,6] (S':=V4 ..) Z (Q6 ?_))))))))))
 obtain ⟨bP,eV,hm⟩:=Q7 hm
 obtain ⟨bQ,eW,hm⟩:=Q7 hm
 obtain ⟨d0,hm⟩:=Qd hm
 obtain ⟨dP,eX,hm⟩:=Q7 hm
 obtain ⟨dQ,eY,hm⟩:=Q7 hm
 obtain ⟨gG,eZ,hm⟩:=Q7 hm
 obtain ⟨dX,hm⟩:=Qd hm
 obtain ⟨_,f0,hm⟩:=Q7 hm
 try dsimp only at hm
 refine wc_ownLen 1 Z (fun dE _=>?_)
 subst dE
 refine wc_ownLen 8 Z (fun dF _=>?_)
 subst dF
 refine Q6L [1,8,0,2,3,4,5,6,7,9,10,11,12,13] Z (H':=V14 ..) Z ?_
 refine wc_flow (Y:=Nat × Nat × OA) (H0:=[.blk gB [.int .i64 a3,.slice bL a2.length bM] 45,.blk aF [.slice (some b7) b9 b8,.slice a4 a6 a5,.slice a7 a9 a8,.map (some aA)] 66,.own 3 1 Qi (.slice (some b7) b9 b8) aB,.own 45 2 Q9 (.slice a4 a6 a5) aC,.own 45 2 Q9 (.slice a7 a9 a8) aD,Q2s (Q1g (QQ Q2t)) false QW aA aE,.blk gA [.int .i64 a1,.slice bJ a0.length bK] 45,.blk bC [.slice bD ((([] : List Qr)).length) bE,.slice bF bH bG,.slice aV aX aW,.slice aY b0 aZ] 70,.own 213 2 QR (.slice bD ((([] : List Qr)).length) bE) ([] : List Qr),.own 38 5 QM (.slice bF bH bG) c0,.own 45 2 Q9 (.slice aV aX aW) bA,.own 4 1 QW (.slice aY b0 aZ) bB]) [⟨123,[0],[],21,[],fun _=>.agg #[.int .i64 a1,.slice bJ a0.length bK],fun _=>[],fun _=>[]⟩,⟨124,[0,1],[0],9,[],fun E=>.slice (some ⟨(E 1).1,0,none⟩) 1 1,fun _=>[],fun E=>[.blk (E 1).1 [.int .i64 a1,.slice bJ a0.length bK] 45]⟩,⟨125,[2],[],21,[],fun _=>.agg #[.int .i64 a3,.slice bL a2.length bM],fun _=>[],fun _=>[]⟩,⟨126,[2,3],[2],9,[],fun E=>.slice (some ⟨(E 3).1,0,none⟩) 1 1,fun _=>[],fun E=>[.blk (E 3).1 [.int .i64 a3,.slice bL a2.length bM] 45]⟩,⟨127,[4],[],21,[],fun _=>.pointer (some ⟨aF,0,none⟩),fun _=>[],fun _=>[]⟩,⟨128,[4,5],[4],9,[],fun E=>.slice (E 5).2.2 (E 5).1 (E 5).2.1,fun _=>[],fun E=>[Q1l Qb 45 2 (.slice (E 5).2.2 (E 5).1 (E 5).2.1) bP]⟩,⟨129,[6],[],21,[],fun _=>.pointer (some ⟨aF,0,none⟩),fun _=>[],fun _=>[]⟩,⟨130,[4,5,6,7],[6],9,[],fun E=>.slice (E 7).2.2 (E 7).1 (E 7).2.1,fun _=>[],fun E=>[Q1l Qb 45 2 (.slice (E 7).2.2 (E 7).1 (E 7).2.1) bQ]⟩,⟨131,[0,1,2,3,4,5,6,7,8],[1,3,5,7],9,[],fun E=>.slice (some ⟨(E 8).1,0,none⟩) 4 4,fun _=>[],fun E=>[.blk (E 8).1 [.slice (some ⟨(E 1).1,0,none⟩) 1 1,.slice (some ⟨(E 3).1,0,none⟩) 1 1,.slice (E 5).2.2 (E 5).1 (E 5).2.1,.slice (E 7).2.2 (E 7).1 (E 7).2.1] 40]⟩,⟨132,[0,1,2,3,4,5,6,7,8,9],[1,3,5,7,8],21,[.own 3 1 Qi (.slice bL a2.length bM) a2,.own 3 1 Qi (.slice bJ a0.length bK) a0],fun _=>.bool true,fun _=>[],fun _=>[]⟩,⟨133,[0,1,2,3,4,5,6,7,8,9,10],[9],21,[],fun _=>.bool true,fun _=>[],fun _=>[]⟩,⟨134,[0,1,2,3,4,5,6,7,8,9,10,11],[10],21,[],fun _=>.pointer (some ⟨aF,0,none⟩),fun _=>[],fun _=>[]⟩,⟨135,[0,1,2,3,4,5,6,7,8,9,10,11,12],[10,11],15,[],fun E=>.slice (E 12).2.2 (E 12).1 (E 12).2.1,fun _=>[],fun E=>[Q1l Qb 45 2 (.slice (E 12).2.2 (E 12).1 (E 12).2.1) dP]⟩,⟨136,[0,1,2,3,4,5,6,7,8,9,10,13],[10],21,[],fun _=>.pointer (some ⟨bC,0,none⟩),fun _=>[],fun _=>[]⟩,⟨137,[0,1,2,3,4,5,6,7,8,9,10,11,12,13,14],[10,13],15,[],fun E=>.slice (E 14).2.2 (E 14).1 (E 14).2.1,fun _=>[],fun E=>[.own 45 2 Q9 (.slice (E 14).2.2 (E 14).1 (E 14).2.1) dQ]⟩,⟨138,[0,1,2,3,4,5,6,7,8,9,10,11,12,13,14,15],[10,12,14],21,[],fun _=>.bool true,fun _=>[],fun _=>[]⟩,⟨139,[0,1,2,3,4,5,6,7,8,9,10,11,12,13,14,15,16],[10,15],21,[],fun _=>.bool true,fun _=>[],fun _=>[]⟩,⟨140,[0,1,2,3,4,5,6,7,8,9,10,11,12,13,14,15,16,17],[16],21,[],fun _=>.bool true,fun _=>[],fun _=>[]⟩,⟨141,[0,1,2,3,4,5,6,7,8,9,10,11,12,13,14,15,16,17,18],[17],21,[],fun _=>.bool true,fun _=>[],fun _=>[]⟩,⟨142,[0,1,2,3,4,5,6,7,8,9,10,11,12,13,14,15,16,17,18,19],[17,18],21,[],fun _=>.bool true,fun _=>[],fun _=>[]⟩,⟨4,[0,1,2,3,4,5,6,7,8,9,10,11,12,13,14,15,16,17,18,19,20],[19],21,[],fun _=>.bool true,fun _=>[],fun _=>[]⟩] Z Z (by kernel_rfl) (by kernel_rfl) ⟨?_,?_,?_,?_,?_,?_,?_,?_,?_,?_,?_,?_,?_,?_,?_,?_,?_,?_,?_,?_,?_,trivial⟩ (fun E=>?_)
 intro E C
 show WL _ C _ _ [_] (V12 ..) (V4 ..) _ [_]
 refine Q1V 6 0 Z Z Z Zq Z Z Z (cs:=[_,_]) Z Qe QS Z Z (Q3 ?_)
 exact Q1M (k:=0) (default,default,default) [] [0,1,2,3,4,5,6,7,8,9,10,11] Z Z Z Z
 intro E C
 show WL _ C _ _ [_] (V12 ..) [(123,.agg #[.int .i64 a1,.slice bJ a0.length bK]),_,_,_,_] _ [_]
 refine QE Z Z Z Zq Z QB Qe Q42 Z (zs:=[.int .i64 0,V1]) (by kernel_rfl) Z (out:=[_,_]) Z (fun e2=>(Q3 ?_))
 exact Q1M (k:=1) (e2,default,default) [] [0,1,2,3,4,5,6,7,8,9,10,11,12] Z Z Z Z
 intro E C
 show WL _ C _ _ [_] (V12 ..) (V4 ..) _ [_]
 refine Q1V 0 0 Z Z Z Zq Z Z Z (cs:=[_,_]) Z Qe QS Z Z (Q3 ?_)
 exact Q1M (k:=2) (default,default,default) [] [0,1,2,3,4,5,6,7,8,9,10,11] Z Z Z Z
 intro E C
 show WL _ C _ _ [_] (V12 ..) [(125,.agg #[.int .i64 a3,.slice bL a2.length bM]),_,_,_,_] _ [_]
 refine QE Z Z Z Zq Z QB Qe Q42 Z (zs:=[.int .i64 0,V1]) (by kernel_rfl) Z (out:=[_,_]) Z (fun e4=>(Q3 ?_))
 exact Q1M (k:=3) (e4,default,default) [] [0,1,2,3,4,5,6,7,8,9,10,11,12] Z Z Z Z
 intro E C
 show WL _ C _ _ [_] (V12 ..) (V4 ..) _ [_]
 refine wP Z (Q3 ?_)
 exact Q1M (k:=4) (default,default,default) [] [0,1,2,3,4,5,6,7,8,9,10,11] Z Z Z Z
 intro E C
 show WL _ C _ _ [_] (V12 ..) [(127,.pointer (some ⟨aF,0,none⟩)),_,_,_,_] _ [_]
 refine wC [1,2,3,4,5] [0,6,7,8,9,10,11] Z fn_15 Z (Q50 N aF b7 b9 b8 aB a4 a6 a5 aC a7 a9 a8 aD aA aE _ eV) (asK [0] Z) Z (H':=V7 ..) Z ?_
 rintro _ _ _ ⟨d1,d2,d3,rfl,rfl,rfl⟩
 refine Q3 ?_
 exact Q1M (k:=5) (d3,d2,d1) [] [0,6,1,2,3,4,5,7,8,9,10,11,12] Z Z Z Z
 intro E C
 show WL _ C _ _ [_] (V12 ..) (V4 ..) _ [_]
 refine wP Z (Q3 ?_)
 exact Q1M (k:=6) (default,default,default) [] [0,1,2,3,4,5,6,7,8,9,10,11] Z Z Z Z
 intro E C
 show WL _ C _ _ [_] (V12 ..) [(129,.pointer (some ⟨aF,0,none⟩)),_,_,_,_] _ [_]
 refine wC [1,2,3,4,5] [0,6,7,8,9,10,11] Z fn_15 Z (Q50 N aF b7 b9 b8 aB a4 a6 a5 aC a7 a9 a8 aD aA aE _ eW) (asK [0] Z) Z (H':=V7 ..) Z ?_
 rintro _ _ _ ⟨d4,d5,d6,rfl,rfl,rfl⟩
 refine Q3 ?_
 exact Q1M (k:=7) (d6,d5,d4) [] [0,6,1,2,3,4,5,7,8,9,10,11,12] Z Z Z Z
 intro E C
 show WL _ C _ _ [_] (V12 ..) [(124,.slice (some ⟨(E 1).1,0,none⟩) 1 1),(126,.slice (some ⟨(E 3).1,0,none⟩) 1 1),(128,.slice (E 5).2.2 (E 5).1 (E 5).2.1),(130,.slice (E 7).2.2 (E 7).1 (E 7).2.1),_,_,_,_] _ [_]
 refine QE Z Z Z Zq Z Q6y Q1X tZ_40 Z (zs:=[V1,V1,V1,V1]) (by kernel_rfl) Z (out:=V4 ..) Z (fun e5=>(Q3 ?_))
 exact Q1M (k:=8) (e5,default,default) [] [0,1,2,3,4,5,6,7,8,9,10,11,12] Z Z Z Z
 intro E C
 show WL _ C _ _ [_] [.blk (E 1).1 [.int .i64 a1,.slice bJ a0.length bK] 45,.blk (E 3).1 [.int .i64 a3,.slice bL a2.length bM] 45,Q1l Qb 45 2 (.slice (E 5).2.2 (E 5).1 (E 5).2.1) bP,Q1l Qb 45 2 (.slice (E 7).2.2 (E 7).1 (E 7).2.1) bQ,.blk (E 8).1 [.slice (some ⟨(E 1).1,0,none⟩) 1 1,.slice (some ⟨(E 3).1,0,none⟩) 1 1,.slice (E 5).2.2 (E 5).1 (E 5).2.1,.slice (E 7).2.2 (E 7).1 (E 7).2.1] 40,_,_,_,_,_,_,_,_,_,_,_,_,_,_] [(124,.slice (some ⟨(E 1).1,0,none⟩) 1 1),(126,.slice (some ⟨(E 3).1,0,none⟩) 1 1),(128,.slice (E 5).2.2 (E 5).1 (E 5).2.1),(130,.slice (E 7).2.2 (E 7).1 (E 7).2.1),(131,.slice (some ⟨(E 8).1,0,none⟩) 4 4),_,_,_,_] _ [_]
 refine Q3V (sz:=2) (m:=1) Qb.pair ([((⟨a1,a0⟩ : Q1),(bJ,bK))]) 0 Z (fun F w hφ=>⟨[.int .i64 a1,.slice bJ a0.length bK],[],Z,Z,Z,Z⟩) Z (by decide) (H':=V19 ..) Z (Q2x [Q2j Qb [] none,_,_,_,_,_,_,_,_,_,_,_,_,_,_,_,_,_,_,_] (fun _ h=>h.bagNil Qb) (Q55 [7,0,1,2,3,4,5,6,8,9,10,11,12,13,14,15,16,17,18,19] Z (H':=V20 ..) Z (Q2x [Q2j Qb ([((⟨a1,a0⟩ : Q1),(bJ,bK))]) none,_,_,_,_,_,_,_,_,_,_,_,_,_,_,_,_,_,_] (fun _ h=>QY.bagPush (T:=Qb) (x:=(⟨a1,a0⟩ : Q1)) (r:=(bJ,bK)) (zs:=[]) (H:=V19 ..) h 0 Z) (Q2x [Q1l Qb 45 2 (.slice (some ⟨(E 1).1,0,none⟩) 1 1) ([(⟨a1,a0⟩ : Q1)]),_,_,_,_,_,_,_,_,_,_,_,_,_,_,_,_,_] (fun _ h=>h.treeIn 1 0 Z Z Z Z) (Q2o 0 Z (fun cV _=>(Q4F 0 (v':=.slice (some ⟨(E 1).1,0,none⟩) ([(⟨a1,a0⟩ : Q1)].length) 1) Z (by rw [cV]) (Q28 4 (φ':=.blk (E 8).1 [.slice (some ⟨(E 1).1,0,none⟩) ([(⟨a1,a0⟩ : Q1)].length) 1,.slice (some ⟨(E 3).1,0,none⟩) 1 1,.slice (E 5).2.2 (E 5).1 (E 5).2.1,.slice (E 7).2.2 (E 7).1 (E 7).2.1] 40) Z (by rw [cV]) (H':=V18 ..) Z (Q28 0 (φ':=Q1l Qb 45 2 (.slice (some ⟨(E 1).1,0,none⟩) ([(⟨a1,a0⟩ : Q1)].length) 1) ([(⟨a1,a0⟩ : Q1)])) Z (by rw [cV]) (H':=V18 ..) Z (Q3V (sz:=2) (m:=1) Qb.pair ([((⟨a3,a2⟩ : Q1),(bL,bM))]) 1 Z (fun F w hφ=>⟨[.int .i64 a3,.slice bL a2.length bM],[],Z,Z,Z,Z⟩) Z (by decide) (H':=V18 ..) Z (Q2x [Q2j Qb [] none,_,_,_,_,_,_,_,_,_,_,_,_,_,_,_,_,_,_] (fun _ h=>h.bagNil Qb) (Q55 [6,0,1,2,3,4,5,7,8,9,10,11,12,13,14,15,16,17,18] Z (H':=V19 ..) Z (Q2x [Q2j Qb ([((⟨a3,a2⟩ : Q1),(bL,bM))]) none,_,_,_,_,_,_,_,_,_,_,_,_,_,_,_,_,_] (fun _ h=>QY.bagPush (T:=Qb) (x:=(⟨a3,a2⟩ : Q1)) (r:=(bL,bM)) (zs:=[]) (H:=V18 ..) h 0 Z) (Q2x [_,Q1l Qb 45 2 (.slice (some ⟨(E 3).1,0,none⟩) 1 1) ([(⟨a3,a2⟩ : Q1)]),_,_,_,_,_,_,_,_,_,_,_,_,_,_,_] (fun _ h=>h.treeIn 2 0 Z Z Z Z) ?_))))))))))))))
 refine Q2o 1 Z (fun cW _=>(Q4F 1 (v':=.slice (some ⟨(E 3).1,0,none⟩) ([(⟨a3,a2⟩ : Q1)].length) 1) Z (by rw [cW]) (Q28 4 (φ':=.blk (E 8).1 [.slice (some ⟨(E 1).1,0,none⟩) ([(⟨a1,a0⟩ : Q1)].length) 1,.slice (some ⟨(E 3).1,0,none⟩) ([(⟨a3,a2⟩ : Q1)].length) 1,.slice (E 5).2.2 (E 5).1 (E 5).2.1,.slice (E 7).2.2 (E 7).1 (E 7).2.1] 40) Z (by rw [cW]) (H':=V17 ..) Z (Q28 1 (φ':=Q1l Qb 45 2 (.slice (some ⟨(E 3).1,0,none⟩) ([(⟨a3,a2⟩ : Q1)].length) 1) ([(⟨a3,a2⟩ : Q1)])) Z (by rw [cW]) (H':=V17 ..) Z (Q2o 2 Z (fun cX _=>?_))))))
 first | subst cX | rw [cX] | rw [← cX]
 refine Q2o 3 Z (fun cY _=>?_)
 first | subst cY | rw [cY] | rw [← cY]
 refine Q3V (sz:=1) (m:=4) Q1H.pair ([([(⟨a1,a0⟩ : Q1)],(some (⟨(E 1).1,0,none⟩ : Addr),1)),([(⟨a3,a2⟩ : Q1)],(some (⟨(E 3).1,0,none⟩ : Addr),1)),(bP,((E 5).2.2,(E 5).2.1)),(bQ,((E 7).2.2,(E 7).2.1))]) 4 Z (fun F w hφ=>⟨[.slice (some ⟨(E 1).1,0,none⟩) ([(⟨a1,a0⟩ : Q1)].length) 1],[.slice (some ⟨(E 3).1,0,none⟩) ([(⟨a3,a2⟩ : Q1)].length) 1,.slice (E 5).2.2 bP.length (E 5).2.1,.slice (E 7).2.2 bQ.length (E 7).2.1],Z,Z,Z,⟨[.slice (some ⟨(E 3).1,0,none⟩) ([(⟨a3,a2⟩ : Q1)].length) 1],[.slice (E 5).2.2 bP.length (E 5).2.1,.slice (E 7).2.2 bQ.length (E 7).2.1],Z,Z,Z,⟨[.slice (E 5).2.2 bP.length (E 5).2.1],[.slice (E 7).2.2 bQ.length (E 7).2.1],Z,Z,Z,⟨[.slice (E 7).2.2 bQ.length (E 7).2.1],[],Z,Z,Z,Z⟩⟩⟩⟩) Z (by decide) (H':=V17 ..) Z (Q2x [Q2j Q1H [] none,_,_,_,_,_,_,_,_,_,_,_,_,_,_,_,_,_] (fun _ h=>h.bagNil Q1H) (Q55 [1,0,2,3,4,5,6,7,8,9,10,11,12,13,14,15,16,17] Z (H':=V18 ..) Z (Q2x [Q2j Q1H ([([(⟨a1,a0⟩ : Q1)],(some (⟨(E 1).1,0,none⟩ : Addr),1))]) none,_,_,_,_,_,_,_,_,_,_,_,_,_,_,_,_] (fun _ h=>QY.bagPush (T:=Q1H) (x:=[(⟨a1,a0⟩ : Q1)]) (r:=(some (⟨(E 1).1,0,none⟩ : Addr),1)) (zs:=[]) (H:=V17 ..) h 0 Z) (Q55 [1,0,2,3,4,5,6,7,8,9,10,11,12,13,14,15,16] Z (H':=V17 ..) Z (Q2x [Q2j Q1H (([([(⟨a1,a0⟩ : Q1)],(some (⟨(E 1).1,0,none⟩ : Addr),1))]) ++ [([(⟨a3,a2⟩ : Q1)],(some (⟨(E 3).1,0,none⟩ : Addr),1))]) none,_,_,_,_,_,_,_,_,_,_,_,_,_,_,_] (fun _ h=>QY.bagPush (T:=Q1H) (x:=[(⟨a3,a2⟩ : Q1)]) (r:=(some (⟨(E 3).1,0,none⟩ : Addr),1)) (zs:=[([(⟨a1,a0⟩ : Q1)],(some (⟨(E 1).1,0,none⟩ : Addr),1))]) (H:=V16 ..) h 0 Z) (Q55 [1,0,2,3,4,5,6,7,8,9,10,11,12,13,14,15] Z (H':=V16 ..) Z (Q2x [Q2j Q1H ((([([(⟨a1,a0⟩ : Q1)],(some (⟨(E 1).1,0,none⟩ : Addr),1))]) ++ [([(⟨a3,a2⟩ : Q1)],(some (⟨(E 3).1,0,none⟩ : Addr),1))]) ++ [(bP,((E 5).2.2,(E 5).2.1))]) none,_,_,_,_,_,_,_,_,_,_,_,_,_,_] (fun _ h=>QY.bagPush (T:=Q1H) (x:=bP) (r:=((E 5).2.2,(E 5).2.1)) (zs:=([([(⟨a1,a0⟩ : Q1)],(some (⟨(E 1).1,0,none⟩ : Addr),1))]) ++ [([(⟨a3,a2⟩ : Q1)],(some (⟨(E 3).1,0,none⟩ : Addr),1))]) (H:=V15 ..) h 0 Z) (Q55 [1,0,2,3,4,5,6,7,8,9,10,11,12,13,14] Z (H':=V15 ..) Z (Q2x [Q2j Q1H (((([([(⟨a1,a0⟩ : Q1)],(some (⟨(E 1).1,0,none⟩ : Addr),1))]) ++ [([(⟨a3,a2⟩ : Q1)],(some (⟨(E 3).1,0,none⟩ : Addr),1))]) ++ [(bP,((E 5).2.2,(E 5).2.1))]) ++ [(bQ,((E 7).2.2,(E 7).2.1))]) none,_,_,_,_,_,_,_,_,_,_,_,_,_] (fun _ h=>QY.bagPush (T:=Q1H) (x:=bQ) (r:=((E 7).2.2,(E 7).2.1)) (zs:=(([([(⟨a1,a0⟩ : Q1)],(some (⟨(E 1).1,0,none⟩ : Addr),1))]) ++ [([(⟨a3,a2⟩ : Q1)],(some (⟨(E 3).1,0,none⟩ : Addr),1))]) ++ [(bP,((E 5).2.2,(E 5).2.1))]) (H:=V14 ..) h 0 Z) (Q28 0 (φ':=Q2j Q1H ([([(⟨a1,a0⟩ : Q1)],(some (⟨(E 1).1,0,none⟩ : Addr),1)),([(⟨a3,a2⟩ : Q1)],(some (⟨(E 3).1,0,none⟩ : Addr),1)),(bP,((E 5).2.2,(E 5).2.1)),(bQ,((E 7).2.2,(E 7).2.1))]) none) Z Z (H':=V14 ..) Z (Q2x [Q1l Q1H 40 1 (.slice (some ⟨(E 8).1,0,none⟩) 4 4) ([[(⟨a1,a0⟩ : Q1)],[(⟨a3,a2⟩ : Q1)],bP,bQ]),_,_,_,_,_,_,_,_,_,_,_,_] (fun _ h=>h.treeIn 1 0 Z Z Z Z) (Q2o 0 Z (fun dR _=>(Q4F 4 (v':=.slice (some ⟨(E 8).1,0,none⟩) ([[(⟨a1,a0⟩ : Q1)],[(⟨a3,a2⟩ : Q1)],bP,bQ].length) 4) Z (by rw [dR]) ?_))))))))))))))
 refine Q28 0 (φ':=Q1l Q1H 40 1 (.slice (some ⟨(E 8).1,0,none⟩) ([[(⟨a1,a0⟩ : Q1)],[(⟨a3,a2⟩ : Q1)],bP,bQ].length) 4) ([[(⟨a1,a0⟩ : Q1)],[(⟨a3,a2⟩ : Q1)],bP,bQ])) Z (by rw [dR]) (H':=V13 ..) Z (Q46 0 Z (fun f1 c7=>(wC [1,0] [2,3,4,5,6,7,8,9,10,11,12,13] Z fn_17 Z (ap_ApartTokens (some ⟨(E 8).1,0,none⟩) ([[(⟨a1,a0⟩ : Q1)],[(⟨a3,a2⟩ : Q1)],bP,bQ].length) 4 f1 (by rw [Q3g c7]) (by rw [Q3g c7]; exact d0.1) (fun z hz=>d0.2 z.1 (by rw [← c7]; exact List.mem_map_of_mem hz))) (asK [] Z) Z (H':=V12 ..) Z ?_)))
 rintro _ _ _ ⟨g1,fR,rfl,rfl,rfl⟩
 refine Q3E 0 Z (H':=V13 ..) Z (Q3E 0 Z (H':=V12 ..) Z (Q3 ?_))
 exact Q1M (k:=9) (default,default,default) [] [0,1,2,3,4,5,6,7,8,9,10,11] Z Z Z Z
 intro E C
 show WL _ C _ _ [_] (V12 ..) [(132,.bool true),_,_,_,_] _ [_]
 refine wP Z (Q3 ?_)
 exact Q1M (k:=10) (default,default,default) [] [0,1,2,3,4,5,6,7,8,9,10,11] Z Z Z Z
 intro E C
 show WL _ C _ _ [_] (V12 ..) [(133,.bool true),_,_,_,_] _ [_]
 refine wP Z (Q3 ?_)
 exact Q1M (k:=11) (default,default,default) [] [0,1,2,3,4,5,6,7,8,9,10,11] Z Z Z Z
 intro E C
 show WL _ C _ _ [_] (V12 ..) [(133,.bool true),(134,.pointer (some ⟨aF,0,none⟩)),_,_,_,_] _ [_]
 refine wC [1,2,3,4,5] [0,6,7,8,9,10,11] Z fn_15 Z (Q50 N aF b7 b9 b8 aB a4 a6 a5 aC a7 a9 a8 aD aA aE _ eX) (asK [0] Z) Z (H':=V7 ..) Z ?_
 rintro _ _ _ ⟨d7,d8,d9,rfl,rfl,rfl⟩
 refine Q3 ?_
 exact Q1M (k:=12) (d9,d8,d7) [] [0,6,1,2,3,4,5,7,8,9,10,11,12] Z Z Z Z
 intro E C
 show WL _ C _ _ [_] (V12 ..) [(133,.bool true),_,_,_,_] _ [_]
 refine wP Z (Q3 ?_)
 exact Q1M (k:=13) (default,default,default) [] [0,1,2,3,4,5,6,7,8,9,10,11] Z Z Z Z
 intro E C
 show WL _ C _ _ [_] (V12 ..) [(133,.bool true),(136,.pointer (some ⟨bC,0,none⟩)),_,_,_,_] _ [_]
 refine wC [7,8,9,10,11] [0,1,2,3,4,5,6] Z fn_16 Z (Q6z N bC bD ((([] : List Qr)).length) bE ([] : List Qr) bF bH bG c0 aV aX aW bA aY b0 aZ bB _ eY) (asK [0] Z) Z (H':=V7 ..) Z ?_
 rintro _ _ _ ⟨dA,dB,dC,rfl,rfl,rfl⟩
 refine Q3 ?_
 exact Q1M (k:=14) (dC,dB,dA) [] [0,6,7,8,9,10,11,12,1,2,3,4,5] Z Z Z Z
 intro E C
 show WL _ C _ _ [_] [Q1l Qb 45 2 (.slice (E 12).2.2 (E 12).1 (E 12).2.1) dP,.own 45 2 Q9 (.slice (E 14).2.2 (E 14).1 (E 14).2.1) dQ,_,_,_,_,_,_,_,_,_,_,_,_] [(133,.bool true),(135,.slice (E 12).2.2 (E 12).1 (E 12).2.1),(137,.slice (E 14).2.2 (E 14).1 (E 14).2.1),_,_,_,_] _ [_]
 refine Q2o 0 Z (fun cZ _=>?_)
 first | subst cZ | rw [cZ] | rw [← cZ]
 refine QK 1 Z (fun bZ _=>?_)
 first | subst bZ | rw [bZ] | rw [← bZ]
 refine Q2k [] [0,1,2,3,4,5,6,7,8,9,10,11,12,13] [0,1] Z Z Z Zq Z Z fn_14 Z (Q7b N (E 12).2.2 (E 12).2.1 dP (E 14).2.2 (E 14).2.1 dQ _ eZ) (fun F w hφ hh=>(Qh (tree_sli Q4B (hh _ (Qu (k:=0) Z)) (fun _ h=>h) (fun _ h=>h)) (Qh (Q1n (hh _ (Qu (k:=1) Z))) Qv))) (fun _ _ _ hR=>by obtain ⟨rfl,rfl,rfl⟩:=hR; exact ⟨Z,(fun _ h=>Q1O h)⟩) Z Z (H':=V14 ..) Z ?_
 rintro _ _ _ ⟨rfl,rfl,rfl⟩
 refine Qz (d:=138) (v':=.bool true) (S':=V7 ..) Z Z (Q16 dX) (Q3 ?_)
 exact Q1M (k:=15) (default,default,default) [] [2,3,4,5,6,7,8,9,10,11,12,13] Z Z Z Z
 intro E C
 show WL _ C _ _ [_] (V12 ..) [(133,.bool true),(138,.bool true),_,_,_,_] _ [_]
 refine wP Z (Q3 ?_)
 exact Q1M (k:=16) (default,default,default) [] [0,1,2,3,4,5,6,7,8,9,10,11] Z Z Z Z
 intro E C
 show WL _ C _ _ [_] (V12 ..) [(139,.bool true),_,_,_,_] _ [_]
 refine wP Z (Q3 ?_)
 exact Q1M (k:=17) (default,default,default) [] [0,1,2,3,4,5,6,7,8,9,10,11] Z Z Z Z
 intro E C
 show WL _ C _ _ [_] (V12 ..) [(140,.bool true),_,_,_,_] _ [_]
 refine wC [] [0,1,2,3,4,5,6,7,8,9,10,11] Z fn_5 Z (Q5J N  f0) (asK [0] Z) Z (H':=V12 ..) Z ?_
 rintro _ _ _ ⟨rfl,rfl,rfl⟩
 refine Q3 ?_
 exact Q1M (k:=18) (default,default,default) [] [0,1,2,3,4,5,6,7,8,9,10,11] Z Z Z Z
 intro E C
 show WL _ C _ _ [_] (V12 ..) [(140,.bool true),(141,.bool true),_,_,_,_] _ [_]
 refine wP Z (Q3 ?_)
 exact Q1M (k:=19) (default,default,default) [] [0,1,2,3,4,5,6,7,8,9,10,11] Z Z Z Z
 intro E C
 show WL _ C _ _ [_] (V12 ..) [(142,.bool true),_,_,_,_] _ [_]
 refine wP Z (Q3 ?_)
 exact Q1M (k:=20) (default,default,default) [] [0,1,2,3,4,5,6,7,8,9,10,11] Z Z Z Z
 show WE _ _ _ [_] (V12 ..) [(123,.agg #[.int .i64 a1,.slice bJ a0.length bK]),(124,.slice (some ⟨(E 1).1,0,none⟩) 1 1),(125,.agg #[.int .i64 a3,.slice bL a2.length bM]),(126,.slice (some ⟨(E 3).1,0,none⟩) 1 1),(127,.pointer (some ⟨aF,0,none⟩)),(128,.slice (E 5).2.2 (E 5).1 (E 5).2.1),(129,.pointer (some ⟨aF,0,none⟩)),(130,.slice (E 7).2.2 (E 7).1 (E 7).2.1),(131,.slice (some ⟨(E 8).1,0,none⟩) 4 4),(132,.bool true),(133,.bool true),(134,.pointer (some ⟨aF,0,none⟩)),(135,.slice (E 12).2.2 (E 12).1 (E 12).2.1),(136,.pointer (some ⟨bC,0,none⟩)),(137,.slice (E 14).2.2 (E 14).1 (E 14).2.1),(138,.bool true),(139,.bool true),(140,.bool true),(141,.bool true),(142,.bool true),(4,.bool true),_,_,_,_] .normal
 generalize (E 5).2.1 = d2
 generalize (E 5).1 = d3
 generalize (E 7).2.1 = d5
 generalize (E 7).1 = d6
 generalize (E 12).2.1 = d8
 generalize (E 12).1 = d9
 generalize (E 14).2.1 = dB
 generalize (E 14).1 = dC
 generalize (E 1).1 = e2
 generalize (E 3).1 = e4
 generalize (E 8).1 = e5
 generalize (E 5).2.2 = d1
 generalize (E 7).2.2 = d4
 generalize (E 12).2.2 = d7
 generalize (E 14).2.2 = dA
 refine Q4 (Q5 [4] (S':=[_]) Z (QP ?_))
 have hE:=(Zi hm).symm
 replace hE:=hE.symm
 subst hE
 refine QH (Hr:=[]) [] Tryz.results3 (QD Z) ⟨Z,Z,Z⟩ (asK [] Z) Z Z (.inl Z)
end Go.Proofs.YtgangmegcejllaaGreatDoor
