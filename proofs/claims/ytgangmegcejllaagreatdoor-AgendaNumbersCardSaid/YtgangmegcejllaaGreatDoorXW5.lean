import Derived.Test.YtgangmegcejllaaGreatDoorXW4
namespace Go.Proofs.YtgangmegcejllaaGreatDoor
open Go.RowKit
set_option maxRecDepth 100000
set_option maxHeartbeats 4000000
theorem Q7H (N:Nat) (a7:OA) (a8:Nat) (l0:List Int) (o2:List Int) (hm:Q4V N l0 = some o2):Q1z Tryz.prog 55 [.slice a7 l0.length a8] [.sli 1 Qh a7 a8 l0,tF] [] (fun v Φr Hr=>∃ (o0:OA) (o1:Nat) (o3:Nat),v = .slice o0 o3 o1 ∧ Φr = [] ∧ Hr = [.own 3 1 Qh (.slice o0 o3 o1) o2]):=by
 unfold Q4V at hm
 refine Q12 Tryz.func55 Z Tryz.ntmps55 Z (S:=[_]) Z (fun C=>(Q6 (Q3 (wP Z (Q2 (Q4 (Q5 [0] (S':=[_]) Z (Q6 (Q3 (wP Z (Q2 (Q4 (Q6 ?_)))))))))))))
 obtain ⟨aG,hm,hLj_1⟩:=Q7 hm
 refine Q15 (σ:=(List Int) × OA × Nat × Nat) (fun (a4,s,y,z)=>aG = a4) (fun (a4,s,y,z)=>[(3,.slice s z y)]) (fun (a4,s,y,z)=>[tF]) (fun (a4,s,y,z)=>[.own 3 1 Qh (.slice s z y) a4]) ?_ ?_
 refine Q6 (Q3 (wP Z (Q2 (Q4 (Qn (Q3K 3 1 Qh (Q1b (σ:=Nat × Nat × (List Int) × OA × Nat × Nat) (fun (aC,o,f,a1,a2,a3)=>Q1B (Q5G N l0) aC (o,f) = some aG) (fun (aC,o,f,a1,a2,a3)=>aC) (fun (aC,o,f,a1,a2,a3)=>[(4,.int .i64 ((o:Nat):Int)),(3,.slice a1 a3 a2),(0,.slice a7 l0.length a8)]) (fun (aC,o,f,a1,a2,a3)=>[.sli 1 Qh a7 a8 l0,tF]) (fun (aC,o,f,a1,a2,a3)=>[.own 3 1 Qh (.slice a1 a3 a2) f]) (N,0,[],none,0,0) hm [4,3,0] Z (asK [0,1] Z) Z (fun s_ hm=>?_))))))))
 obtain ⟨aC,o,f,a1,a2,a3⟩:=s_
 try dsimp only at hm ⊢
 obtain ⟨bK,bL,aP,hq,hLu1⟩:=Q18 hm
 clear hm
 subst aP
 replace hm:=hq
 clear hq
 unfold Q5G at hm
 try dsimp only at hm
 refine Q6 (Q6 (Q3 (wP Z (wP Z (wN Z Q1a (wP Z (Qx (d:=9) (v':=.bool (decide (o < l0.length))) (S':=V6 ..) Z Z (Q20 (a:=o) (b:=l0.length)) (Q2 (Q4 (Q5 [9,4,3,0] (S':=V4 ..) Z ?_))))))))))
 refine Qv Z (fun aN=>?_) (fun aN=>?_)
 replace hm:=Q1m hm aN
 refine Q5 [4,3,0] (S':=V3 ..) Z (Qt (Q4 (Q6 (Qn (Q6 (Q3 (wP Z (QQ 0 Z (fun aQ _=>(wN Z Q1a (Qx (d:=13) (v':=.int .i64 ((f.length:Nat):Int)) (S':=V4 ..) Z Z (Q3F aQ) (wP Z (Q2 (Q4 ?_))))))))))))))
 refine Q5 [5,4,3,0] (S':=V4 ..) Z (Q6 (Q3 (wP Z (Qq Z Z Z Zq Z Q1a Q1i Q3S Z (zs:=[.int .i64 0]) (by kernel_rfl) Z (out:=[_]) Z (fun bM=>?_)))))
 obtain ⟨aH,hm⟩:=Qd hm
 refine Q21 [0] 1 0 Z Z Z Zq Z Z Z Z Z (fun F w hφ=>⟨[.int .i64 0],[],Z,Z,⟨(),Z,Ql⟩,Z⟩) Q1a tR_3 Z Z (Nat.le_trans aH (by decide)) (Nat.le_trans (Nat.mul_le_mul_right _ aH) (by decide)) (H2:=fun aA a9=>[_,.own 3 1 Qh (.slice aA ((f ++ [0]).length) a9) (f ++ [0])]) (fun _ _=>Z) (fun aA a9=>(Q2J 0 Z (H':=[_]) Z (QM (S':=V6 ..) Z Z Z Z Z (Q2 (Q4 (Q5 [3,5,4,0] (S':=V4 ..) Z (Q6 ?_)))))))
 obtain ⟨aI,hm,hLj_2⟩:=Q7 hm
 refine Q15 (σ:=(List Int) × Int) (fun (a0,a5)=>aI = (a0,a5)) (fun (a0,a5)=>[(3,.slice aA ((f ++ [0]).length) a9),(5,.int .i64 a5),(4,.int .i64 ((o:Nat):Int)),(0,.slice a7 l0.length a8)]) (fun (a0,a5)=>[.sli 1 Qh a7 a8 l0,tF]) (fun (a0,a5)=>[.own 3 1 Qh (.slice aA ((f ++ [0]).length) a9) a0]) ?_ ?_
 refine Qn (Q1b (σ:=Nat × (List Int) × Int) (fun (aD,q,j)=>Q1B (Q5H N l0 o) aD (q,j) = some aI) (fun (aD,q,j)=>aD) (fun (aD,q,j)=>[(3,.slice aA ((f ++ [0]).length) a9),(5,.int .i64 j),(4,.int .i64 ((o:Nat):Int)),(0,.slice a7 l0.length a8)]) (fun (aD,q,j)=>[.sli 1 Qh a7 a8 l0,tF]) (fun (aD,q,j)=>[.own 3 1 Qh (.slice aA ((f ++ [0]).length) a9) q]) (N,f ++ [0],((f.length:Nat):Int)) hm [3,5,4,0] Z (asK [0,1] Z) Z (fun s_ hm=>?_))
 obtain ⟨aD,q,j⟩:=s_
 try dsimp only at hm ⊢
 obtain ⟨bN,bO,aR,hq,hLu2⟩:=Q18 hm
 clear hm
 subst aR
 replace hm:=hq
 clear hq
 unfold Q5H at hm
 try dsimp only at hm
 refine Q6 (Q6 ?_)
 obtain ⟨aS,hm,hLj_3⟩:=Q7 hm
 unfold Q7o at hm
 refine Q15 (σ:=Bool) (fun a6=>aS = a6) (fun a6=>[(3,.slice aA ((f ++ [0]).length) a9),(5,.int .i64 j),(4,.int .i64 ((o:Nat):Int)),(0,.slice a7 l0.length a8),(30,.bool a6)]) (fun a6=>[.sli 1 Qh a7 a8 l0,tF]) (fun a6=>[.own 3 1 Qh (.slice aA ((f ++ [0]).length) a9) q]) ?_ ?_
 rcases Q2k hm with ⟨aE,hm⟩ | ⟨aE,hm⟩
 obtain ⟨aT,hm⟩:=Qd hm
 obtain ⟨aU,hm⟩:=Qd hm
 obtain ⟨aV,aJ,hm⟩:=Q7 hm
 obtain ⟨bA,aW,hm⟩:=Q7 hm
 refine QV [0,1,2,3,4,5,6,7,8,9,10,11,12,13] Z Z (fun hok=>(xP hok 0 Z (xP hok 1 Z (xP hok 2 Z (Q1g (d:=19) (v':=.bool true) (S':=V6 ..) Z Z (Q16 aE) (xP hok 3 Z (xP hok 4 Z (xP hok 5 Z (Q1g (d:=22) (v':=.int .i64 (j - 1)) (S':=V9 ..) Z Z (i64_in aT) (Q1C hok 6 0 ((j - 1).toNat) Z Z Z Zq Z Z Z Z Z (QK aU) (QB aJ) Q1a Q1i (fun bP aX=>?_)))))))))))
 subst aX
 refine Q2v hok 7 Q1D 0 ((j - 1).toNat) 0 Z Z Z Zq Z Z Z Z aJ Q1i Q2d (v:=.int .i64 aV) Z Z (fun _=>(xP hok 8 Z (xP hok 9 Z (Q1o hok 10 0 o Z Z Z Zq Z Z Z Z Z Z aW Q1a Q1i (fun bQ bR bI bB=>(Q1u Q1D 1 Z (fun bS aY _=>?_)))))))
 subst aY
 refine Q1I hok 11 0 0 Z Z Z Zq Z Z Z Z (cs:=[_]) Z Q1i Q2d Z Z (xP hok 12 Z (xP hok 13 Z (QI hok Z ?_)))
 have hE:=(Zi hm).symm
 refine Qp (decide (aV < bA)) hE [3,5,4,0,30] Z (asK [2,3] Z) Z
 refine QV [0,1,2,3,4,5,6,7,8,9,10,11,12,13] Z Z (fun hok=>(xP hok 0 Z (xP hok 1 Z (xP hok 2 Z (Q1g (d:=19) (v':=.bool false) (S':=V6 ..) Z Z (Q16 aE) (xO hok 3 Z (xO hok 4 Z (xO hok 5 Z (xO hok 6 Z (xO hok 7 Z (xO hok 8 Z (xO hok 9 Z (xO hok 10 Z (xO hok 11 Z ?_))))))))))))))
 refine xO hok 12 Z (xP hok 13 Z (QI hok Z ?_))
 have hE:=(Zi hm).symm
 refine Qp false hE [3,5,4,0,30] Z (asK [0,1] Z) Z
 rintro a6 hE
 try dsimp only
 have hm:=hLj_3
 try rw [hE] at hm
 refine Qv Z (fun aF=>?_) (fun aF=>?_)
 replace hm:=Q1m hm aF
 refine Q5 [3,5,4,0] (S':=V4 ..) Z (Qt (Q4 (Qn (Q6 (Q3 (wP Z (wP Z (wP Z (wP Z (wP Z ?_))))))))))
 obtain ⟨aZ,hm⟩:=Qd hm
 refine Qx (d:=35) (v':=.int .i64 (j - 1)) (S':=V8 ..) Z Z (i64_in aZ) ?_
 obtain ⟨b0,hm⟩:=Qd hm
 obtain ⟨aO,aK,hm⟩:=Q7 hm
 refine Q24 0 ((j - 1).toNat) Z Z Z Zq Z Z Z Z (QK b0) (QB aK) Q1a Q1i (fun bT b1=>?_)
 subst b1
 refine Qk Q1D 0 ((j - 1).toNat) 0 Z Z Z Zq Z Z Z aK Q1i Q2d (v:=fun _=>.int .i64 aO) (fun _=>Z) (fun _=>Z) (fun _ _=>?_)
 obtain ⟨b2,hm⟩:=Qd hm
 obtain ⟨bU,aL,hm⟩:=Q7 hm
 refine Q6C 0 j.toNat Z Z Z Zq Z Z Z Z (QK b2) (QB aL) Q1a Q1i (Q10 (u:=aO) 0 j.toNat Z Z Z Z Z (QB aL) Z Z Q1i Z (fun F w hφ=>⟨(),Z,Ql⟩) (H':=[_]) Z (Q2 (Q4 (Q5 [3,5,4,0] (S':=V4 ..) Z (Q3 (wP Z (wP Z ?_)))))))
 obtain ⟨b3,hm⟩:=Qd hm
 refine Qx (d:=40) (v':=.int .i64 (j - 1)) (S':=V5 ..) Z Z (i64_in b3) (QM (S':=V5 ..) Z Z Z Z Z (Q2 (Qi ?_)))
 have hE:=(Zi hm).symm
 replace hE:=Q11 hLu2 hE
 refine Q14 (_,q.set j.toNat aO,j - 1) (Nat.lt_succ_self _) hE [3,5,4,0] Z (asK [0,1] Z) Z
 replace hm:=Q1l hm aF
 refine Q5 [3,5,4,0] (S':=V4 ..) Z (Q19 (Qc (Qc (Qu ?_))))
 have hE:=(Zi hm).symm
 replace hE:=QE hLu2 hE
 refine Qp (q,j) hE [3,5,4,0] Z (asK [0,1] Z) Z
 rintro ⟨a0,a5⟩ hE
 try dsimp only
 have hm:=hLj_2
 try rw [hE] at hm
 try dsimp only at hm
 refine Q3 (wP Z (wP Z (wP Z (wP Z ?_))))
 obtain ⟨b4,b5,hm⟩:=Q7 hm
 refine Q3z 0 o Z Z Z Zq Z Z Z Z Z b5 Q1a Q1i (fun bV bW bJ bC=>(Q5m Q1D 1 Z (fun bX b6 _=>?_)))
 subst b6
 refine Q5l 0 0 Z Z Z Zq Z Z Z (cs:=[_]) Z Q1i Q2d Z Z ?_
 obtain ⟨b7,hm⟩:=Qd hm
 obtain ⟨bY,aM,hm⟩:=Q7 hm
 refine Q24 0 a5.toNat Z Z Z Zq Z Z Z Z (QK b7) (QB aM) Q1a Q1i (fun bD b8=>?_)
 subst b8
 refine Q10 (u:=b4) 0 a5.toNat Z Z Z Z Z (QB aM) Z Z Q1i Z (fun F w hφ=>⟨(),Z,Ql⟩) (H':=[_]) Z (Q2 (Qi (Q4 (Q5 [3,4,0] (S':=V3 ..) Z (Q3 (wP Z (wP Z ?_)))))))
 obtain ⟨b9,hm⟩:=Qd hm
 refine Qx (d:=11) (v':=.int .i64 ((o + 1:Nat):Int)) (S':=V4 ..) Z Z (Q1f (a:=o) (b:=1) b9) (QM (S':=V4 ..) Z Z Z Z Z (Q2 ?_))
 have hE:=(Zi hm).symm
 replace hE:=Q11 hLu1 hE
 refine Q14 (_,o + 1,a0.set a5.toNat b4,some ⟨bD,0,none⟩,a9,(f ++ [0]).length) (Nat.lt_succ_self _) hE [4,3,0] Z (asK [2,3] Z) Z
 replace hm:=Q1l hm aN
 refine Q5 [3] (S':=[_]) Z (Q19 (Qc (Qc (Qu ?_))))
 have hE:=(Zi hm).symm
 replace hE:=QE hLu1 hE
 refine Qp (f,a1,a2,a3) hE [3] Z (asK [1] Z) Z
 rintro ⟨a4,s,y,z⟩ hE
 try dsimp only
 have hm:=hLj_1
 try rw [hE] at hm
 refine Q6 (Q3 (wP Z (wP Z (Q2 (Q4 (Q5 [2] (S':=[_]) Z (QJ ?_)))))))
 have hE:=(Zi hm).symm
 replace hE:=hE.symm
 subst hE
 refine QA (Hr:=[_]) [0] Tryz.results55 (Qy Z) ⟨s,y,z,Z,Z,Z⟩ (asK [] Z) Z Z (.inl Z)
theorem Q31 (N:Nat) (aM:OA) (aN:Nat) (l0:List Qw) (aO:OA) (aP:Nat) (l1:List QP) (a2:Int) (a6:OA) (a7:Nat) (l3:List Int) (a4:Int) (a8:OA) (a9:Nat) (l5:List Int) (o0:Bool) (hm:Q3s N l0 l1 a2 l3 a4 l5 = some o0):Q1z Tryz.prog 34 [.agg #[.slice aM l0.length aN,.slice aO l1.length aP],.agg #[.int .i64 a2,.slice a6 l3.length a7],.agg #[.int .i64 a4,.slice a8 l5.length a9]] [.sli 2 QL aM aN l0,.sli 5 QO aO aP l1,.sli 1 Qh a6 a7 l3,.sli 1 Qh a8 a9 l5,tF] [] (fun v Φr Hr=>v = .bool o0 ∧ Φr = [] ∧ Hr = []):=by
 unfold Q3s at hm
 refine Q12 Tryz.func34 Z Tryz.ntmps34 Z (S:=V3 ..) Z (fun C=>(Q6 (Q3 (wB Z (fun g3=>(wB Z (fun g4=>(wB Z (fun g5=>(wP Z (Q2 (Q4 (Q5 [5,4,3] (S':=V3 ..) Z (Q6 ?_))))))))))))))
 obtain ⟨cC,b6,hm⟩:=Q7 hm
 obtain ⟨cD,b7,hm⟩:=Q7 hm
 refine QV [0,1,3,4] Z Z (fun hok=>(Qr hok 0 2 0 Z Z Z Zq Z Z Z Z (cs:=[_,_]) Z Q4z Q5L Z Z (Qr hok 1 1 0 Z Z Z Zq Z Z Z Z (cs:=[_,_]) Z Qg QT Z Z (Qr hok 3 2 0 Z Z Z Zq Z Z Z Z (cs:=[_,_]) Z Q4z Q5L Z Z (Qr hok 4 0 0 Z Z Z Zq Z Z Z Z (cs:=[_,_]) Z Qg QT Z Z (xS hok 2 Z (wC [] [0,1,2] Z fn_54 Z (Q7t N aM aN l0 aO aP l1 a2 a6 a7 l3 _ b6) (asK [0,1,2,4] Z) Z (H':=V3 ..) Z ?_)))))))
 rintro _ _ _ ⟨rfl,rfl,rfl⟩
 refine Q2 (Qs [0,1,2,3,4] [0,2] Z Z (xS hok 5 Z (wC [] [0,1,2] Z fn_54 Z (Q7t N aM aN l0 aO aP l1 a4 a8 a9 l5 _ b7) (asK [0,1,3,4] Z) Z (H':=V3 ..) Z ?_)))
 rintro _ _ _ ⟨rfl,rfl,rfl⟩
 refine Q2 (Qs [0,1,2,3,4] [1,2] Z Z (xS hok 6 Z (wP Z (Q2 (Qs [0,1,2,3,4] [0,2] Z Z (xS hok 7 Z (wP Z (Q2 (Qs [0,1,2,3,4] [] Z Z (QI hok Z (Q4 (Q5 [8,7,5,4] (S':=V4 ..) Z (Q6 ?_)))))))))))))
 refine Q6 (Q3 (wP Z (wP Z (wP Z (Q2 (Q4 (Q5 [21,8,7,5,4] (S':=V5 ..) Z ?_)))))))
 refine Qv Z (fun aE=>?_) (fun aE=>?_)
 replace hm:=Q1m hm aE
 refine Q5 [8,7] (S':=[_,_]) Z (Q6 (Q3 (wP Z (wP Z (wP Z (wP Z (Q2 (Q4 (Q5 [6] (S':=[_]) Z (QJ (Qj ?_)))))))))))
 have hE:=(Zi hm).symm
 replace hE:=hE.symm
 subst hE
 refine QA (Hr:=[]) [] Tryz.results34 (Qy Z) ⟨Z,Z,Z⟩ (asK [] Z) Z Z (.inl Z)
 replace hm:=Q1l hm aE
 refine Q5 [5,4] (S':=[_,_]) Z (Qt (Q4 (Q6 ?_)))
 obtain ⟨s,b8,hm⟩:=Q7 hm
 obtain ⟨q,b9,hm⟩:=Q7 hm
 refine QV [0,1,3,4] Z Z (fun hok=>(Qm hok 0 Z Z Z Zq Z Z Z Q2i (Qr hok 1 1 1 Z Z Z Zq Z Z Z Z (cs:=[_]) Z Q1T Q2Q Z Z (Qm hok 3 Z Z Z Zq Z Z Z Q2i (Qr hok 4 0 1 Z Z Z Zq Z Z Z Z (cs:=[_]) Z Q1T Q2Q Z Z (xS hok 2 Z (wC [] [0,1,2] Z fn_55 Z (Q7H N a6 a7 l3 _ b8) (asK [2,4] Z) Z (H':=V3 ..) Z ?_)))))))
 rintro _ _ _ ⟨y,z,a0,rfl,rfl,rfl⟩
 refine Q2 (Qs [0,1,2,3,4] [1] Z Z (xS hok 5 Z (wC [] [0,1,2,3] Z fn_55 Z (Q7H N a8 a9 l5 _ b9) (asK [3,4] Z) Z (H':=V4 ..) Z ?_)))
 rintro _ _ _ ⟨a1,a3,a5,rfl,rfl,rfl⟩
 refine Q2 (Qs [0,1,2,3,4] [3] Z Z (xS hok 6 Z (wP Z (Q2 (Qs [0,1,2,3,4] [2] Z Z (xS hok 7 Z (wP Z (Q2 (Qs [0,1,2,3,4] [] Z Z (QI hok Z (Q4 (Q5 [10,9,5,4] (S':=V4 ..) Z (Q6 ?_)))))))))))))
 obtain ⟨aS,hm,hLj_1⟩:=Q1R hm
 refine Q15 (σ:=Unit) (fun _=>aS = .inl ()) (fun _=>[(10,.slice a1 a5 a3),(9,.slice y a0 z),(5,.pointer (some ⟨g5,0,none⟩)),(4,.pointer (some ⟨g4,0,none⟩))]) (fun _=>[.sli 1 Qh a8 a9 l5,.sli 1 Qh a6 a7 l3,tF]) (fun _=>[.own 3 1 Qh (.slice a1 a5 a3) q,.own 3 1 Qh (.slice y a0 z) s,.blk g5 [.int .i64 a4,.slice a8 l5.length a9] 45,.blk g4 [.int .i64 a2,.slice a6 l3.length a7] 45]) ?_ ?_
 refine Q6 (Q3 (wP Z (Q2 (Q4 (Qn (Q3l [0,1,2,3] Z (H':=V4 ..) Z (Q1b (σ:=Nat × Nat) (fun (aB,f)=>Q1B (Q5W N s q) aB f = some aS) (fun (aB,f)=>aB) (fun (aB,f)=>[(11,.int .i64 ((f:Nat):Int)),(10,.slice a1 a5 a3),(9,.slice y a0 z),(5,.pointer (some ⟨g5,0,none⟩)),(4,.pointer (some ⟨g4,0,none⟩))]) (fun (aB,f)=>[.sli 1 Qh a8 a9 l5,.sli 1 Qh a6 a7 l3,tF]) (fun (aB,f)=>[.own 3 1 Qh (.slice a1 a5 a3) q,.own 3 1 Qh (.slice y a0 z) s,.blk g5 [.int .i64 a4,.slice a8 l5.length a9] 45,.blk g4 [.int .i64 a2,.slice a6 l3.length a7] 45]) (N,0) hm [11,10,9,5,4] Z (asK [3,2,4] Z) Z (fun s_ hm=>?_))))))))
 obtain ⟨aB,f⟩:=s_
 try dsimp only at hm ⊢
 obtain ⟨cE,cF,bA,hq,hLu1⟩:=Q18 hm
 clear hm
 subst bA
 replace hm:=hq
 clear hq
 unfold Q5W at hm
 try dsimp only at hm
 refine Q6 (Q6 ?_)
 obtain ⟨bB,hm,hLj_2⟩:=Q7 hm
 refine Q15 (σ:=Bool) (fun o=>bB = o) (fun o=>[(11,.int .i64 ((f:Nat):Int)),(10,.slice a1 a5 a3),(9,.slice y a0 z),(5,.pointer (some ⟨g5,0,none⟩)),(4,.pointer (some ⟨g4,0,none⟩)),(40,.bool o)]) (fun o=>[.sli 1 Qh a8 a9 l5,.sli 1 Qh a6 a7 l3,tF]) (fun o=>[.own 3 1 Qh (.slice a1 a5 a3) q,.own 3 1 Qh (.slice y a0 z) s,.blk g5 [.int .i64 a4,.slice a8 l5.length a9] 45,.blk g4 [.int .i64 a2,.slice a6 l3.length a7] 45]) ?_ ?_
 refine Q3 (wP Z (wP Z (QQ 1 Z (fun bC _=>(wN Z Q1a (Qx (d:=33) (v':=.int .i64 ((s.length:Nat):Int)) (S':=V7 ..) Z Z (Q3F bC) (wP Z (Qx (d:=34) (v':=.bool (decide (f < s.length))) (S':=V8 ..) Z Z (Q20 (a:=f) (b:=s.length)) (wP Z ?_)))))))))
 refine Q28 (d:=35) (S':=V9 ..) Z Z (fun aF=>?_) (fun aF=>?_)
 replace hm:=Q1m hm aF
 refine wP Z (wP Z (QQ 0 Z (fun bD _=>(wN Z Q1a (Qx (d:=38) (v':=.int .i64 ((q.length:Nat):Int)) (S':=V12 ..) Z Z (Q3F bD) (wP Z (Qx (d:=39) (v':=.bool (decide (f < q.length))) (S':=V13 ..) Z Z (Q20 (a:=f) (b:=q.length)) (wP Z (Q2 ?_)))))))))
 have hE:=(Zi hm).symm
 refine Qp (decide (f < q.length)) hE [11,10,9,5,4,40] Z (asK [0,1,2] Z) Z
 replace hm:=Q1l hm aF
 refine wO Z (wO Z (wO Z (wO Z (wP Z (Q2 ?_)))))
 have hE:=(Zi hm).symm
 refine Qp false hE [11,10,9,5,4,40] Z (asK [0,1,2] Z) Z
 rintro o hE
 try dsimp only
 have hm:=hLj_2
 try rw [hE] at hm
 refine Qv Z (fun aG=>?_) (fun aG=>?_)
 replace hm:=Q1m hm aG
 refine Q5 [11,10,9,5,4] (S':=V5 ..) Z (Qt (Q4 (Q6 (Qn (Q6 ?_)))))
 obtain ⟨bT,aT,hm⟩:=Q7 hm
 obtain ⟨bU,aU,hm⟩:=Q7 hm
 refine QV [0,1,2,3,4,5,6,7,8] Z Z (fun hok=>(xP hok 0 Z (xP hok 1 Z (Q1C hok 2 1 f Z Z Z Zq Z Z Z Z Z Z (QB aT) Q1a Q1i (fun cG bE=>?_)))))
 subst bE
 refine Q2v hok 3 Q1D 1 f 0 Z Z Z Zq Z Z Z Z aT Q1i Q2d (v:=.int .i64 bT) Z Z (fun _=>(xP hok 4 Z (xP hok 5 Z (Q1C hok 6 0 f Z Z Z Zq Z Z Z Z Z Z (QB aU) Q1a Q1i (fun cH bF=>?_)))))
 subst bF
 refine Q2v hok 7 Q1D 0 f 0 Z Z Z Zq Z Z Z Z aU Q1i Q2d (v:=.int .i64 bU) Z Z (fun _=>(xP hok 8 Z (QI hok Z (Q4 (Q5 [51,11,10,9,5,4] (S':=V6 ..) Z ?_)))))
 refine Qv Z (fun aH=>?_) (fun aH=>?_)
 replace hm:=Q1m hm aH
 refine Q5 [11,10,9] (S':=V3 ..) Z (Q6 ?_)
 obtain ⟨bV,aV,hm⟩:=Q7 hm
 obtain ⟨bW,aW,hm⟩:=Q7 hm
 refine QV [0,1,2,3,4,5,6,7,8] Z Z (fun hok=>(xP hok 0 Z (xP hok 1 Z (QS hok 2 1 f Z Z Z Zq Z Z Z Z Z Z (QB aV) Q1a Q1i (Q2v hok 3 Q1D 1 f 0 Z Z Z Zq Z Z Z Z aV Q1i Q2d (v:=.int .i64 bV) Z Z (fun _=>(xP hok 4 Z (xP hok 5 Z (QS hok 6 0 f Z Z Z Zq Z Z Z Z Z Z (QB aW) Q1a Q1i (Q2v hok 7 Q1D 0 f 0 Z Z Z Zq Z Z Z Z aW Q1i Q2d (v:=.int .i64 bW) Z Z (fun _=>(xP hok 8 Z (xS hok 9 Z (wP Z (Q2 (Qs [0,1,2] [] Z Z ?_))))))))))))))))
 refine QI hok Z (Q4 (Q5 [6] (S':=[_]) Z (QJ (QR (Qj (Qj (QR (Qj ?_))))))))
 have hE:=(Zi hm).symm
 replace hE:=QE hLu1 hE
 replace hE:=QE hLj_1 hE
 replace hE:=hE.symm
 subst hE
 refine QA (Hr:=[]) [] Tryz.results34 (Qy Z) ⟨Z,Z,Z⟩ (asK [] Z) Z Z (.inl Z)
 replace hm:=Q1l hm aH
 refine Q5 [11,10,9,5,4] (S':=V5 ..) Z (Qt (Qi (Q4 (Q3 (wP Z (wP Z ?_))))))
 obtain ⟨bG,hm⟩:=Qd hm
 refine Qx (d:=42) (v':=.int .i64 ((f + 1:Nat):Int)) (S':=V6 ..) Z Z (Q1f (a:=f) (b:=1) bG) (QM (S':=V6 ..) Z Z Z Z Z (Q2 ?_))
 have hE:=(Zi hm).symm
 replace hE:=Q11 hLu1 hE
 refine Q14 (_,f + 1) (Nat.lt_succ_self _) hE [11,10,9,5,4] Z (asK [0,1,2] Z) Z
 replace hm:=Q1l hm aG
 refine Q5 [10,9,5,4] (S':=V4 ..) Z (Q19 (Qc (Qc (Qu ?_))))
 have hE:=(Zi hm).symm
 replace hE:=QE hLu1 hE
 refine Qp () hE [10,9,5,4] Z (asK [0,1,2] Z) Z
 rintro _ hE
 try dsimp only
 have hm:=Q11 hLj_1 hE
 try dsimp only at hm
 refine Q6 (Q6 (Q3 (wP Z (QQ 1 Z (fun bH _=>(wN Z Q1a (Qx (d:=62) (v':=.int .i64 ((s.length:Nat):Int)) (S':=V5 ..) Z Z (Q3F bH) (wP Z (QQ 0 Z (fun bI _=>(wN Z Q1a (Qx (d:=64) (v':=.int .i64 ((q.length:Nat):Int)) (S':=V7 ..) Z Z (Q3F bI) (wP Z (Qx (d:=65) (v':=.bool (s.length != q.length)) (S':=V8 ..) Z Z (Q8e (a:=s.length) (b:=q.length)) (Q2 ?_)))))))))))))))
 refine Q4 (Q5 [65,10,9,5,4] (S':=V5 ..) Z ?_)
 refine Qv Z (fun aI=>?_) (fun aI=>?_)
 replace hm:=Q1m hm aI
 refine Q5 [10,9] (S':=[_,_]) Z (Q6 (Q3 (wP Z (QQ 1 Z (fun bJ _=>(wN Z Q1a (Qx (d:=67) (v':=.int .i64 ((s.length:Nat):Int)) (S':=V3 ..) Z Z (Q3F bJ) (wP Z (QQ 0 Z (fun bK _=>(wN Z Q1a (Qx (d:=69) (v':=.int .i64 ((q.length:Nat):Int)) (S':=V5 ..) Z Z (Q3F bK) (wP Z (Qx (d:=70) (v':=.bool (decide (q.length < s.length))) (S':=V6 ..) Z Z (natgt (a:=s.length) (b:=q.length)) (wP Z ?_)))))))))))))))
 refine Q2 (Q4 (Q5 [6] (S':=[_]) Z (QJ (Qj ?_))))
 have hE:=(Zi hm).symm
 replace hE:=hE.symm
 subst hE
 refine QA (Hr:=[]) [] Tryz.results34 (Qy Z) ⟨Z,Z,Z⟩ (asK [] Z) Z Z (.inl Z)
 replace hm:=Q1l hm aI
 refine Q5 [5,4] (S':=[_,_]) Z (Qt (Q4 (Q6 (Q6 (Q3 (wF Z Q22 (wD 3 0 Z Q1i Q2d Z (wF Z Q22 (wD 2 0 Z Q1i Q2d Z (wP Z (Q2 (Q4 (Q5 [75,5,4] (S':=V3 ..) Z ?_)))))))))))))
 refine Qv Z (fun aJ=>?_) (fun aJ=>?_)
 replace hm:=Q1m hm aJ
 refine Q5 [5,4] (S':=[_,_]) Z (Q6 (Q3 (wF Z Q22 (wD 3 0 Z Q1i Q2d Z (wF Z Q22 (wD 2 0 Z Q1i Q2d Z (wP Z (wP Z (Q2 (Q4 (Q5 [6] (S':=[_]) Z (QJ (Qj ?_)))))))))))))
 have hE:=(Zi hm).symm
 replace hE:=hE.symm
 subst hE
 refine QA (Hr:=[]) [] Tryz.results34 (Qy Z) ⟨Z,Z,Z⟩ (asK [] Z) Z Z (.inl Z)
 replace hm:=Q1l hm aJ
 refine Q5 [5,4] (S':=[_,_]) Z (Qt (Q4 (Q6 ?_)))
 obtain ⟨aX,hm,hLj_3⟩:=Q1R hm
 refine Q15 (σ:=Unit) (fun _=>aX = .inl ()) (fun _=>[]) (fun _=>[tF]) (fun _=>[]) ?_ ?_
 refine Q6 (Q3 (wP Z (Q2 (Q4 (Qn (Q3l [2,3] Z (H':=[_,_]) Z (Q1b (σ:=Nat × Nat) (fun (aC,j)=>Q1B (Q5X N l3 l5) aC j = some aX) (fun (aC,j)=>aC) (fun (aC,j)=>[(12,.int .i64 ((j:Nat):Int)),(5,.pointer (some ⟨g5,0,none⟩)),(4,.pointer (some ⟨g4,0,none⟩))]) (fun (aC,j)=>[.sli 1 Qh a8 a9 l5,.sli 1 Qh a6 a7 l3,tF]) (fun (aC,j)=>[.blk g5 [.int .i64 a4,.slice a8 l5.length a9] 45,.blk g4 [.int .i64 a2,.slice a6 l3.length a7] 45]) (N,0) hm [12,5,4] Z (asK [0,1,2] Z) Z (fun s_ hm=>?_))))))))
 obtain ⟨aC,j⟩:=s_
 try dsimp only at hm ⊢
 obtain ⟨cI,cJ,bL,hq,hLu2⟩:=Q18 hm
 clear hm
 subst bL
 replace hm:=hq
 clear hq
 unfold Q5X at hm
 try dsimp only at hm
 refine Q6 (Q6 (Q3 (wP Z (wF Z Q2i (wD 1 1 Z Q1T Q2Q Z (wN Z Q1a (wP Z (Qx (d:=85) (v':=.bool (decide (j < l3.length))) (S':=V7 ..) Z Z (Q20 (a:=j) (b:=l3.length)) (Q2 (Q4 (Q5 [85,12,5,4] (S':=V4 ..) Z ?_)))))))))))
 refine Qv Z (fun aK=>?_) (fun aK=>?_)
 replace hm:=Q1m hm aK
 refine Q5 [12,5,4] (S':=V3 ..) Z (Qt (Q4 (Q6 (Qn (Q6 ?_)))))
 obtain ⟨cK,bM,hm⟩:=Q7 hm
 obtain ⟨cL,bN,hm⟩:=Q7 hm
 refine QV [0,1,2,3,4,5,6,7,8,9,10] Z Z (fun hok=>(Qm hok 0 Z Z Z Zq Z Z Z Q2i (Qr hok 1 1 1 Z Z Z Zq Z Z Z Z (cs:=[_]) Z Q1T Q2Q Z Z (xP hok 2 Z (Q1o hok 3 1 j Z Z Z Zq Z Z Z Z Z Z bM Q1a Q1i (fun cM cN c2 bX=>(Q1u Q1D 1 Z (fun cO bO _=>?_))))))))
 subst bO
 refine Q1I hok 4 0 0 Z Z Z Zq Z Z Z Z (cs:=[_]) Z Q1i Q2d Z Z (Qm hok 5 Z Z Z Zq Z Z Z Q2i (Qr hok 6 0 1 Z Z Z Zq Z Z Z Z (cs:=[_]) Z Q1T Q2Q Z Z (xP hok 7 Z (Q1o hok 8 2 j Z Z Z Zq Z Z Z Z Z Z bN Q1a Q1i (fun cP cQ c3 bY=>(Q1u Q1D 1 Z (fun cR bP _=>?_)))))))
 subst bP
 refine Q1I hok 9 0 0 Z Z Z Zq Z Z Z Z (cs:=[_]) Z Q1i Q2d Z Z (xP hok 10 Z (QI hok Z (Q4 (Q5 [98,12,5,4] (S':=V4 ..) Z ?_))))
 refine Qv Z (fun aL=>?_) (fun aL=>?_)
 replace hm:=Q1m hm aL
 refine Q5 [12,5,4] (S':=V3 ..) Z (Q6 ?_)
 obtain ⟨c4,b0,hm⟩:=Q7 hm
 obtain ⟨c5,b1,hm⟩:=Q7 hm
 refine QV [0,1,2,3,4,5,6,7,8,9,10] Z Z (fun hok=>(Qm hok 0 Z Z Z Zq Z Z Z Q2i (Qr hok 1 1 1 Z Z Z Zq Z Z Z Z (cs:=[_]) Z Q1T Q2Q Z Z (xP hok 2 Z (Q1o hok 3 5 j Z Z Z Zq Z Z Z Z Z Z b0 Q1a Q1i (fun c6 c7 bZ bR=>(Q1u Q1D 1 Z (fun c8 b2 _=>?_))))))))
 subst b2
 refine Q1I hok 4 0 0 Z Z Z Zq Z Z Z Z (cs:=[_]) Z Q1i Q2d Z Z (Qm hok 5 Z Z Z Zq Z Z Z Q2i (Qr hok 6 0 1 Z Z Z Zq Z Z Z Z (cs:=[_]) Z Q1T Q2Q Z Z (xP hok 7 Z (Q1o hok 8 6 j Z Z Z Zq Z Z Z Z Z Z b1 Q1a Q1i (fun c9 cA c0 bS=>(Q1u Q1D 1 Z (fun cB b3 _=>?_)))))))
 subst b3
 refine Q1I hok 9 0 0 Z Z Z Zq Z Z Z Z (cs:=[_]) Z Q1i Q2d Z Z (xP hok 10 Z (xS hok 11 Z (wP Z (Q2 (Qs [0,1,2,3,4,5,6,7,8,9,10] [] Z Z (QI hok Z (Q4 (Q5 [6] (S':=[_]) Z (QJ (QR (Qj (Qj (QR ?_)))))))))))))
 refine Qj ?_
 have hE:=(Zi hm).symm
 replace hE:=QE hLu2 hE
 replace hE:=QE hLj_3 hE
 replace hE:=hE.symm
 subst hE
 refine QA (Hr:=[]) [] Tryz.results34 (Qy Z) ⟨Z,Z,Z⟩ (asK [] Z) Z Z (.inl Z)
 replace hm:=Q1l hm aL
 refine Q5 [12,5,4] (S':=V3 ..) Z (Qt (Qi (Q4 (Q3 (wP Z (wP Z ?_))))))
 obtain ⟨bQ,hm⟩:=Qd hm
 refine Qx (d:=87) (v':=.int .i64 ((j + 1:Nat):Int)) (S':=V4 ..) Z Z (Q1f (a:=j) (b:=1) bQ) (QM (S':=V4 ..) Z Z Z Z Z (Q2 ?_))
 have hE:=(Zi hm).symm
 replace hE:=Q11 hLu2 hE
 refine Q14 (_,j + 1) (Nat.lt_succ_self _) hE [12,5,4] Z (asK [4,5,6] Z) Z
 replace hm:=Q1l hm aK
 refine Q5 [] (S':=[]) Z (Q19 (Qc (Qc (Qu ?_))))
 have hE:=(Zi hm).symm
 replace hE:=QE hLu2 hE
 refine Q17 [] Z (H':=[]) Z ?_
 refine Qp () hE [] Z (asK [2] Z) Z
 rintro _ hE
 try dsimp only
 have hm:=Q11 hLj_3 hE
 try dsimp only at hm
 refine Q6 (Q3 (wP Z (Q2 (Q4 (QJ ?_)))))
 have hE:=(Zi hm).symm
 replace hE:=hE.symm
 subst hE
 refine QA (Hr:=[]) [] Tryz.results34 (Qy Z) ⟨Z,Z,Z⟩ (asK [] Z) Z Z (.inl Z)
theorem Q9s (N:Nat) (y:OA) (z:Nat) (l0:List Int) (k1:Nat) (a0:OA) (a1:Nat) (l2:List Int) (o0:Bool) (hm:Q6f N l0 k1 l2 = some o0):Q1z Tryz.prog 35 [.slice y k1 z,.slice a0 l2.length a1] [.sli 1 Qh y z l0,.sli 1 Qh a0 a1 l2] [] (fun v Φr Hr=>v = .bool o0 ∧ Φr = [] ∧ Hr = []):=by
 unfold Q6f at hm
 refine Q12 Tryz.func35 Z Tryz.ntmps35 Z (S:=[_,_]) Z (fun C=>(Q6 (Q3 (wP Z (Q2 (Q4 (Q5 [0,1] (S':=[_,_]) Z (Q6 (Q6 (Q3 (wP Z (wN Z Q1a (wP Z (wN Z Q1a ?_))))))))))))))
 refine wP Z (Qx (d:=10) (v':=.bool (k1 != l2.length)) (S':=V6 ..) Z Z (Q8e (a:=k1) (b:=l2.length)) (Q2 (Q4 (Q5 [10,0,1] (S':=V3 ..) Z ?_))))
 refine Qv Z (fun o=>?_) (fun o=>?_)
 replace hm:=Q1m hm o
 refine Q5 [] (S':=[]) Z (Q6 (Q3 (wP Z (Q2 (Q4 (QJ (Qj ?_)))))))
 have hE:=(Zi hm).symm
 replace hE:=hE.symm
 subst hE
 refine QA (Hr:=[]) [] Tryz.results35 (Qy Z) ⟨Z,Z,Z⟩ (asK [] Z) Z Z (.inl Z)
 replace hm:=Q1l hm o
 refine Q5 [0,1] (S':=[_,_]) Z (Qt (Q4 (Q6 ?_)))
 obtain ⟨a4,hm,hLj_1⟩:=Q1R hm
 refine Q15 (σ:=Unit) (fun _=>a4 = .inl ()) (fun _=>[]) (fun _=>[]) (fun _=>[]) ?_ ?_
 refine Q6 (Q3 (wP Z (Q2 (Q4 (Qn (Q1b (σ:=Nat × Nat) (fun (j,f)=>Q1B (Q5g N k1 l0 l2) j f = some a4) (fun (j,f)=>j) (fun (j,f)=>[(5,.int .i64 ((f:Nat):Int)),(0,.slice y k1 z),(1,.slice a0 l2.length a1)]) (fun (j,f)=>[.sli 1 Qh y z l0,.sli 1 Qh a0 a1 l2]) (fun (j,f)=>[]) (N,0) hm [5,0,1] Z (asK [0,1] Z) Z (fun s_ hm=>?_)))))))
 obtain ⟨j,f⟩:=s_
 try dsimp only at hm ⊢
 obtain ⟨aI,aJ,a6,hq,hLu1⟩:=Q18 hm
 clear hm
 subst a6
 replace hm:=hq
 clear hq
 unfold Q5g at hm
 try dsimp only at hm
 refine Q6 (Q6 (Q3 (wP Z (wP Z (wN Z Q1a (wP Z (Qx (d:=14) (v':=.bool (decide (f < k1))) (S':=V6 ..) Z Z (Q20 (a:=f) (b:=k1)) (Q2 (Q4 (Q5 [14,5,0,1] (S':=V4 ..) Z ?_))))))))))
 refine Qv Z (fun q=>?_) (fun q=>?_)
 replace hm:=Q1m hm q
 refine Q5 [5,0,1] (S':=V3 ..) Z (Qt (Q4 (Q6 (Qn (Q6 ?_)))))
 obtain ⟨a5,hm⟩:=Qd hm
 obtain ⟨aK,a7,hm⟩:=Q7 hm
 obtain ⟨aL,a8,hm⟩:=Q7 hm
 refine QV [0,1,2,3,4,5,6,7,8] Z Z (fun hok=>(xP hok 0 Z (xP hok 1 Z (wx_indexF hok 2 0 f Z Z Z Zq Z Z Z Z Z Z a5 a7 Q1a Q1i (fun aM aN aG aD=>(Q1u Q1D 1 Z (fun aO a9 _=>?_)))))))
 subst a9
 refine Q1I hok 3 0 0 Z Z Z Zq Z Z Z Z (cs:=[_]) Z Q1i Q2d Z Z (xP hok 4 Z (xP hok 5 Z (Q1o hok 6 3 f Z Z Z Zq Z Z Z Z Z Z a8 Q1a Q1i (fun aP aQ aH aE=>(Q1u Q1D 1 Z (fun aR aA _=>?_))))))
 subst aA
 refine Q1I hok 7 0 0 Z Z Z Zq Z Z Z Z (cs:=[_]) Z Q1i Q2d Z Z (xP hok 8 Z (QI hok Z (Q4 (Q5 [25,5,0,1] (S':=V4 ..) Z ?_))))
 refine Qv Z (fun s=>?_) (fun s=>?_)
 replace hm:=Q1m hm s
 refine Q5 [] (S':=[]) Z (Q6 (Q3 (wP Z (Q2 (Q4 (QJ (QR (Qj (Qj (QR (Qj ?_)))))))))))
 have hE:=(Zi hm).symm
 replace hE:=QE hLu1 hE
 replace hE:=QE hLj_1 hE
 replace hE:=hE.symm
 subst hE
 refine QA (Hr:=[]) [] Tryz.results35 (Qy Z) ⟨Z,Z,Z⟩ (asK [] Z) Z Z (.inl Z)
 replace hm:=Q1l hm s
 refine Q5 [5,0,1] (S':=V3 ..) Z (Qt (Qi (Q4 (Q3 (wP Z (wP Z ?_))))))
 obtain ⟨aB,hm⟩:=Qd hm
 refine Qx (d:=16) (v':=.int .i64 ((f + 1:Nat):Int)) (S':=V4 ..) Z Z (Q1f (a:=f) (b:=1) aB) (QM (S':=V4 ..) Z Z Z Z Z (Q2 ?_))
 have hE:=(Zi hm).symm
 replace hE:=Q11 hLu1 hE
 refine Q14 (_,f + 1) (Nat.lt_succ_self _) hE [5,0,1] Z (asK [4,5] Z) Z
 replace hm:=Q1l hm q
 refine Q5 [] (S':=[]) Z (Q19 (Qc (Qc (Qu ?_))))
 have hE:=(Zi hm).symm
 replace hE:=QE hLu1 hE
 refine Qp () hE [] Z (asK [] Z) Z
 rintro _ hE
 try dsimp only
 have hm:=Q11 hLj_1 hE
 try dsimp only at hm
 refine Q6 (Q3 (wP Z (Q2 (Q4 (QJ ?_)))))
 have hE:=(Zi hm).symm
 replace hE:=hE.symm
 subst hE
 refine QA (Hr:=[]) [] Tryz.results35 (Qy Z) ⟨Z,Z,Z⟩ (asK [] Z) Z Z (.inl Z)
theorem Q5k (N:Nat) (a0:Int) (qp0:OA) (qc1:Nat) (l1:List Int) (k2:Nat) (a3:Int) (qp2:OA) (qc3:Nat) (l4:List Int) (o0:Bool) (hm:Q3B N a0 l1 k2 a3 l4 = some o0):Q1z Tryz.prog 13 [.agg #[.int .i64 a0,.slice qp0 k2 qc1],.agg #[.int .i64 a3,.slice qp2 l4.length qc3]] [.sli 1 Qh qp0 qc1 l1,.sli 1 Qh qp2 qc3 l4] [] (fun v Φr Hr=>v = .bool o0 ∧ Φr = [] ∧ Hr = []):=by
 unfold Q3B at hm
 refine Q12 Tryz.func13 Z Tryz.ntmps13 Z (S:=[_,_]) Z (fun C=>(Q6 (Q3 (wB Z (fun g2=>(wB Z (fun g3=>(wP Z (Q2 (Q4 (Q5 [3,2] (S':=[_,_]) Z (Q6 (Q3 (wF Z Q22 (wD 1 0 Z Q1i Q2d Z (wF Z Q22 ?_))))))))))))))))
 refine wD 0 0 Z Q1i Q2d Z (wP Z (wP Z ?_))
 refine Q28 (d:=10) (S':=V7 ..) Z Z (fun hs10=>?_) (fun hs10=>?_)
 replace hm:=Q1m hm hs10
 refine wF Z Q2i (wD 1 1 Z Q1T Q2Q Z (wF Z Q2i (wD 0 1 Z Q1T Q2Q Z ?_)))
 obtain ⟨v15,hc15,hm⟩:=Q7 hm
 refine wC [] [0,1] Z fn_35 Z (Q9s N qp0 qc1 l1 k2 qp2 qc3 l4 _ hc15) (asK [0,1] Z) Z (H':=[_,_]) Z ?_
 rintro _ _ _ ⟨rfl,rfl,rfl⟩
 refine wP Z (wP Z (Q2 (Q4 (Q5 [4] (S':=[_]) Z (QJ ?_)))))
 have hE:=(Zi hm).symm
 replace hE:=hE.symm
 subst hE
 refine QA (Hr:=[]) [] Tryz.results13 (Qy Z) ⟨Z,Z,Z⟩ (asK [] Z) Z Z (.inl Z)
 replace hm:=Q1l hm hs10
 refine wO Z (wO Z (wO Z (wO Z (wO Z (wP Z (wP Z (Q2 (Q4 (Q5 [4] (S':=[_]) Z (QJ ?_))))))))))
 have hE:=(Zi hm).symm
 replace hE:=hE.symm
 subst hE
 refine QA (Hr:=[]) [] Tryz.results13 (Qy Z) ⟨Z,Z,Z⟩ (asK [] Z) Z Z (.inl Z)
theorem Q9o (N:Nat) (aN:OA) (a2:Nat) (l0:List Int) (k1:Nat) (a3:OA) (a4:Nat) (j:List Int) (o0:Bool) (hm:Q6b N l0 k1 j = some o0):Q1z Tryz.prog 87 [.slice aN k1 a2,.slice a3 j.length a4] [.sli 1 Qh aN a2 l0,.sli 1 Qh a3 a4 j] [] (fun v Φr Hr=>v = .bool o0 ∧ Φr = [] ∧ Hr = []):=by
 unfold Q6b at hm
 refine Q12 Tryz.func87 Z Tryz.ntmps87 Z (S:=[_,_]) Z (fun C=>(Q6 (Q3 (wP Z (Q2 (Q4 (Q5 [0,1] (S':=[_,_]) Z (Q6 (Q6 (Q3 (wP Z (wN Z Q1a (wP Z (wN Z Q1a ?_))))))))))))))
 refine wP Z (Qx (d:=11) (v':=.bool (k1 != j.length)) (S':=V6 ..) Z Z (Q8e (a:=k1) (b:=j.length)) (Q2 (Q4 (Q5 [11,0,1] (S':=V3 ..) Z ?_))))
 refine Qv Z (fun a5=>?_) (fun a5=>?_)
 replace hm:=Q1m hm a5
 refine Q5 [] (S':=[]) Z (Q6 (Q3 (wP Z (Q2 (Q4 (QJ (Qj ?_)))))))
 have hE:=(Zi hm).symm
 replace hE:=hE.symm
 subst hE
 refine QA (Hr:=[]) [] Tryz.results87 (Qy Z) ⟨Z,Z,Z⟩ (asK [] Z) Z Z (.inl Z)
 replace hm:=Q1l hm a5
 refine Q5 [0,1] (S':=[_,_]) Z (Qt (Q4 (Q6 (Q3 (wP Z (wP Z (wN Z Q1a (wP Z ?_))))))))
 obtain ⟨aO,hm⟩:=Qd hm
 refine Qx (d:=15) (v':=.int .i64 ((j.length + 12:Nat):Int)) (S':=V5 ..) Z Z (Q1f (a:=j.length) (b:=12) aO) ?_
 obtain ⟨aP,hm⟩:=Qd hm
 refine wl_sliToF 0 Z Z Z Zq Z Z Z Z Z Q1a Q1i aP (fun aH=>(wP Z (Q2 (Q4 (Q5 [5,1] (S':=[_,_]) Z (Q6 ?_))))))
 obtain ⟨aI,hm,hLj_1⟩:=Q1R hm
 refine Q15 (σ:=Unit) (fun _=>aI = .inl ()) (fun _=>[]) (fun _=>[]) (fun _=>[]) ?_ ?_
 refine Q6 (Q3 (wP Z (Q2 (Q4 (Qn (Q1b (σ:=Nat × Nat) (fun (a0,f)=>Q1B (Q5c N l0 j) a0 f = some aI) (fun (a0,f)=>a0) (fun (a0,f)=>[(6,.int .i64 ((f:Nat):Int)),(5,.slice aH ((l0.take (j.length + 12)).length) a2),(1,.slice a3 j.length a4)]) (fun (a0,f)=>[.sli 1 Qh aH a2 (l0.take (j.length + 12)),.sli 1 Qh a3 a4 j]) (fun (a0,f)=>[]) (N,0) hm [6,5,1] Z (asK [0,2] Z) Z (fun s_ hm=>?_)))))))
 obtain ⟨a0,f⟩:=s_
 try dsimp only at hm ⊢
 obtain ⟨b5,b6,aQ,hq,hLu1⟩:=Q18 hm
 clear hm
 subst aQ
 replace hm:=hq
 clear hq
 unfold Q5c at hm
 try dsimp only at hm
 refine Q6 (Q6 (Q3 (wP Z (wP Z (wN Z Q1a (wP Z (Qx (d:=20) (v':=.bool (decide (f < ((l0.take (j.length + 12)).length)))) (S':=V6 ..) Z Z (Q20 (a:=f) (b:=(l0.take (j.length + 12)).length)) (Q2 (Q4 (Q5 [20,6,5,1] (S':=V4 ..) Z ?_))))))))))
 refine Qv Z (fun a6=>?_) (fun a6=>?_)
 replace hm:=Q1m hm a6
 refine Q5 [6,5,1] (S':=V3 ..) Z (Qt (Q4 (Q6 (Qn (Q6 ?_)))))
 obtain ⟨aR,hm,hLj_2⟩:=Q7 hm
 unfold Q7h at hm
 refine Q15 (σ:=Bool) (fun o=>aR = o) (fun o=>[(6,.int .i64 ((f:Nat):Int)),(5,.slice aH ((l0.take (j.length + 12)).length) a2),(1,.slice a3 j.length a4),(57,.bool o)]) (fun o=>[.sli 1 Qh aH a2 (l0.take (j.length + 12)),.sli 1 Qh a3 a4 j]) (fun o=>[]) ?_ ?_
 rcases Q2k hm with ⟨s,hm⟩ | ⟨s,hm⟩
 obtain ⟨b7,a7,hm⟩:=Q7 hm
 obtain ⟨b8,a8,hm⟩:=Q7 hm
 rcases Q2k hm with ⟨a1,hm⟩ | ⟨a1,hm⟩
 refine QV [0,1,2,3,4,5,6,7,8,9,10,11,12,13,14,15,16,17,18,19,20,21,22,23,24,25,26,27,28,29,31,32,33,34] Z Z (fun hok=>(xP hok 0 Z (xP hok 1 Z (Q3r hok 2 Z Z Z Zq Z Z Z Q1a (xP hok 3 Z (Q1g (d:=26) (v':=.bool (decide (f < j.length))) (S':=V6 ..) Z Z (Q20 (a:=f) (b:=j.length)) (xP hok 4 Z (Q1g (d:=27) (v':=.bool true) (S':=V7 ..) Z Z (Q16 s) (xP hok 5 Z (xP hok 6 Z (Q1o hok 7 0 f Z Z Z Zq Z Z Z Z Z Z a7 Q1a Q1i (fun aS aT aJ a9=>(Q1u Q1D 1 Z (fun aU y _=>?_))))))))))))))
 subst y
 refine Q1I hok 8 0 0 Z Z Z Zq Z Z Z Z (cs:=[_]) Z Q1i Q2d Z Z (xP hok 9 Z (xP hok 10 Z (Q1o hok 11 3 f Z Z Z Zq Z Z Z Z Z Z a8 Q1a Q1i (fun aV aW aK aA=>(Q1u Q1D 1 Z (fun aX z _=>?_))))))
 subst z
 refine Q1I hok 12 0 0 Z Z Z Zq Z Z Z Z (cs:=[_]) Z Q1i Q2d Z Z (xP hok 13 Z (xP hok 14 Z (xP hok 15 Z (xP hok 16 Z (Q1g (d:=39) (v':=.bool true) (S':=V19 ..) Z Z (Q16 a1) (xO hok 17 Z (xO hok 18 Z (xO hok 19 Z (xO hok 20 Z (xO hok 21 Z (xO hok 22 Z (xO hok 23 Z (xO hok 24 Z ?_)))))))))))))
 refine xO hok 25 Z (xO hok 26 Z (xO hok 27 Z (xO hok 28 Z (xO hok 29 Z (xS hok 30 Z (wO Z (Q2 (Qs [0,1,2,3,4,5] [] Z Z (xO hok 31 Z (xO hok 32 Z (xO hok 33 Z (xP hok 34 Z (QI hok Z ?_)))))))))))))
 have hE:=(Zi hm).symm
 refine Qp true hE [6,5,1,57] Z (asK [4,5] Z) Z
 rcases Q2k hm with ⟨q,hm⟩ | ⟨q,hm⟩
 obtain ⟨aL,aB,hm⟩:=Q7 hm
 obtain ⟨aC,hm⟩:=Qd hm
 obtain ⟨_,aD,hm⟩:=Q7 hm
 try dsimp only at hm
 refine QV [0,1,2,3,4,5,6,7,8,9,10,11,12,13,14,15,16,17,18,19,20,21,22,23,24,25,26,27,28,29,31,32,33,34] Z Z (fun hok=>(xP hok 0 Z (xP hok 1 Z (Q3r hok 2 Z Z Z Zq Z Z Z Q1a (xP hok 3 Z (Q1g (d:=26) (v':=.bool (decide (f < j.length))) (S':=V6 ..) Z Z (Q20 (a:=f) (b:=j.length)) (xP hok 4 Z (Q1g (d:=27) (v':=.bool true) (S':=V7 ..) Z Z (Q16 s) (xP hok 5 Z (xP hok 6 Z (Q1o hok 7 0 f Z Z Z Zq Z Z Z Z Z Z a7 Q1a Q1i (fun aS aT aJ a9=>(Q1u Q1D 1 Z (fun aU y _=>?_))))))))))))))
 subst y
 refine Q1I hok 8 0 0 Z Z Z Zq Z Z Z Z (cs:=[_]) Z Q1i Q2d Z Z (xP hok 9 Z (xP hok 10 Z (Q1o hok 11 3 f Z Z Z Zq Z Z Z Z Z Z a8 Q1a Q1i (fun aV aW aK aA=>(Q1u Q1D 1 Z (fun aX z _=>?_))))))
 subst z
 refine Q1I hok 12 0 0 Z Z Z Zq Z Z Z Z (cs:=[_]) Z Q1i Q2d Z Z (xP hok 13 Z (xP hok 14 Z (xP hok 15 Z (xP hok 16 Z (Q1g (d:=39) (v':=.bool false) (S':=V19 ..) Z Z (Q16 a1) (xP hok 17 Z (xP hok 18 Z (Q3r hok 19 Z Z Z Zq Z Z Z Q1a (xP hok 20 Z (Q1g (d:=43) (v':=.bool (decide (j.length ≤ f))) (S':=V23 ..) Z Z (natge (a:=f) (b:=j.length)) (xP hok 21 Z (Q1g (d:=44) (v':=.bool true) (S':=V24 ..) Z Z (Q16 q) (xP hok 22 Z ?_)))))))))))))
 refine xP hok 23 Z (Q1o hok 24 4 f Z Z Z Zq Z Z Z Z Z Z aB Q1a Q1i (fun b1 b2 aY aM=>(Q1u Q1D 1 Z (fun b3 aE _=>?_))))
 subst aE
 refine Q1I hok 25 0 0 Z Z Z Zq Z Z Z Z (cs:=[_]) Z Q1i Q2d Z Z (xP hok 26 Z (xP hok 27 Z (Q3r hok 28 Z Z Z Zq Z Z Z Q1a (xP hok 29 Z (Q1g (d:=52) (v':=.int .i64 (((f:Nat):Int) - ((j.length:Nat):Int))) (S':=V32 ..) Z Z (i64_in aC) (xS hok 30 Z (wC [] [] Z fn_99 Z (Q3V N 1 (((f:Nat):Int) - ((j.length:Nat):Int)) aD) (asK [] Z) Z (H':=[]) Z ?_)))))))
 rintro _ _ _ ⟨rfl,rfl,rfl⟩
 refine Q2 (Qs [0,1,2,3,4,5,6,7] [] Z Z (xP hok 31 Z (xP hok 32 Z (xP hok 33 Z (xP hok 34 Z (QI hok Z ?_))))))
 have hE:=(Zi hm).symm
 refine Qp (!(aL == (IntKind.wrap .i64 ((IntKind.wrap .i64 (1000003 * (IntKind.wrap .i64 (1 + 7)))) + (((f:Nat):Int) - ((j.length:Nat):Int)))))) hE [6,5,1,57] Z (asK [6,7] Z) Z
 refine QV [0,1,2,3,4,5,6,7,8,9,10,11,12,13,14,15,16,17,18,19,20,21,22,23,24,25,26,27,28,29,31,32,33,34] Z Z (fun hok=>(xP hok 0 Z (xP hok 1 Z (Q3r hok 2 Z Z Z Zq Z Z Z Q1a (xP hok 3 Z (Q1g (d:=26) (v':=.bool (decide (f < j.length))) (S':=V6 ..) Z Z (Q20 (a:=f) (b:=j.length)) (xP hok 4 Z (Q1g (d:=27) (v':=.bool true) (S':=V7 ..) Z Z (Q16 s) (xP hok 5 Z (xP hok 6 Z (Q1o hok 7 0 f Z Z Z Zq Z Z Z Z Z Z a7 Q1a Q1i (fun aS aT aJ a9=>(Q1u Q1D 1 Z (fun aU y _=>?_))))))))))))))
 subst y
 refine Q1I hok 8 0 0 Z Z Z Zq Z Z Z Z (cs:=[_]) Z Q1i Q2d Z Z (xP hok 9 Z (xP hok 10 Z (Q1o hok 11 3 f Z Z Z Zq Z Z Z Z Z Z a8 Q1a Q1i (fun aV aW aK aA=>(Q1u Q1D 1 Z (fun aX z _=>?_))))))
 subst z
 refine Q1I hok 12 0 0 Z Z Z Zq Z Z Z Z (cs:=[_]) Z Q1i Q2d Z Z (xP hok 13 Z (xP hok 14 Z (xP hok 15 Z (xP hok 16 Z (Q1g (d:=39) (v':=.bool false) (S':=V19 ..) Z Z (Q16 a1) (xP hok 17 Z (xP hok 18 Z (Q3r hok 19 Z Z Z Zq Z Z Z Q1a (xP hok 20 Z (Q1g (d:=43) (v':=.bool (decide (j.length ≤ f))) (S':=V23 ..) Z Z (natge (a:=f) (b:=j.length)) (xP hok 21 Z (Q1g (d:=44) (v':=.bool false) (S':=V24 ..) Z Z (Q16 q) (xO hok 22 Z ?_)))))))))))))
 refine xO hok 23 Z (xO hok 24 Z (xO hok 25 Z (xO hok 26 Z (xO hok 27 Z (xO hok 28 Z (xO hok 29 Z (xS hok 30 Z (wO Z (Q2 (Qs [0,1,2,3,4,5] [] Z Z (xO hok 31 Z (xO hok 32 Z (xP hok 33 Z ?_)))))))))))))
 refine xP hok 34 Z (QI hok Z ?_)
 have hE:=(Zi hm).symm
 refine Qp false hE [6,5,1,57] Z (asK [4,5] Z) Z
 rcases Q2k hm with ⟨q,hm⟩ | ⟨q,hm⟩
 obtain ⟨aL,aB,hm⟩:=Q7 hm
 obtain ⟨aC,hm⟩:=Qd hm
 obtain ⟨_,aD,hm⟩:=Q7 hm
 try dsimp only at hm
 refine QV [0,1,2,3,4,5,6,7,8,9,10,11,12,13,14,15,16,17,18,19,20,21,22,23,24,25,26,27,28,29,31,32,33,34] Z Z (fun hok=>(xP hok 0 Z (xP hok 1 Z (Q3r hok 2 Z Z Z Zq Z Z Z Q1a (xP hok 3 Z (Q1g (d:=26) (v':=.bool (decide (f < j.length))) (S':=V6 ..) Z Z (Q20 (a:=f) (b:=j.length)) (xP hok 4 Z (Q1g (d:=27) (v':=.bool false) (S':=V7 ..) Z Z (Q16 s) (xO hok 5 Z (xO hok 6 Z (xO hok 7 Z (xO hok 8 Z (xO hok 9 Z (xO hok 10 Z ?_))))))))))))))
 refine xO hok 11 Z (xO hok 12 Z (xO hok 13 Z (xO hok 14 Z (xP hok 15 Z (xP hok 16 Z (xP hok 17 Z (xP hok 18 Z (Q3r hok 19 Z Z Z Zq Z Z Z Q1a (xP hok 20 Z (Q1g (d:=43) (v':=.bool (decide (j.length ≤ f))) (S':=V23 ..) Z Z (natge (a:=f) (b:=j.length)) (xP hok 21 Z (Q1g (d:=44) (v':=.bool true) (S':=V24 ..) Z Z (Q16 q) (xP hok 22 Z ?_)))))))))))))
 refine xP hok 23 Z (Q1o hok 24 0 f Z Z Z Zq Z Z Z Z Z Z aB Q1a Q1i (fun b1 b2 aY aM=>(Q1u Q1D 1 Z (fun b3 aE _=>?_))))
 subst aE
 refine Q1I hok 25 0 0 Z Z Z Zq Z Z Z Z (cs:=[_]) Z Q1i Q2d Z Z (xP hok 26 Z (xP hok 27 Z (Q3r hok 28 Z Z Z Zq Z Z Z Q1a (xP hok 29 Z (Q1g (d:=52) (v':=.int .i64 (((f:Nat):Int) - ((j.length:Nat):Int))) (S':=V32 ..) Z Z (i64_in aC) (xS hok 30 Z (wC [] [] Z fn_99 Z (Q3V N 1 (((f:Nat):Int) - ((j.length:Nat):Int)) aD) (asK [] Z) Z (H':=[]) Z ?_)))))))
 rintro _ _ _ ⟨rfl,rfl,rfl⟩
 refine Q2 (Qs [0,1,2,3] [] Z Z (xP hok 31 Z (xP hok 32 Z (xP hok 33 Z (xP hok 34 Z (QI hok Z ?_))))))
 have hE:=(Zi hm).symm
 refine Qp (!(aL == (IntKind.wrap .i64 ((IntKind.wrap .i64 (1000003 * (IntKind.wrap .i64 (1 + 7)))) + (((f:Nat):Int) - ((j.length:Nat):Int)))))) hE [6,5,1,57] Z (asK [2,3] Z) Z
 refine QV [0,1,2,3,4,5,6,7,8,9,10,11,12,13,14,15,16,17,18,19,20,21,22,23,24,25,26,27,28,29,31,32,33,34] Z Z (fun hok=>(xP hok 0 Z (xP hok 1 Z (Q3r hok 2 Z Z Z Zq Z Z Z Q1a (xP hok 3 Z (Q1g (d:=26) (v':=.bool (decide (f < j.length))) (S':=V6 ..) Z Z (Q20 (a:=f) (b:=j.length)) (xP hok 4 Z (Q1g (d:=27) (v':=.bool false) (S':=V7 ..) Z Z (Q16 s) (xO hok 5 Z (xO hok 6 Z (xO hok 7 Z (xO hok 8 Z (xO hok 9 Z (xO hok 10 Z ?_))))))))))))))
 refine xO hok 11 Z (xO hok 12 Z (xO hok 13 Z (xO hok 14 Z (xP hok 15 Z (xP hok 16 Z (xP hok 17 Z (xP hok 18 Z (Q3r hok 19 Z Z Z Zq Z Z Z Q1a (xP hok 20 Z (Q1g (d:=43) (v':=.bool (decide (j.length ≤ f))) (S':=V23 ..) Z Z (natge (a:=f) (b:=j.length)) (xP hok 21 Z (Q1g (d:=44) (v':=.bool false) (S':=V24 ..) Z Z (Q16 q) (xO hok 22 Z ?_)))))))))))))
 refine xO hok 23 Z (xO hok 24 Z (xO hok 25 Z (xO hok 26 Z (xO hok 27 Z (xO hok 28 Z (xO hok 29 Z (xS hok 30 Z (wO Z (Q2 (Qs [0,1] [] Z Z (xO hok 31 Z (xO hok 32 Z (xP hok 33 Z ?_)))))))))))))
 refine xP hok 34 Z (QI hok Z ?_)
 have hE:=(Zi hm).symm
 refine Qp false hE [6,5,1,57] Z (asK [0,1] Z) Z
 rintro o hE
 try dsimp only
 have hm:=hLj_2
 try rw [hE] at hm
 refine Qv Z (fun aF=>?_) (fun aF=>?_)
 replace hm:=Q1m hm aF
 refine Q5 [] (S':=[]) Z (Q6 (Q3 (wP Z (Q2 (Q4 (QJ (QR (Qj (Qj (QR (Qj ?_)))))))))))
 have hE:=(Zi hm).symm
 replace hE:=QE hLu1 hE
 replace hE:=QE hLj_1 hE
 replace hE:=hE.symm
 subst hE
 refine QA (Hr:=[]) [] Tryz.results87 (Qy Z) ⟨Z,Z,Z⟩ (asK [] Z) Z Z (.inl Z)
 replace hm:=Q1l hm aF
 refine Q5 [6,5,1] (S':=V3 ..) Z (Qt (Qi (Q4 (Q3 (wP Z (wP Z ?_))))))
 obtain ⟨aZ,hm⟩:=Qd hm
 refine Qx (d:=22) (v':=.int .i64 ((f + 1:Nat):Int)) (S':=V4 ..) Z Z (Q1f (a:=f) (b:=1) aZ) (QM (S':=V4 ..) Z Z Z Z Z (Q2 ?_))
 have hE:=(Zi hm).symm
 replace hE:=Q11 hLu1 hE
 refine Q14 (_,f + 1) (Nat.lt_succ_self _) hE [6,5,1] Z (asK [0,1] Z) Z
 replace hm:=Q1l hm a6
 refine Q5 [] (S':=[]) Z (Q19 (Qc (Qc (Qu ?_))))
 have hE:=(Zi hm).symm
 replace hE:=QE hLu1 hE
 refine Qp () hE [] Z (asK [] Z) Z
 rintro _ hE
 try dsimp only
 have hm:=Q11 hLj_1 hE
 try dsimp only at hm
 refine Q6 (Q3 (wP Z (Q2 (Q4 (QJ ?_)))))
 have hE:=(Zi hm).symm
 replace hE:=hE.symm
 subst hE
 refine QA (Hr:=[]) [] Tryz.results87 (Qy Z) ⟨Z,Z,Z⟩ (asK [] Z) Z Z (.inl Z)
theorem Q3f (N:Nat) (a0:Int) (qp0:OA) (qc1:Nat) (l1:List Int) (k2:Nat) (a3:Int) (qp2:OA) (qc3:Nat) (l4:List Int) (o0:Bool) (hm:Q3A N a0 l1 k2 a3 l4 = some o0):Q1z Tryz.prog 39 [.agg #[.int .i64 a0,.slice qp0 k2 qc1],.agg #[.int .i64 a3,.slice qp2 l4.length qc3]] [.sli 1 Qh qp0 qc1 l1,.sli 1 Qh qp2 qc3 l4] [] (fun v Φr Hr=>v = .bool o0 ∧ Φr = [] ∧ Hr = []):=by
 unfold Q3A at hm
 refine Q12 Tryz.func39 Z Tryz.ntmps39 Z (S:=[_,_]) Z (fun C=>(Q6 (Q3 (wB Z (fun g2=>(wB Z (fun g3=>(wP Z (Q2 (Q4 (Q5 [3,2] (S':=[_,_]) Z (Q6 (Q3 (Q1E 1 0 Z Z Z Zq Z Z Z (cs:=[_,_]) Z Qg QT Z Z (Q1E 0 0 Z Z Z Zq Z Z Z (cs:=[_,_]) Z Qg QT Z Z ?_)))))))))))))))
 obtain ⟨v7,hc7,hm⟩:=Q7 hm
 refine wC [] [0,1] Z fn_13 Z (Q5k N a0 qp0 qc1 l1 k2 a3 qp2 qc3 l4 _ hc7) (asK [0,1] Z) Z (H':=[_,_]) Z ?_
 rintro _ _ _ ⟨rfl,rfl,rfl⟩
 refine wP Z ?_
 refine Q28 (d:=8) (S':=V5 ..) Z Z (fun hs8=>?_) (fun hs8=>?_)
 replace hm:=Q1m hm hs8
 refine wF Z Q2i (wD 1 1 Z Q1T Q2Q Z (wF Z Q2i (wD 0 1 Z Q1T Q2Q Z ?_)))
 obtain ⟨v13,hc13,hm⟩:=Q7 hm
 refine wC [] [0,1] Z fn_87 Z (Q9o N qp0 qc1 l1 k2 qp2 qc3 l4 _ hc13) (asK [0,1] Z) Z (H':=[_,_]) Z ?_
 rintro _ _ _ ⟨rfl,rfl,rfl⟩
 refine wP Z (wP Z (Q2 (Q4 (Q5 [4] (S':=[_]) Z (QJ ?_)))))
 have hE:=(Zi hm).symm
 replace hE:=hE.symm
 subst hE
 refine QA (Hr:=[]) [] Tryz.results39 (Qy Z) ⟨Z,Z,Z⟩ (asK [] Z) Z Z (.inl Z)
 replace hm:=Q1l hm hs8
 refine wO Z (wO Z (wO Z (wO Z (wO Z (wP Z (wP Z (Q2 (Q4 (Q5 [4] (S':=[_]) Z (QJ ?_))))))))))
 have hE:=(Zi hm).symm
 replace hE:=hE.symm
 subst hE
 refine QA (Hr:=[]) [] Tryz.results39 (Qy Z) ⟨Z,Z,Z⟩ (asK [] Z) Z Z (.inl Z)
theorem Q9E (N:Nat) (z:OA) (a0:Nat) (y:List Qw) (a1:OA) (a2:Nat) (l1:List Qw) (o0:Bool) (hm:Q6t N y l1 = some o0):Q1z Tryz.prog 88 [.slice z y.length a0,.slice a1 l1.length a2] [.sli 2 QL z a0 y,.sli 2 QL a1 a2 l1] [] (fun v Φr Hr=>v = .bool o0 ∧ Φr = [] ∧ Hr = []):=by
 unfold Q6t at hm
 refine Q12 Tryz.func88 Z Tryz.ntmps88 Z (S:=[_,_]) Z (fun C=>(Q6 (Q3 (wP Z (Q2 (Q4 (Q5 [0,1] (S':=[_,_]) Z (Q6 (Q6 (Q3 (wP Z (wN Z tE_25 (wP Z (wN Z tE_25 ?_))))))))))))))
 refine wP Z (Qx (d:=10) (v':=.bool (y.length != l1.length)) (S':=V6 ..) Z Z (Q8e (a:=y.length) (b:=l1.length)) (Q2 (Q4 (Q5 [10,0,1] (S':=V3 ..) Z ?_))))
 refine Qv Z (fun o=>?_) (fun o=>?_)
 replace hm:=Q1m hm o
 refine Q5 [] (S':=[]) Z (Q6 (Q3 (wP Z (Q2 (Q4 (QJ (Qj ?_)))))))
 have hE:=(Zi hm).symm
 replace hE:=hE.symm
 subst hE
 refine QA (Hr:=[]) [] Tryz.results88 (Qy Z) ⟨Z,Z,Z⟩ (asK [] Z) Z Z (.inl Z)
 replace hm:=Q1l hm o
 refine Q5 [0,1] (S':=[_,_]) Z (Qt (Q4 (Q6 ?_)))
 obtain ⟨a4,hm,hLj_1⟩:=Q1R hm
 refine Q15 (σ:=Unit) (fun _=>a4 = .inl ()) (fun _=>[]) (fun _=>[]) (fun _=>[]) ?_ ?_
 refine Q6 (Q3 (wP Z (Q2 (Q4 (Qn (Q1b (σ:=Nat × Nat) (fun (j,f)=>Q1B (Q5E N y l1) j f = some a4) (fun (j,f)=>j) (fun (j,f)=>[(5,.int .i64 ((f:Nat):Int)),(0,.slice z y.length a0),(1,.slice a1 l1.length a2)]) (fun (j,f)=>[.sli 2 QL z a0 y,.sli 2 QL a1 a2 l1]) (fun (j,f)=>[]) (N,0) hm [5,0,1] Z (asK [0,1] Z) Z (fun s_ hm=>?_)))))))
 obtain ⟨j,f⟩:=s_
 try dsimp only at hm ⊢
 obtain ⟨aI,aJ,a5,hq,hLu1⟩:=Q18 hm
 clear hm
 subst a5
 replace hm:=hq
 clear hq
 unfold Q5E at hm
 try dsimp only at hm
 refine Q6 (Q6 (Q3 (wP Z (wP Z (wN Z tE_25 (wP Z (Qx (d:=14) (v':=.bool (decide (f < y.length))) (S':=V6 ..) Z Z (Q20 (a:=f) (b:=y.length)) (Q2 (Q4 (Q5 [14,5,0,1] (S':=V4 ..) Z ?_))))))))))
 refine Qv Z (fun q=>?_) (fun q=>?_)
 replace hm:=Q1m hm q
 refine Q5 [5,0,1] (S':=V3 ..) Z (Qt (Q4 (Q6 (Qn (Q6 ?_)))))
 obtain ⟨a6,a7,hm⟩:=Q7 hm
 obtain ⟨a8,a9,hm⟩:=Q7 hm
 refine QV [0,1,2,3,4,5,6,7,8] Z Z (fun hok=>(xP hok 0 Z (xP hok 1 Z (Q1o hok 2 0 f Z Z Z Zq Z Z Z Z Z Z a7 tE_25 tS_213 (fun aK aL aG aD=>(Q1u Q9H 1 Z (fun aM aA _=>?_)))))))
 subst aA
 refine Q1I hok 3 0 0 Z Z Z Zq Z Z Z Z (cs:=[_,_]) Z tS_213 tA_213 Z Z (xP hok 4 Z (xP hok 5 Z (Q1o hok 6 3 f Z Z Z Zq Z Z Z Z Z Z a9 tE_25 tS_213 (fun aN aO aH aE=>(Q1u Q9H 1 Z (fun aP aB _=>?_))))))
 subst aB
 refine Q1I hok 7 0 0 Z Z Z Zq Z Z Z Z (cs:=[_,_]) Z tS_213 tA_213 Z Z (Q8m hok 8 Z Z Z Zq Z Z Z Z (neqT _ _ a6.name a8.name a6.fields a8.fields) (QI hok Z (Q4 (Q5 [25,5,0,1] (S':=V4 ..) Z ?_))))
 refine Qv Z (fun s=>?_) (fun s=>?_)
 replace hm:=Q1m hm s
 refine Q5 [] (S':=[]) Z (Q6 (Q3 (wP Z (Q2 (Q4 (QJ (QR (Qj (Qj (QR (Qj ?_)))))))))))
 have hE:=(Zi hm).symm
 replace hE:=QE hLu1 hE
 replace hE:=QE hLj_1 hE
 replace hE:=hE.symm
 subst hE
 refine QA (Hr:=[]) [] Tryz.results88 (Qy Z) ⟨Z,Z,Z⟩ (asK [] Z) Z Z (.inl Z)
 replace hm:=Q1l hm s
 refine Q5 [5,0,1] (S':=V3 ..) Z (Qt (Qi (Q4 (Q3 (wP Z (wP Z ?_))))))
 obtain ⟨aC,hm⟩:=Qd hm
 refine Qx (d:=16) (v':=.int .i64 ((f + 1:Nat):Int)) (S':=V4 ..) Z Z (Q1f (a:=f) (b:=1) aC) (QM (S':=V4 ..) Z Z Z Z Z (Q2 ?_))
 have hE:=(Zi hm).symm
 replace hE:=Q11 hLu1 hE
 refine Q14 (_,f + 1) (Nat.lt_succ_self _) hE [5,0,1] Z (asK [4,5] Z) Z
 replace hm:=Q1l hm q
 refine Q5 [] (S':=[]) Z (Q19 (Qc (Qc (Qu ?_))))
 have hE:=(Zi hm).symm
 replace hE:=QE hLu1 hE
 refine Qp () hE [] Z (asK [] Z) Z
 rintro _ hE
 try dsimp only
 have hm:=Q11 hLj_1 hE
 try dsimp only at hm
 refine Q6 (Q3 (wP Z (Q2 (Q4 (QJ ?_)))))
 have hE:=(Zi hm).symm
 replace hE:=hE.symm
 subst hE
 refine QA (Hr:=[]) [] Tryz.results88 (Qy Z) ⟨Z,Z,Z⟩ (asK [] Z) Z Z (.inl Z)
theorem Q9X (N:Nat) (z:OA) (a0:Nat) (y:List ArgD) (a1:OA) (a2:Nat) (l1:List ArgD) (o0:Bool) (hm:Q6V N y l1 = some o0):Q1z Tryz.prog 164 [.slice z y.length a0,.slice a1 l1.length a2] [.sli 5 Q7I z a0 y,.sli 5 Q7I a1 a2 l1] [] (fun v Φr Hr=>v = .bool o0 ∧ Φr = [] ∧ Hr = []):=by
 unfold Q6V at hm
 refine Q12 Tryz.func164 Z Tryz.ntmps164 Z (S:=[_,_]) Z (fun C=>(Q6 (Q3 (wP Z (Q2 (Q4 (Q5 [0,1] (S':=[_,_]) Z (Q6 (Q6 (Q3 (wP Z (wN Z tE_197 (wP Z (wN Z tE_197 ?_))))))))))))))
 refine wP Z (Qx (d:=10) (v':=.bool (y.length != l1.length)) (S':=V6 ..) Z Z (Q8e (a:=y.length) (b:=l1.length)) (Q2 (Q4 (Q5 [10,0,1] (S':=V3 ..) Z ?_))))
 refine Qv Z (fun o=>?_) (fun o=>?_)
 replace hm:=Q1m hm o
 refine Q5 [] (S':=[]) Z (Q6 (Q3 (wP Z (Q2 (Q4 (QJ (Qj ?_)))))))
 have hE:=(Zi hm).symm
 replace hE:=hE.symm
 subst hE
 refine QA (Hr:=[]) [] Tryz.results164 (Qy Z) ⟨Z,Z,Z⟩ (asK [] Z) Z Z (.inl Z)
 replace hm:=Q1l hm o
 refine Q5 [0,1] (S':=[_,_]) Z (Qt (Q4 (Q6 ?_)))
 obtain ⟨a4,hm,hLj_1⟩:=Q1R hm
 refine Q15 (σ:=Unit) (fun _=>a4 = .inl ()) (fun _=>[]) (fun _=>[]) (fun _=>[]) ?_ ?_
 refine Q6 (Q3 (wP Z (Q2 (Q4 (Qn (Q1b (σ:=Nat × Nat) (fun (j,f)=>Q1B (Q5U N y l1) j f = some a4) (fun (j,f)=>j) (fun (j,f)=>[(5,.int .i64 ((f:Nat):Int)),(0,.slice z y.length a0),(1,.slice a1 l1.length a2)]) (fun (j,f)=>[.sli 5 Q7I z a0 y,.sli 5 Q7I a1 a2 l1]) (fun (j,f)=>[]) (N,0) hm [5,0,1] Z (asK [0,1] Z) Z (fun s_ hm=>?_)))))))
 obtain ⟨j,f⟩:=s_
 try dsimp only at hm ⊢
 obtain ⟨aI,aJ,a5,hq,hLu1⟩:=Q18 hm
 clear hm
 subst a5
 replace hm:=hq
 clear hq
 unfold Q5U at hm
 try dsimp only at hm
 refine Q6 (Q6 (Q3 (wP Z (wP Z (wN Z tE_197 (wP Z (Qx (d:=14) (v':=.bool (decide (f < y.length))) (S':=V6 ..) Z Z (Q20 (a:=f) (b:=y.length)) (Q2 (Q4 (Q5 [14,5,0,1] (S':=V4 ..) Z ?_))))))))))
 refine Qv Z (fun q=>?_) (fun q=>?_)
 replace hm:=Q1m hm q
 refine Q5 [5,0,1] (S':=V3 ..) Z (Qt (Q4 (Q6 (Qn (Q6 ?_)))))
 obtain ⟨aB,a6,hm⟩:=Q7 hm
 obtain ⟨aC,a7,hm⟩:=Q7 hm
 refine QV [0,1,2,3,4,5,6,7,8] Z Z (fun hok=>(xP hok 0 Z (xP hok 1 Z (Q1o hok 2 0 f Z Z Z Zq Z Z Z Z Z Z a6 tE_197 tS_200 (fun aK aL aG aD=>(Q1u R_ArgD_opens 1 Z (fun aM a8 _=>?_)))))))
 subst a8
 refine Q1I hok 3 0 0 Z Z Z Zq Z Z Z Z (cs:=V5 ..) Z tS_200 tA_200 Z Z (xP hok 4 Z (xP hok 5 Z (Q1o hok 6 3 f Z Z Z Zq Z Z Z Z Z Z a7 tE_197 tS_200 (fun aN aO aH aE=>(Q1u R_ArgD_opens 1 Z (fun aP a9 _=>?_))))))
 subst a9
 refine Q1I hok 7 0 0 Z Z Z Zq Z Z Z Z (cs:=V5 ..) Z tS_200 tA_200 Z Z (Q8m hok 8 Z Z Z Zq Z Z Z Z (neqA _ _ aB aC) (QI hok Z (Q4 (Q5 [25,5,0,1] (S':=V4 ..) Z ?_))))
 refine Qv Z (fun s=>?_) (fun s=>?_)
 replace hm:=Q1m hm s
 refine Q5 [] (S':=[]) Z (Q6 (Q3 (wP Z (Q2 (Q4 (QJ (QR (Qj (Qj (QR (Qj ?_)))))))))))
 have hE:=(Zi hm).symm
 replace hE:=QE hLu1 hE
 replace hE:=QE hLj_1 hE
 replace hE:=hE.symm
 subst hE
 refine QA (Hr:=[]) [] Tryz.results164 (Qy Z) ⟨Z,Z,Z⟩ (asK [] Z) Z Z (.inl Z)
 replace hm:=Q1l hm s
 refine Q5 [5,0,1] (S':=V3 ..) Z (Qt (Qi (Q4 (Q3 (wP Z (wP Z ?_))))))
 obtain ⟨aA,hm⟩:=Qd hm
 refine Qx (d:=16) (v':=.int .i64 ((f + 1:Nat):Int)) (S':=V4 ..) Z Z (Q1f (a:=f) (b:=1) aA) (QM (S':=V4 ..) Z Z Z Z Z (Q2 ?_))
 have hE:=(Zi hm).symm
 replace hE:=Q11 hLu1 hE
 refine Q14 (_,f + 1) (Nat.lt_succ_self _) hE [5,0,1] Z (asK [4,5] Z) Z
 replace hm:=Q1l hm q
 refine Q5 [] (S':=[]) Z (Q19 (Qc (Qc (Qu ?_))))
 have hE:=(Zi hm).symm
 replace hE:=QE hLu1 hE
 refine Qp () hE [] Z (asK [] Z) Z
 rintro _ hE
 try dsimp only
 have hm:=Q11 hLj_1 hE
 try dsimp only at hm
 refine Q6 (Q3 (wP Z (Q2 (Q4 (QJ ?_)))))
 have hE:=(Zi hm).symm
 replace hE:=hE.symm
 subst hE
 refine QA (Hr:=[]) [] Tryz.results164 (Qy Z) ⟨Z,Z,Z⟩ (asK [] Z) Z Z (.inl Z)
theorem Q8X (N:Nat) (rc:Int → Int → Int → ByteArray → Int → Int → (List QD) → Int → Int → Int → ByteArray → Int → Int → (List QD) → Option (Bool)) (ih : ∀ (a0:Int) (a1:Int) (a2:Int) (a3:ByteArray) (a4:Int) (a5:Int) (j:OA) (o:Nat) (l6:List QD) (a7:Int) (a8:Int) (a9:Int) (aI:ByteArray) (aJ:Int) (aK:Int) (q:OA) (y:Nat) (aH:List QD) (o0:Bool),rc a0 a1 a2 a3 a4 a5 l6 a7 a8 a9 aI aJ aK aH = some o0 → Q1z Tryz.prog 112 [.agg #[.int .u8 a0,.int .u8 a1,.int .i64 a2,.string a3,.int .i64 a4,.int .u8 a5,.slice j l6.length o],.agg #[.int .u8 a7,.int .u8 a8,.int .i64 a9,.string aI,.int .i64 aJ,.int .u8 aK,.slice q aH.length y]] [.sli 7 Q1c j o l6,.sli 7 Q1c q y aH] [] (fun v Φr Hr=>v = .bool o0 ∧ Φr = [] ∧ Hr = [])) (j:OA) (o:Nat) (l0:List QD) (q:OA) (y:Nat) (l1:List QD) (o0:Bool) (hm:Q5D N rc l0 l1 = some o0):Q1z Tryz.prog 163 [.slice j l0.length o,.slice q l1.length y] [.sli 7 Q1c j o l0,.sli 7 Q1c q y l1] [] (fun v Φr Hr=>v = .bool o0 ∧ Φr = [] ∧ Hr = []):=by
 unfold Q5D at hm
 refine Q12 Tryz.func163 Z Tryz.ntmps163 Z (S:=[_,_]) Z (fun C=>(Q6 (Q3 (wP Z (Q2 (Q4 (Q5 [0,1] (S':=[_,_]) Z (Q6 (Q6 (Q3 (wP Z (wN Z Q7e (wP Z (wN Z Q7e ?_))))))))))))))
 refine wP Z (Qx (d:=10) (v':=.bool (l0.length != l1.length)) (S':=V6 ..) Z Z (Q8e (a:=l0.length) (b:=l1.length)) (Q2 (Q4 (Q5 [10,0,1] (S':=V3 ..) Z ?_))))
 refine Qv Z (fun aB=>?_) (fun aB=>?_)
 replace hm:=Q1m hm aB
 refine Q5 [] (S':=[]) Z (Q6 (Q3 (wP Z (Q2 (Q4 (QJ (Qj ?_)))))))
 have hE:=(Zi hm).symm
 replace hE:=hE.symm
 subst hE
 refine QA (Hr:=[]) [] Tryz.results163 (Qy Z) ⟨Z,Z,Z⟩ (asK [] Z) Z Z (.inl Z)
 replace hm:=Q1l hm aB
 refine Q5 [0,1] (S':=[_,_]) Z (Qt (Q4 (Q6 ?_)))
 obtain ⟨aG,hm,hLj_1⟩:=Q1R hm
 refine Q15 (σ:=Unit) (fun _=>aG = .inl ()) (fun _=>[]) (fun _=>[]) (fun _=>[]) ?_ ?_
 refine Q6 (Q3 (wP Z (Q2 (Q4 (Qn (Q1b (σ:=Nat × Nat) (fun (z,f)=>Q1B (Q4I N l0 l1 rc) z f = some aG) (fun (z,f)=>z) (fun (z,f)=>[(5,.int .i64 ((f:Nat):Int)),(0,.slice j l0.length o),(1,.slice q l1.length y)]) (fun (z,f)=>[.sli 7 Q1c j o l0,.sli 7 Q1c q y l1]) (fun (z,f)=>[]) (N,0) hm [5,0,1] Z (asK [0,1] Z) Z (fun s_ hm=>?_)))))))
 obtain ⟨z,f⟩:=s_
 try dsimp only at hm ⊢
 obtain ⟨b9,bA,aM,hq,hLu1⟩:=Q18 hm
 clear hm
 subst aM
 replace hm:=hq
 clear hq
 unfold Q4I at hm
 try dsimp only at hm
 refine Q6 (Q6 (Q3 (wP Z (wP Z (wN Z Q7e (wP Z (Qx (d:=14) (v':=.bool (decide (f < l0.length))) (S':=V6 ..) Z Z (Q20 (a:=f) (b:=l0.length)) (Q2 (Q4 (Q5 [14,5,0,1] (S':=V4 ..) Z ?_))))))))))
 refine Qv Z (fun aC=>?_) (fun aC=>?_)
 replace hm:=Q1m hm aC
 refine Q5 [5,0,1] (S':=V3 ..) Z (Qt (Q4 (Q6 (Qn (Q6 ?_)))))
 obtain ⟨a6,aN,hm⟩:=Q7 hm
 obtain ⟨aA,aO,hm⟩:=Q7 hm
 obtain ⟨bB,aP,hm⟩:=Q7 hm
 refine QV [0,1,2,3,4,5,6,7,9] Z Z (fun hok=>(xP hok 0 Z (xP hok 1 Z (Q1o hok 2 0 f Z Z Z Zq Z Z Z Z Z Z aN Q7e Q53 (fun bC bD b7 aW=>(Q1u Q4T 1 Z (fun aQ aR _=>?_)))))))
 subst aR
 refine Q1I hok 3 1 0 Z Z Z Zq Z Z Z Z (cs:=V7 ..) Z Q53 Q8t Z Z (xP hok 4 Z (xP hok 5 Z (Q1o hok 6 4 f Z Z Z Zq Z Z Z Z Z Z aO Q7e Q53 (fun bE bF b8 aX=>(Q1u Q4T 1 Z (fun aS aT _=>?_))))))
 subst aT
 refine Q1I hok 7 1 0 Z Z Z Zq Z Z Z Z (cs:=V7 ..) Z Q53 Q8t Z Z (xS hok 8 Z (wC [] [] Z fn_112 Z (ih a6.kind a6.value.k a6.value.n a6.value.s a6.var a6.op aQ.1 aQ.2 a6.kids aA.kind aA.value.k aA.value.n aA.value.s aA.var aA.op aS.1 aS.2 aA.kids _ aP) (asK [3,0] Z) Z (H':=[]) Z ?_))
 rintro _ _ _ ⟨rfl,rfl,rfl⟩
 refine Q2 (Qs [0,1,2,3,4,5,6,7] [] Z Z (xP hok 9 Z (QI hok Z (Q4 (Q5 [26,5,0,1] (S':=V4 ..) Z ?_)))))
 refine Qv Z (fun aD=>?_) (fun aD=>?_)
 replace hm:=Q1m hm aD
 refine Q5 [] (S':=[]) Z (Q6 (Q3 (wP Z (Q2 (Q4 (QJ (QR (Qj (Qj (QR (Qj ?_)))))))))))
 have hE:=(Zi hm).symm
 replace hE:=QE hLu1 hE
 replace hE:=QE hLj_1 hE
 replace hE:=hE.symm
 subst hE
 refine QA (Hr:=[]) [] Tryz.results163 (Qy Z) ⟨Z,Z,Z⟩ (asK [] Z) Z Z (.inl Z)
 replace hm:=Q1l hm aD
 refine Q5 [5,0,1] (S':=V3 ..) Z (Qt (Qi (Q4 (Q3 (wP Z (wP Z ?_))))))
 obtain ⟨aU,hm⟩:=Qd hm
 refine Qx (d:=16) (v':=.int .i64 ((f + 1:Nat):Int)) (S':=V4 ..) Z Z (Q1f (a:=f) (b:=1) aU) (QM (S':=V4 ..) Z Z Z Z Z (Q2 ?_))
 have hE:=(Zi hm).symm
 replace hE:=Q11 hLu1 hE
 refine Q14 (_,f + 1) (Nat.lt_succ_self _) hE [5,0,1] Z (asK [6,7] Z) Z
 replace hm:=Q1l hm aC
 refine Q5 [] (S':=[]) Z (Q19 (Qc (Qc (Qu ?_))))
 have hE:=(Zi hm).symm
 replace hE:=QE hLu1 hE
 refine Qp () hE [] Z (asK [] Z) Z
 rintro _ hE
 try dsimp only
 have hm:=Q11 hLj_1 hE
 try dsimp only at hm
 refine Q6 (Q3 (wP Z (Q2 (Q4 (QJ ?_)))))
 have hE:=(Zi hm).symm
 replace hE:=hE.symm
 subst hE
 refine QA (Hr:=[]) [] Tryz.results163 (Qy Z) ⟨Z,Z,Z⟩ (asK [] Z) Z Z (.inl Z)
theorem Q9r (N:Nat) (rc:Int → Int → Int → ByteArray → Int → Int → (List QD) → Int → Int → Int → ByteArray → Int → Int → (List QD) → Option (Bool)) (ih : ∀ (a0:Int) (a1:Int) (a2:Int) (a3:ByteArray) (a4:Int) (a5:Int) (o:OA) (q:Nat) (l6:List QD) (a7:Int) (a8:Int) (a9:Int) (s:ByteArray) (a6:Int) (aA:Int) (y:OA) (z:Nat) (j:List QD) (o0:Bool),rc a0 a1 a2 a3 a4 a5 l6 a7 a8 a9 s a6 aA j = some o0 → Q1z Tryz.prog 112 [.agg #[.int .u8 a0,.int .u8 a1,.int .i64 a2,.string a3,.int .i64 a4,.int .u8 a5,.slice o l6.length q],.agg #[.int .u8 a7,.int .u8 a8,.int .i64 a9,.string s,.int .i64 a6,.int .u8 aA,.slice y j.length z]] [.sli 7 Q1c o q l6,.sli 7 Q1c y z j] [] (fun v Φr Hr=>v = .bool o0 ∧ Φr = [] ∧ Hr = [])) (a0:Int) (a1:Int) (a2:Int) (a3:ByteArray) (a4:Int) (a5:Int) (o:OA) (q:Nat) (l6:List QD) (a7:Int) (a8:Int) (a9:Int) (s:ByteArray) (a6:Int) (aA:Int) (y:OA) (z:Nat) (j:List QD) (o0:Bool) (hm:Q6e N rc a0 a1 a2 a3 a4 a5 l6 a7 a8 a9 s a6 aA j = some o0):Q1z Tryz.prog 112 [.agg #[.int .u8 a0,.int .u8 a1,.int .i64 a2,.string a3,.int .i64 a4,.int .u8 a5,.slice o l6.length q],.agg #[.int .u8 a7,.int .u8 a8,.int .i64 a9,.string s,.int .i64 a6,.int .u8 aA,.slice y j.length z]] [.sli 7 Q1c o q l6,.sli 7 Q1c y z j] [] (fun v Φr Hr=>v = .bool o0 ∧ Φr = [] ∧ Hr = []):=by
 unfold Q6e at hm
 refine Q12 Tryz.func112 Z Tryz.ntmps112 Z (S:=[_,_]) Z (fun C=>(Q6 (Q3 (wB Z (fun g2=>(wB Z (fun g3=>(wP Z (Q2 (Q4 (Q5 [3,2] (S':=[_,_]) Z (Q6 ?_))))))))))))
 obtain ⟨aQ,hm,hLj_1⟩:=Q7 hm
 unfold Q7B at hm
 refine Q15 (σ:=Bool) (fun f=>aQ = f) (fun f=>[(4,.bool f)]) (fun f=>[]) (fun f=>[]) ?_ ?_
 refine Q3 (wF Z tF_194_0 (wD 1 0 Z tS_191 tA_191 Z (wF Z tF_194_0 (wD 0 0 Z tS_191 tA_191 Z (wP Z (wP Z ?_))))))
 refine Q28 (d:=10) (S':=V7 ..) Z Z (fun aB=>?_) (fun aB=>?_)
 replace hm:=Q1m hm aB
 refine wF Z tF_194_1 (Q1E 1 1 Z Z Z Zq Z Z Z (cs:=V3 ..) Z tS_172 tA_172 Z Z (wF Z tF_194_1 (Q1E 0 1 Z Z Z Zq Z Z Z (cs:=V3 ..) Z tS_172 tA_172 Z Z (Q4l Z Z Z Zq Z Z Z (eqlV _ _ (⟨a1,a2,a3⟩ : V) (⟨a8,a9,s⟩ : V)) (wP Z (wP Z ?_))))))
 refine Q28 (d:=17) (S':=V14 ..) Z Z (fun aC=>?_) (fun aC=>?_)
 replace hm:=Q1m hm aC
 refine wF Z tF_194_2 (wD 1 4 Z Q1i Q2d Z (wF Z tF_194_2 (wD 0 4 Z Q1i Q2d Z (wP Z (wP Z (wP Z ?_))))))
 refine Q28 (d:=24) (S':=V21 ..) Z Z (fun aD=>?_) (fun aD=>?_)
 replace hm:=Q1m hm aD
 refine wF Z tF_194_3 (wD 1 5 Z tS_192 tA_192 Z (wF Z tF_194_3 (wD 0 5 Z tS_192 tA_192 Z (wP Z (wP Z (wP Z ?_))))))
 refine Q28 (d:=31) (S':=V28 ..) Z Z (fun aE=>?_) (fun aE=>?_)
 replace hm:=Q1m hm aE
 refine wF Z tF_194_4 (wD 1 6 Z tS_190 tA_190 Z (wF Z tF_194_4 (wD 0 6 Z tS_190 tA_190 Z ?_)))
 obtain ⟨aS,aR,hm⟩:=Q7 hm
 refine wC [] [0,1] Z fn_163 Z (Q8X N rc ih o q l6 y z j _ aR) (asK [0,1] Z) Z (H':=[_,_]) Z ?_
 rintro _ _ _ ⟨rfl,rfl,rfl⟩
 refine wP Z (wP Z (Q2 ?_))
 have hE:=(Zi hm).symm
 refine Q17 [] Z (H':=[]) Z ?_
 refine Qp aS hE [4] Z (asK [] Z) Z
 replace hm:=Q1l hm aE
 refine wO Z (wO Z (wO Z (wO Z (wO Z (wP Z (wP Z (Q2 ?_)))))))
 have hE:=(Zi hm).symm
 refine Q17 [] Z (H':=[]) Z ?_
 refine Qp false hE [4] Z (asK [] Z) Z
 replace hm:=Q1l hm aD
 refine wO Z (wO Z (wO Z (wO Z (wO Z (wP Z (wP Z (wO Z (wO Z (wO Z (wO Z (wO Z (wP Z (wP Z ?_)))))))))))))
 refine Q2 ?_
 have hE:=(Zi hm).symm
 refine Q17 [] Z (H':=[]) Z ?_
 refine Qp false hE [4] Z (asK [] Z) Z
 replace hm:=Q1l hm aC
 refine wO Z (wO Z (wO Z (wO Z (wO Z (wP Z (wP Z (wO Z (wO Z (wO Z (wO Z (wO Z (wP Z (wP Z ?_)))))))))))))
 refine wO Z (wO Z (wO Z (wO Z (wO Z (wP Z (wP Z (Q2 ?_)))))))
 have hE:=(Zi hm).symm
 refine Q17 [] Z (H':=[]) Z ?_
 refine Qp false hE [4] Z (asK [] Z) Z
 replace hm:=Q1l hm aB
 refine wO Z (wO Z (wO Z (wO Z (wO Z (wP Z (wP Z (wO Z (wO Z (wO Z (wO Z (wO Z (wP Z (wP Z ?_)))))))))))))
 refine wO Z (wO Z (wO Z (wO Z (wO Z (wP Z (wP Z (wO Z (wO Z (wO Z (wO Z (wO Z (wP Z (wP Z ?_)))))))))))))
 refine Q2 ?_
 have hE:=(Zi hm).symm
 refine Q17 [] Z (H':=[]) Z ?_
 refine Qp false hE [4] Z (asK [] Z) Z
 rintro f hE
 try dsimp only
 have hm:=hLj_1
 try rw [hE] at hm
 refine QJ ?_
 have hE:=(Zi hm).symm
 replace hE:=hE.symm
 subst hE
 refine QA (Hr:=[]) [] Tryz.results112 (Qy Z) ⟨Z,Z,Z⟩ (asK [] Z) Z Z (.inl Z)
theorem Q7U : ∀ (N:Nat),∀ (a0:Int) (a1:Int) (a2:Int) (a3:ByteArray) (a4:Int) (a5:Int) (qp0:OA) (qc1:Nat) (l6:List QD) (a7:Int) (a8:Int) (a9:Int) (a10:ByteArray) (a11:Int) (a12:Int) (qp2:OA) (qc3:Nat) (l13:List QD) (o0:Bool),Q42 N a0 a1 a2 a3 a4 a5 l6 a7 a8 a9 a10 a11 a12 l13 = some o0 → Q1z Tryz.prog 112 [.agg #[.int .u8 a0,.int .u8 a1,.int .i64 a2,.string a3,.int .i64 a4,.int .u8 a5,.slice qp0 l6.length qc1],.agg #[.int .u8 a7,.int .u8 a8,.int .i64 a9,.string a10,.int .i64 a11,.int .u8 a12,.slice qp2 l13.length qc3]] [.sli 7 Q1c qp0 qc1 l6,.sli 7 Q1c qp2 qc3 l13] [] (fun v Φr Hr=>v = .bool o0 ∧ Φr = [] ∧ Hr = []):=by
 intro N
 induction N with
 | zero=>intro a0 a1 a2 a3 a4 a5 qp0 qc1 l6 a7 a8 a9 a10 a11 a12 qp2 qc3 l13 o0 hm; cases hm
 | succ N ih=>intro a0 a1 a2 a3 a4 a5 qp0 qc1 l6 a7 a8 a9 a10 a11 a12 qp2 qc3 l13 o0 hm; exact Q9r N (Q42 N) ih a0 a1 a2 a3 a4 a5 qp0 qc1 l6 a7 a8 a9 a10 a11 a12 qp2 qc3 l13 o0 hm
theorem Q9Y (N:Nat) (a0:Int) (a1:Int) (z:OA) (a2:Nat) (l2:List ArgD) (a3:Int) (a4:Int) (a5:Int) (a6:ByteArray) (a7:Int) (a8:Int) (a9:OA) (aA:Nat) (l9:List QD) (aL:Int) (aM:Int) (aB:OA) (aC:Nat) (s:List ArgD) (aD:Int) (aE:Int) (aF:Int) (aG:ByteArray) (aH:Int) (aI:Int) (aJ:OA) (aK:Nat) (y:List QD) (o0:Bool) (hm:Q6W N a0 a1 l2 a3 a4 a5 a6 a7 a8 l9 aL aM s aD aE aF aG aH aI y = some o0):Q1z Tryz.prog 115 [.agg #[.int .u8 a0,.int .i64 a1,.slice z l2.length a2,.int .u8 a3,.int .u8 a4,.int .i64 a5,.string a6,.int .i64 a7,.int .u8 a8,.slice a9 l9.length aA],.agg #[.int .u8 aL,.int .i64 aM,.slice aB s.length aC,.int .u8 aD,.int .u8 aE,.int .i64 aF,.string aG,.int .i64 aH,.int .u8 aI,.slice aJ y.length aK]] [.sli 5 Q7I z a2 l2,.sli 7 Q1c a9 aA l9,.sli 5 Q7I aB aC s,.sli 7 Q1c aJ aK y] [] (fun v Φr Hr=>v = .bool o0 ∧ Φr = [] ∧ Hr = []):=by
 unfold Q6W at hm
 refine Q12 Tryz.func115 Z Tryz.ntmps115 Z (S:=[_,_]) Z (fun C=>(Q6 (Q3 (wB Z (fun g2=>(wB Z (fun g3=>(wP Z (Q2 (Q4 (Q5 [3,2] (S':=[_,_]) Z (Q6 ?_))))))))))))
 obtain ⟨aN,hm,hLj_1⟩:=Q7 hm
 unfold Q7A at hm
 refine Q15 (σ:=Bool) (fun f=>aN = f) (fun f=>[(4,.bool f)]) (fun f=>[]) (fun f=>[]) ?_ ?_
 refine Q3 (wF Z tF_204_0 (wD 1 0 Z tS_202 tA_202 Z (wF Z tF_204_0 (wD 0 0 Z tS_202 tA_202 Z (wP Z (wP Z ?_))))))
 refine Q28 (d:=10) (S':=V7 ..) Z Z (fun j=>?_) (fun j=>?_)
 replace hm:=Q1m hm j
 refine wF Z tF_204_1 (wD 1 1 Z Q1i Q2d Z (wF Z tF_204_1 (wD 0 1 Z Q1i Q2d Z (wP Z (wP Z (wP Z ?_))))))
 refine Q28 (d:=17) (S':=V14 ..) Z Z (fun o=>?_) (fun o=>?_)
 replace hm:=Q1m hm o
 refine wF Z tF_204_2 (wD 1 2 Z tS_197 tA_197 Z (wF Z tF_204_2 (wD 0 2 Z tS_197 tA_197 Z ?_)))
 obtain ⟨b2,aO,hm⟩:=Q7 hm
 refine wC [] [0,1] Z fn_164 Z (Q9X N z a2 l2 aB aC s _ aO) (asK [0,2] Z) Z (H':=[_,_]) Z ?_
 rintro _ _ _ ⟨rfl,rfl,rfl⟩
 refine wP Z (wP Z ?_)
 refine Q28 (d:=24) (S':=V21 ..) Z Z (fun q=>?_) (fun q=>?_)
 replace hm:=Q1m hm q
 refine wF Z tF_204_3 (Q1E 1 3 Z Z Z Zq Z Z Z (cs:=V7 ..) Z Q53 Q8t Z Z (wF Z tF_204_3 (Q1E 0 3 Z Z Z Zq Z Z Z (cs:=V7 ..) Z Q53 Q8t Z Z ?_)))
 obtain ⟨aY,aP,hm⟩:=Q7 hm
 refine wC [] [0,1] Z fn_112 Z (Q7U N a3 a4 a5 a6 a7 a8 a9 aA l9 aD aE aF aG aH aI aJ aK y _ aP) (asK [1,3] Z) Z (H':=[_,_]) Z ?_
 rintro _ _ _ ⟨rfl,rfl,rfl⟩
 refine wP Z (wP Z (Q2 ?_))
 have hE:=(Zi hm).symm
 refine Q17 [] Z (H':=[]) Z ?_
 refine Qp aY hE [4] Z (asK [] Z) Z
 replace hm:=Q1l hm q
 refine wO Z (wO Z (wO Z (wO Z (wO Z (wP Z (wP Z (Q2 ?_)))))))
 have hE:=(Zi hm).symm
 refine Q17 [] Z (H':=[]) Z ?_
 refine Qp false hE [4] Z (asK [] Z) Z
 replace hm:=Q1l hm o
 refine wO Z (wO Z (wO Z (wO Z (wO Z (wP Z (wP Z (wO Z (wO Z (wO Z (wO Z (wO Z (wP Z (wP Z ?_)))))))))))))
 refine Q2 ?_
 have hE:=(Zi hm).symm
 refine Q17 [] Z (H':=[]) Z ?_
 refine Qp false hE [4] Z (asK [] Z) Z
 replace hm:=Q1l hm j
 refine wO Z (wO Z (wO Z (wO Z (wO Z (wP Z (wP Z (wO Z (wO Z (wO Z (wO Z (wO Z (wP Z (wP Z ?_)))))))))))))
 refine wO Z (wO Z (wO Z (wO Z (wO Z (wP Z (wP Z (Q2 ?_)))))))
 have hE:=(Zi hm).symm
 refine Q17 [] Z (H':=[]) Z ?_
 refine Qp false hE [4] Z (asK [] Z) Z
 rintro f hE
 try dsimp only
 have hm:=hLj_1
 try rw [hE] at hm
 refine QJ ?_
 have hE:=(Zi hm).symm
 replace hE:=hE.symm
 subst hE
 refine QA (Hr:=[]) [] Tryz.results115 (Qy Z) ⟨Z,Z,Z⟩ (asK [] Z) Z Z (.inl Z)
theorem Q9B (N:Nat) (a2:OA) (a3:Nat) (l0:List Q1P) (a4:OA) (a5:Nat) (l1:List Q1P) (o0:Bool) (hm:Q6q N l0 l1 = some o0):Q1z Tryz.prog 165 [.slice a2 l0.length a3,.slice a4 l1.length a5] [.sli 10 Q2A a2 a3 l0,.sli 10 Q2A a4 a5 l1] [] (fun v Φr Hr=>v = .bool o0 ∧ Φr = [] ∧ Hr = []):=by
 unfold Q6q at hm
 refine Q12 Tryz.func165 Z Tryz.ntmps165 Z (S:=[_,_]) Z (fun C=>(Q6 (Q3 (wP Z (Q2 (Q4 (Q5 [0,1] (S':=[_,_]) Z (Q6 (Q6 (Q3 (wP Z (wN Z tE_35 (wP Z (wN Z tE_35 ?_))))))))))))))
 refine wP Z (Qx (d:=10) (v':=.bool (l0.length != l1.length)) (S':=V6 ..) Z Z (Q8e (a:=l0.length) (b:=l1.length)) (Q2 (Q4 (Q5 [10,0,1] (S':=V3 ..) Z ?_))))
 refine Qv Z (fun y=>?_) (fun y=>?_)
 replace hm:=Q1m hm y
 refine Q5 [] (S':=[]) Z (Q6 (Q3 (wP Z (Q2 (Q4 (QJ (Qj ?_)))))))
 have hE:=(Zi hm).symm
 replace hE:=hE.symm
 subst hE
 refine QA (Hr:=[]) [] Tryz.results165 (Qy Z) ⟨Z,Z,Z⟩ (asK [] Z) Z Z (.inl Z)
 replace hm:=Q1l hm y
 refine Q5 [0,1] (S':=[_,_]) Z (Qt (Q4 (Q6 ?_)))
 obtain ⟨a9,hm,hLj_1⟩:=Q1R hm
 refine Q15 (σ:=Unit) (fun _=>a9 = .inl ()) (fun _=>[]) (fun _=>[]) (fun _=>[]) ?_ ?_
 refine Q6 (Q3 (wP Z (Q2 (Q4 (Qn (Q1b (σ:=Nat × Nat) (fun (q,f)=>Q1B (Q5B N l0 l1) q f = some a9) (fun (q,f)=>q) (fun (q,f)=>[(5,.int .i64 ((f:Nat):Int)),(0,.slice a2 l0.length a3),(1,.slice a4 l1.length a5)]) (fun (q,f)=>[.sli 10 Q2A a2 a3 l0,.sli 10 Q2A a4 a5 l1]) (fun (q,f)=>[]) (N,0) hm [5,0,1] Z (asK [0,1] Z) Z (fun s_ hm=>?_)))))))
 obtain ⟨q,f⟩:=s_
 try dsimp only at hm ⊢
 obtain ⟨aM,aN,aA,hq,hLu1⟩:=Q18 hm
 clear hm
 subst aA
 replace hm:=hq
 clear hq
 unfold Q5B at hm
 try dsimp only at hm
 refine Q6 (Q6 (Q3 (wP Z (wP Z (wN Z tE_35 (wP Z (Qx (d:=14) (v':=.bool (decide (f < l0.length))) (S':=V6 ..) Z Z (Q20 (a:=f) (b:=l0.length)) (Q2 (Q4 (Q5 [14,5,0,1] (S':=V4 ..) Z ?_))))))))))
 refine Qv Z (fun z=>?_) (fun z=>?_)
 replace hm:=Q1m hm z
 refine Q5 [5,0,1] (S':=V3 ..) Z (Qt (Q4 (Q6 (Qn (Q6 ?_)))))
 obtain ⟨j,aB,hm⟩:=Q7 hm
 obtain ⟨o,aC,hm⟩:=Q7 hm
 obtain ⟨aO,aD,hm⟩:=Q7 hm
 refine QV [0,1,2,3,4,5,6,7,9] Z Z (fun hok=>(xP hok 0 Z (xP hok 1 Z (Q1o hok 2 0 f Z Z Z Zq Z Z Z Z Z Z aB tE_35 Q8S (fun aP aQ aK aH=>(Q1u Q8b 1 Z (fun a6 aE _=>?_)))))))
 subst aE
 refine Q1I hok 3 2 0 Z Z Z Zq Z Z Z Z (cs:=V10 ..) Z Q8S tA_204 Z Z (xP hok 4 Z (xP hok 5 Z (Q1o hok 6 5 f Z Z Z Zq Z Z Z Z Z Z aC tE_35 Q8S (fun aR aS aL aI=>(Q1u Q8b 1 Z (fun a7 aF _=>?_))))))
 subst aF
 refine Q1I hok 7 2 0 Z Z Z Zq Z Z Z Z (cs:=V10 ..) Z Q8S tA_204 Z Z (xS hok 8 Z (wC [] [] Z fn_115 Z (Q9Y N j.kind j.type a6.1.1 a6.1.2 j.args j.test.kind j.test.value.k j.test.value.n j.test.value.s j.test.var j.test.op a6.2.1 a6.2.2 j.test.kids o.kind o.type a7.1.1 a7.1.2 o.args o.test.kind o.test.value.k o.test.value.n o.test.value.s o.test.var o.test.op a7.2.1 a7.2.2 o.test.kids _ aD) (asK [4,5,0,1] Z) Z (H':=[]) Z ?_))
 rintro _ _ _ ⟨rfl,rfl,rfl⟩
 refine Q2 (Qs [0,1,2,3,4,5,6,7,8,9] [] Z Z (xP hok 9 Z (QI hok Z (Q4 (Q5 [26,5,0,1] (S':=V4 ..) Z ?_)))))
 refine Qv Z (fun a0=>?_) (fun a0=>?_)
 replace hm:=Q1m hm a0
 refine Q5 [] (S':=[]) Z (Q6 (Q3 (wP Z (Q2 (Q4 (QJ (QR (Qj (Qj (QR (Qj ?_)))))))))))
 have hE:=(Zi hm).symm
 replace hE:=QE hLu1 hE
 replace hE:=QE hLj_1 hE
 replace hE:=hE.symm
 subst hE
 refine QA (Hr:=[]) [] Tryz.results165 (Qy Z) ⟨Z,Z,Z⟩ (asK [] Z) Z Z (.inl Z)
 replace hm:=Q1l hm a0
 refine Q5 [5,0,1] (S':=V3 ..) Z (Qt (Qi (Q4 (Q3 (wP Z (wP Z ?_))))))
 obtain ⟨aG,hm⟩:=Qd hm
 refine Qx (d:=16) (v':=.int .i64 ((f + 1:Nat):Int)) (S':=V4 ..) Z Z (Q1f (a:=f) (b:=1) aG) (QM (S':=V4 ..) Z Z Z Z Z (Q2 ?_))
 have hE:=(Zi hm).symm
 replace hE:=Q11 hLu1 hE
 refine Q14 (_,f + 1) (Nat.lt_succ_self _) hE [5,0,1] Z (asK [8,9] Z) Z
 replace hm:=Q1l hm z
 refine Q5 [] (S':=[]) Z (Q19 (Qc (Qc (Qu ?_))))
 have hE:=(Zi hm).symm
 replace hE:=QE hLu1 hE
 refine Qp () hE [] Z (asK [] Z) Z
 rintro _ hE
 try dsimp only
 have hm:=Q11 hLj_1 hE
 try dsimp only at hm
 refine Q6 (Q3 (wP Z (Q2 (Q4 (QJ ?_)))))
 have hE:=(Zi hm).symm
 replace hE:=hE.symm
 subst hE
 refine QA (Hr:=[]) [] Tryz.results165 (Qy Z) ⟨Z,Z,Z⟩ (asK [] Z) Z Z (.inl Z)
theorem Q9C (N:Nat) (a2:OA) (a3:Nat) (l0:List QD) (a4:OA) (a5:Nat) (l1:List QD) (o0:Bool) (hm:Q6r N l0 l1 = some o0):Q1z Tryz.prog 163 [.slice a2 l0.length a3,.slice a4 l1.length a5] [.sli 7 Q1c a2 a3 l0,.sli 7 Q1c a4 a5 l1] [] (fun v Φr Hr=>v = .bool o0 ∧ Φr = [] ∧ Hr = []):=by
 unfold Q6r at hm
 refine Q12 Tryz.func163 Z Tryz.ntmps163 Z (S:=[_,_]) Z (fun C=>(Q6 (Q3 (wP Z (Q2 (Q4 (Q5 [0,1] (S':=[_,_]) Z (Q6 (Q6 (Q3 (wP Z (wN Z Q7e (wP Z (wN Z Q7e ?_))))))))))))))
 refine wP Z (Qx (d:=10) (v':=.bool (l0.length != l1.length)) (S':=V6 ..) Z Z (Q8e (a:=l0.length) (b:=l1.length)) (Q2 (Q4 (Q5 [10,0,1] (S':=V3 ..) Z ?_))))
 refine Qv Z (fun y=>?_) (fun y=>?_)
 replace hm:=Q1m hm y
 refine Q5 [] (S':=[]) Z (Q6 (Q3 (wP Z (Q2 (Q4 (QJ (Qj ?_)))))))
 have hE:=(Zi hm).symm
 replace hE:=hE.symm
 subst hE
 refine QA (Hr:=[]) [] Tryz.results163 (Qy Z) ⟨Z,Z,Z⟩ (asK [] Z) Z Z (.inl Z)
 replace hm:=Q1l hm y
 refine Q5 [0,1] (S':=[_,_]) Z (Qt (Q4 (Q6 ?_)))
 obtain ⟨a7,hm,hLj_1⟩:=Q1R hm
 refine Q15 (σ:=Unit) (fun _=>a7 = .inl ()) (fun _=>[]) (fun _=>[]) (fun _=>[]) ?_ ?_
 refine Q6 (Q3 (wP Z (Q2 (Q4 (Qn (Q1b (σ:=Nat × Nat) (fun (j,f)=>Q1B (Q5C N l0 l1) j f = some a7) (fun (j,f)=>j) (fun (j,f)=>[(5,.int .i64 ((f:Nat):Int)),(0,.slice a2 l0.length a3),(1,.slice a4 l1.length a5)]) (fun (j,f)=>[.sli 7 Q1c a2 a3 l0,.sli 7 Q1c a4 a5 l1]) (fun (j,f)=>[]) (N,0) hm [5,0,1] Z (asK [0,1] Z) Z (fun s_ hm=>?_)))))))
 obtain ⟨j,f⟩:=s_
 try dsimp only at hm ⊢
 obtain ⟨aM,aN,a8,hq,hLu1⟩:=Q18 hm
 clear hm
 subst a8
 replace hm:=hq
 clear hq
 unfold Q5C at hm
 try dsimp only at hm
 refine Q6 (Q6 (Q3 (wP Z (wP Z (wN Z Q7e (wP Z (Qx (d:=14) (v':=.bool (decide (f < l0.length))) (S':=V6 ..) Z Z (Q20 (a:=f) (b:=l0.length)) (Q2 (Q4 (Q5 [14,5,0,1] (S':=V4 ..) Z ?_))))))))))
 refine Qv Z (fun z=>?_) (fun z=>?_)
 replace hm:=Q1m hm z
 refine Q5 [5,0,1] (S':=V3 ..) Z (Qt (Q4 (Q6 (Qn (Q6 ?_)))))
 obtain ⟨o,a9,hm⟩:=Q7 hm
 obtain ⟨q,aA,hm⟩:=Q7 hm
 obtain ⟨aO,aB,hm⟩:=Q7 hm
 refine QV [0,1,2,3,4,5,6,7,9] Z Z (fun hok=>(xP hok 0 Z (xP hok 1 Z (Q1o hok 2 0 f Z Z Z Zq Z Z Z Z Z Z a9 Q7e Q53 (fun aP aQ aK aH=>(Q1u Q4T 1 Z (fun aC aD _=>?_)))))))
 subst aD
 refine Q1I hok 3 1 0 Z Z Z Zq Z Z Z Z (cs:=V7 ..) Z Q53 Q8t Z Z (xP hok 4 Z (xP hok 5 Z (Q1o hok 6 4 f Z Z Z Zq Z Z Z Z Z Z aA Q7e Q53 (fun aR aS aL aI=>(Q1u Q4T 1 Z (fun aE aF _=>?_))))))
 subst aF
 refine Q1I hok 7 1 0 Z Z Z Zq Z Z Z Z (cs:=V7 ..) Z Q53 Q8t Z Z (xS hok 8 Z (wC [] [] Z fn_112 Z (Q7U N o.kind o.value.k o.value.n o.value.s o.var o.op aC.1 aC.2 o.kids q.kind q.value.k q.value.n q.value.s q.var q.op aE.1 aE.2 q.kids _ aB) (asK [3,0] Z) Z (H':=[]) Z ?_))
 rintro _ _ _ ⟨rfl,rfl,rfl⟩
 refine Q2 (Qs [0,1,2,3,4,5,6,7] [] Z Z (xP hok 9 Z (QI hok Z (Q4 (Q5 [26,5,0,1] (S':=V4 ..) Z ?_)))))
 refine Qv Z (fun a0=>?_) (fun a0=>?_)
 replace hm:=Q1m hm a0
 refine Q5 [] (S':=[]) Z (Q6 (Q3 (wP Z (Q2 (Q4 (QJ (QR (Qj (Qj (QR (Qj ?_)))))))))))
 have hE:=(Zi hm).symm
 replace hE:=QE hLu1 hE
 replace hE:=QE hLj_1 hE
 replace hE:=hE.symm
 subst hE
 refine QA (Hr:=[]) [] Tryz.results163 (Qy Z) ⟨Z,Z,Z⟩ (asK [] Z) Z Z (.inl Z)
 replace hm:=Q1l hm a0
 refine Q5 [5,0,1] (S':=V3 ..) Z (Qt (Qi (Q4 (Q3 (wP Z (wP Z ?_))))))
 obtain ⟨aG,hm⟩:=Qd hm
 refine Qx (d:=16) (v':=.int .i64 ((f + 1:Nat):Int)) (S':=V4 ..) Z Z (Q1f (a:=f) (b:=1) aG) (QM (S':=V4 ..) Z Z Z Z Z (Q2 ?_))
 have hE:=(Zi hm).symm
 replace hE:=Q11 hLu1 hE
 refine Q14 (_,f + 1) (Nat.lt_succ_self _) hE [5,0,1] Z (asK [6,7] Z) Z
 replace hm:=Q1l hm z
 refine Q5 [] (S':=[]) Z (Q19 (Qc (Qc (Qu ?_))))
 have hE:=(Zi hm).symm
 replace hE:=QE hLu1 hE
 refine Qp () hE [] Z (asK [] Z) Z
 rintro _ hE
 try dsimp only
 have hm:=Q11 hLj_1 hE
 try dsimp only at hm
 refine Q6 (Q3 (wP Z (Q2 (Q4 (QJ ?_)))))
 have hE:=(Zi hm).symm
 replace hE:=hE.symm
 subst hE
 refine QA (Hr:=[]) [] Tryz.results163 (Qy Z) ⟨Z,Z,Z⟩ (asK [] Z) Z Z (.inl Z)
theorem Qa7 (N:Nat) (a0:Int) (a1:Int) (a2:Int) (s:OA) (y:Nat) (l3:List QD) (a4:Int) (a5:Int) (a6:Int) (z:OA) (a3:Nat) (l7:List QD) (o0:Bool) (hm:Q7d N a0 a1 a2 l3 a4 a5 a6 l7 = some o0):Q1z Tryz.prog 117 [.agg #[.int .u8 a0,.int .i64 a1,.int .i64 a2,.slice s l3.length y],.agg #[.int .u8 a4,.int .i64 a5,.int .i64 a6,.slice z l7.length a3]] [.sli 7 Q1c s y l3,.sli 7 Q1c z a3 l7] [] (fun v Φr Hr=>v = .bool o0 ∧ Φr = [] ∧ Hr = []):=by
 unfold Q7d at hm
 refine Q12 Tryz.func117 Z Tryz.ntmps117 Z (S:=[_,_]) Z (fun C=>(Q6 (Q3 (wB Z (fun g2=>(wB Z (fun g3=>(wP Z (Q2 (Q4 (Q5 [3,2] (S':=[_,_]) Z (Q6 ?_))))))))))))
 obtain ⟨a7,hm,hLj_1⟩:=Q7 hm
 unfold Q7R at hm
 refine Q15 (σ:=Bool) (fun f=>a7 = f) (fun f=>[(4,.bool f)]) (fun f=>[]) (fun f=>[]) ?_ ?_
 refine Q3 (wF Z tF_209_0 (wD 1 0 Z tS_207 tA_207 Z (wF Z tF_209_0 (wD 0 0 Z tS_207 tA_207 Z (wP Z (wP Z ?_))))))
 refine Q28 (d:=10) (S':=V7 ..) Z Z (fun j=>?_) (fun j=>?_)
 replace hm:=Q1m hm j
 refine wF Z tF_209_1 (wD 1 1 Z Q1i Q2d Z (wF Z tF_209_1 (wD 0 1 Z Q1i Q2d Z (wP Z (wP Z (wP Z ?_))))))
 refine Q28 (d:=17) (S':=V14 ..) Z Z (fun o=>?_) (fun o=>?_)
 replace hm:=Q1m hm o
 refine wF Z tF_209_2 (wD 1 2 Z Q1i Q2d Z (wF Z tF_209_2 (wD 0 2 Z Q1i Q2d Z (wP Z (wP Z (wP Z ?_))))))
 refine Q28 (d:=24) (S':=V21 ..) Z Z (fun q=>?_) (fun q=>?_)
 replace hm:=Q1m hm q
 refine wF Z tF_209_3 (wD 1 3 Z tS_190 tA_190 Z (wF Z tF_209_3 (wD 0 3 Z tS_190 tA_190 Z ?_)))
 obtain ⟨aB,a8,hm⟩:=Q7 hm
 refine wC [] [0,1] Z fn_163 Z (Q9C N s y l3 z a3 l7 _ a8) (asK [0,1] Z) Z (H':=[_,_]) Z ?_
 rintro _ _ _ ⟨rfl,rfl,rfl⟩
 refine wP Z (wP Z (Q2 ?_))
 have hE:=(Zi hm).symm
 refine Q17 [] Z (H':=[]) Z ?_
 refine Qp aB hE [4] Z (asK [] Z) Z
 replace hm:=Q1l hm q
 refine wO Z (wO Z (wO Z (wO Z (wO Z (wP Z (wP Z (Q2 ?_)))))))
 have hE:=(Zi hm).symm
 refine Q17 [] Z (H':=[]) Z ?_
 refine Qp false hE [4] Z (asK [] Z) Z
 replace hm:=Q1l hm o
 refine wO Z (wO Z (wO Z (wO Z (wO Z (wP Z (wP Z (wO Z (wO Z (wO Z (wO Z (wO Z (wP Z (wP Z ?_)))))))))))))
 refine Q2 ?_
 have hE:=(Zi hm).symm
 refine Q17 [] Z (H':=[]) Z ?_
 refine Qp false hE [4] Z (asK [] Z) Z
 replace hm:=Q1l hm j
 refine wO Z (wO Z (wO Z (wO Z (wO Z (wP Z (wP Z (wO Z (wO Z (wO Z (wO Z (wO Z (wP Z (wP Z ?_)))))))))))))
 refine wO Z (wO Z (wO Z (wO Z (wO Z (wP Z (wP Z (Q2 ?_)))))))
 have hE:=(Zi hm).symm
 refine Q17 [] Z (H':=[]) Z ?_
 refine Qp false hE [4] Z (asK [] Z) Z
 rintro f hE
 try dsimp only
 have hm:=hLj_1
 try rw [hE] at hm
 refine QJ ?_
 have hE:=(Zi hm).symm
 replace hE:=hE.symm
 subst hE
 refine QA (Hr:=[]) [] Tryz.results117 (Qy Z) ⟨Z,Z,Z⟩ (asK [] Z) Z Z (.inl Z)
theorem Q9W (N:Nat) (z:OA) (a0:Nat) (y:List Q1W) (a1:OA) (a2:Nat) (l1:List Q1W) (o0:Bool) (hm:Q6U N y l1 = some o0):Q1z Tryz.prog 166 [.slice z y.length a0,.slice a1 l1.length a2] [.sli 4 Q35 z a0 y,.sli 4 Q35 a1 a2 l1] [] (fun v Φr Hr=>v = .bool o0 ∧ Φr = [] ∧ Hr = []):=by
 unfold Q6U at hm
 refine Q12 Tryz.func166 Z Tryz.ntmps166 Z (S:=[_,_]) Z (fun C=>(Q6 (Q3 (wP Z (Q2 (Q4 (Q5 [0,1] (S':=[_,_]) Z (Q6 (Q6 (Q3 (wP Z (wN Z tE_36 (wP Z (wN Z tE_36 ?_))))))))))))))
 refine wP Z (Qx (d:=10) (v':=.bool (y.length != l1.length)) (S':=V6 ..) Z Z (Q8e (a:=y.length) (b:=l1.length)) (Q2 (Q4 (Q5 [10,0,1] (S':=V3 ..) Z ?_))))
 refine Qv Z (fun o=>?_) (fun o=>?_)
 replace hm:=Q1m hm o
 refine Q5 [] (S':=[]) Z (Q6 (Q3 (wP Z (Q2 (Q4 (QJ (Qj ?_)))))))
 have hE:=(Zi hm).symm
 replace hE:=hE.symm
 subst hE
 refine QA (Hr:=[]) [] Tryz.results166 (Qy Z) ⟨Z,Z,Z⟩ (asK [] Z) Z Z (.inl Z)
 replace hm:=Q1l hm o
 refine Q5 [0,1] (S':=[_,_]) Z (Qt (Q4 (Q6 ?_)))
 obtain ⟨a6,hm,hLj_1⟩:=Q1R hm
 refine Q15 (σ:=Unit) (fun _=>a6 = .inl ()) (fun _=>[]) (fun _=>[]) (fun _=>[]) ?_ ?_
 refine Q6 (Q3 (wP Z (Q2 (Q4 (Qn (Q1b (σ:=Nat × Nat) (fun (j,f)=>Q1B (Q5T N y l1) j f = some a6) (fun (j,f)=>j) (fun (j,f)=>[(5,.int .i64 ((f:Nat):Int)),(0,.slice z y.length a0),(1,.slice a1 l1.length a2)]) (fun (j,f)=>[.sli 4 Q35 z a0 y,.sli 4 Q35 a1 a2 l1]) (fun (j,f)=>[]) (N,0) hm [5,0,1] Z (asK [0,1] Z) Z (fun s_ hm=>?_)))))))
 obtain ⟨j,f⟩:=s_
 try dsimp only at hm ⊢
 obtain ⟨aL,aM,a7,hq,hLu1⟩:=Q18 hm
 clear hm
 subst a7
 replace hm:=hq
 clear hq
 unfold Q5T at hm
 try dsimp only at hm
 refine Q6 (Q6 (Q3 (wP Z (wP Z (wN Z tE_36 (wP Z (Qx (d:=14) (v':=.bool (decide (f < y.length))) (S':=V6 ..) Z Z (Q20 (a:=f) (b:=y.length)) (Q2 (Q4 (Q5 [14,5,0,1] (S':=V4 ..) Z ?_))))))))))
 refine Qv Z (fun q=>?_) (fun q=>?_)
 replace hm:=Q1m hm q
 refine Q5 [5,0,1] (S':=V3 ..) Z (Qt (Q4 (Q6 (Qn (Q6 ?_)))))
 obtain ⟨a3,a8,hm⟩:=Q7 hm
 obtain ⟨a4,a9,hm⟩:=Q7 hm
 obtain ⟨aN,aA,hm⟩:=Q7 hm
 refine QV [0,1,2,3,4,5,6,7,9] Z Z (fun hok=>(xP hok 0 Z (xP hok 1 Z (Q1o hok 2 0 f Z Z Z Zq Z Z Z Z Z Z a8 tE_36 Q8T (fun aO aP aJ aG=>(Q1u Q8o 1 Z (fun aB aC _=>?_)))))))
 subst aC
 refine Q1I hok 3 1 0 Z Z Z Zq Z Z Z Z (cs:=V4 ..) Z Q8T tA_209 Z Z (xP hok 4 Z (xP hok 5 Z (Q1o hok 6 4 f Z Z Z Zq Z Z Z Z Z Z a9 tE_36 Q8T (fun aQ aR aK aH=>(Q1u Q8o 1 Z (fun aD aE _=>?_))))))
 subst aE
 refine Q1I hok 7 1 0 Z Z Z Zq Z Z Z Z (cs:=V4 ..) Z Q8T tA_209 Z Z (xS hok 8 Z (wC [] [] Z fn_117 Z (Qa7 N a3.kind a3.type a3.which aB.1 aB.2 a3.exprs a4.kind a4.type a4.which aD.1 aD.2 a4.exprs _ aA) (asK [3,0] Z) Z (H':=[]) Z ?_))
 rintro _ _ _ ⟨rfl,rfl,rfl⟩
 refine Q2 (Qs [0,1,2,3,4,5,6,7] [] Z Z (xP hok 9 Z (QI hok Z (Q4 (Q5 [26,5,0,1] (S':=V4 ..) Z ?_)))))
 refine Qv Z (fun s=>?_) (fun s=>?_)
 replace hm:=Q1m hm s
 refine Q5 [] (S':=[]) Z (Q6 (Q3 (wP Z (Q2 (Q4 (QJ (QR (Qj (Qj (QR (Qj ?_)))))))))))
 have hE:=(Zi hm).symm
 replace hE:=QE hLu1 hE
 replace hE:=QE hLj_1 hE
 replace hE:=hE.symm
 subst hE
 refine QA (Hr:=[]) [] Tryz.results166 (Qy Z) ⟨Z,Z,Z⟩ (asK [] Z) Z Z (.inl Z)
 replace hm:=Q1l hm s
 refine Q5 [5,0,1] (S':=V3 ..) Z (Qt (Qi (Q4 (Q3 (wP Z (wP Z ?_))))))
 obtain ⟨aF,hm⟩:=Qd hm
 refine Qx (d:=16) (v':=.int .i64 ((f + 1:Nat):Int)) (S':=V4 ..) Z Z (Q1f (a:=f) (b:=1) aF) (QM (S':=V4 ..) Z Z Z Z Z (Q2 ?_))
 have hE:=(Zi hm).symm
 replace hE:=Q11 hLu1 hE
 refine Q14 (_,f + 1) (Nat.lt_succ_self _) hE [5,0,1] Z (asK [6,7] Z) Z
 replace hm:=Q1l hm q
 refine Q5 [] (S':=[]) Z (Q19 (Qc (Qc (Qu ?_))))
 have hE:=(Zi hm).symm
 replace hE:=QE hLu1 hE
 refine Qp () hE [] Z (asK [] Z) Z
 rintro _ hE
 try dsimp only
 have hm:=Q11 hLj_1 hE
 try dsimp only at hm
 refine Q6 (Q3 (wP Z (Q2 (Q4 (QJ ?_)))))
 have hE:=(Zi hm).symm
 replace hE:=hE.symm
 subst hE
 refine QA (Hr:=[]) [] Tryz.results166 (Qy Z) ⟨Z,Z,Z⟩ (asK [] Z) Z Z (.inl Z)
theorem Q9Z (N:Nat) (a0:ByteArray) (a1:Int) (a2:Int) (y:OA) (z:Nat) (l3:List Q1P) (a3:OA) (a4:Nat) (l4:List Q1W) (a5:ByteArray) (a6:Int) (a7:Int) (a8:OA) (a9:Nat) (l8:List Q1P) (aA:OA) (aB:Nat) (l9:List Q1W) (o0:Bool) (hm:Q6X N a0 a1 a2 l3 l4 a5 a6 a7 l8 l9 = some o0):Q1z Tryz.prog 120 [.agg #[.string a0,.int .i64 a1,.int .i64 a2,.slice y l3.length z,.slice a3 l4.length a4],.agg #[.string a5,.int .i64 a6,.int .i64 a7,.slice a8 l8.length a9,.slice aA l9.length aB]] [.sli 10 Q2A y z l3,.sli 4 Q35 a3 a4 l4,.sli 10 Q2A a8 a9 l8,.sli 4 Q35 aA aB l9] [] (fun v Φr Hr=>v = .bool o0 ∧ Φr = [] ∧ Hr = []):=by
 unfold Q6X at hm
 refine Q12 Tryz.func120 Z Tryz.ntmps120 Z (S:=[_,_]) Z (fun C=>(Q6 (Q3 (wB Z (fun g2=>(wB Z (fun g3=>(wP Z (Q2 (Q4 (Q5 [3,2] (S':=[_,_]) Z (Q6 ?_))))))))))))
 obtain ⟨aC,hm,hLj_1⟩:=Q7 hm
 unfold Q7C at hm
 refine Q15 (σ:=Bool) (fun f=>aC = f) (fun f=>[(4,.bool f)]) (fun f=>[]) (fun f=>[]) ?_ ?_
 refine Q3 (wF Z tF_38_0 (wD 1 0 Z tS_9 tA_9 Z (wF Z tF_38_0 (wD 0 0 Z tS_9 tA_9 Z (wP Z (wP Z ?_))))))
 refine Q28 (d:=10) (S':=V7 ..) Z Z (fun j=>?_) (fun j=>?_)
 replace hm:=Q1m hm j
 refine wF Z Q9K (wD 1 1 Z Q1i Q2d Z (wF Z Q9K (wD 0 1 Z Q1i Q2d Z (wP Z (wP Z (wP Z ?_))))))
 refine Q28 (d:=17) (S':=V14 ..) Z Z (fun o=>?_) (fun o=>?_)
 replace hm:=Q1m hm o
 refine wF Z tF_38_2 (wD 1 2 Z Q1i Q2d Z (wF Z tF_38_2 (wD 0 2 Z Q1i Q2d Z (wP Z (wP Z (wP Z ?_))))))
 refine Q28 (d:=24) (S':=V21 ..) Z Z (fun q=>?_) (fun q=>?_)
 replace hm:=Q1m hm q
 refine wF Z tF_38_3 (wD 1 3 Z tS_35 tA_35 Z (wF Z tF_38_3 (wD 0 3 Z tS_35 tA_35 Z ?_)))
 obtain ⟨aR,aD,hm⟩:=Q7 hm
 refine wC [] [0,1] Z fn_165 Z (Q9B N y z l3 a8 a9 l8 _ aD) (asK [0,2] Z) Z (H':=[_,_]) Z ?_
 rintro _ _ _ ⟨rfl,rfl,rfl⟩
 refine wP Z (wP Z ?_)
 refine Q28 (d:=31) (S':=V28 ..) Z Z (fun s=>?_) (fun s=>?_)
 replace hm:=Q1m hm s
 refine wF Z tF_38_4 (wD 1 4 Z tS_36 tA_36 Z (wF Z tF_38_4 (wD 0 4 Z tS_36 tA_36 Z ?_)))
 obtain ⟨aJ,aE,hm⟩:=Q7 hm
 refine wC [] [0,1] Z fn_166 Z (Q9W N a3 a4 l4 aA aB l9 _ aE) (asK [1,3] Z) Z (H':=[_,_]) Z ?_
 rintro _ _ _ ⟨rfl,rfl,rfl⟩
 refine wP Z (wP Z (Q2 ?_))
 have hE:=(Zi hm).symm
 refine Q17 [] Z (H':=[]) Z ?_
 refine Qp aJ hE [4] Z (asK [] Z) Z
 replace hm:=Q1l hm s
 refine wO Z (wO Z (wO Z (wO Z (wO Z (wP Z (wP Z (Q2 ?_)))))))
 have hE:=(Zi hm).symm
 refine Q17 [] Z (H':=[]) Z ?_
 refine Qp false hE [4] Z (asK [] Z) Z
 replace hm:=Q1l hm q
 refine wO Z (wO Z (wO Z (wO Z (wO Z (wP Z (wP Z (wO Z (wO Z (wO Z (wO Z (wO Z (wP Z (wP Z ?_)))))))))))))
 refine Q2 ?_
 have hE:=(Zi hm).symm
 refine Q17 [] Z (H':=[]) Z ?_
 refine Qp false hE [4] Z (asK [] Z) Z
 replace hm:=Q1l hm o
 refine wO Z (wO Z (wO Z (wO Z (wO Z (wP Z (wP Z (wO Z (wO Z (wO Z (wO Z (wO Z (wP Z (wP Z ?_)))))))))))))
 refine wO Z (wO Z (wO Z (wO Z (wO Z (wP Z (wP Z (Q2 ?_)))))))
 have hE:=(Zi hm).symm
 refine Q17 [] Z (H':=[]) Z ?_
 refine Qp false hE [4] Z (asK [] Z) Z
 replace hm:=Q1l hm j
 refine wO Z (wO Z (wO Z (wO Z (wO Z (wP Z (wP Z (wO Z (wO Z (wO Z (wO Z (wO Z (wP Z (wP Z ?_)))))))))))))
 refine wO Z (wO Z (wO Z (wO Z (wO Z (wP Z (wP Z (wO Z (wO Z (wO Z (wO Z (wO Z (wP Z (wP Z ?_)))))))))))))
 refine Q2 ?_
 have hE:=(Zi hm).symm
 refine Q17 [] Z (H':=[]) Z ?_
 refine Qp false hE [4] Z (asK [] Z) Z
 rintro f hE
 try dsimp only
 have hm:=hLj_1
 try rw [hE] at hm
 refine QJ ?_
 have hE:=(Zi hm).symm
 replace hE:=hE.symm
 subst hE
 refine QA (Hr:=[]) [] Tryz.results120 (Qy Z) ⟨Z,Z,Z⟩ (asK [] Z) Z Z (.inl Z)
theorem Q9c (N:Nat) (a1:OA) (a2:Nat) (l0:List QP) (a3:OA) (a4:Nat) (l1:List QP) (o0:Bool) (hm:Q5V N l0 l1 = some o0):Q1z Tryz.prog 89 [.slice a1 l0.length a2,.slice a3 l1.length a4] [.sli 5 QO a1 a2 l0,.sli 5 QO a3 a4 l1] [] (fun v Φr Hr=>v = .bool o0 ∧ Φr = [] ∧ Hr = []):=by
 unfold Q5V at hm
 refine Q12 Tryz.func89 Z Tryz.ntmps89 Z (S:=[_,_]) Z (fun C=>(Q6 (Q3 (wP Z (Q2 (Q4 (Q5 [0,1] (S':=[_,_]) Z (Q6 (Q6 (Q3 (wP Z (wN Z Q60 (wP Z (wN Z Q60 ?_))))))))))))))
 refine wP Z (Qx (d:=10) (v':=.bool (l0.length != l1.length)) (S':=V6 ..) Z Z (Q8e (a:=l0.length) (b:=l1.length)) (Q2 (Q4 (Q5 [10,0,1] (S':=V3 ..) Z ?_))))
 refine Qv Z (fun o=>?_) (fun o=>?_)
 replace hm:=Q1m hm o
 refine Q5 [] (S':=[]) Z (Q6 (Q3 (wP Z (Q2 (Q4 (QJ (Qj ?_)))))))
 have hE:=(Zi hm).symm
 replace hE:=hE.symm
 subst hE
 refine QA (Hr:=[]) [] Tryz.results89 (Qy Z) ⟨Z,Z,Z⟩ (asK [] Z) Z Z (.inl Z)
 replace hm:=Q1l hm o
 refine Q5 [0,1] (S':=[_,_]) Z (Qt (Q4 (Q6 ?_)))
 obtain ⟨a8,hm,hLj_1⟩:=Q1R hm
 refine Q15 (σ:=Unit) (fun _=>a8 = .inl ()) (fun _=>[]) (fun _=>[]) (fun _=>[]) ?_ ?_
 refine Q6 (Q3 (wP Z (Q2 (Q4 (Qn (Q1b (σ:=Nat × Nat) (fun (j,f)=>Q1B (Q52 N l0 l1) j f = some a8) (fun (j,f)=>j) (fun (j,f)=>[(5,.int .i64 ((f:Nat):Int)),(0,.slice a1 l0.length a2),(1,.slice a3 l1.length a4)]) (fun (j,f)=>[.sli 5 QO a1 a2 l0,.sli 5 QO a3 a4 l1]) (fun (j,f)=>[]) (N,0) hm [5,0,1] Z (asK [0,1] Z) Z (fun s_ hm=>?_)))))))
 obtain ⟨j,f⟩:=s_
 try dsimp only at hm ⊢
 obtain ⟨aL,aM,a9,hq,hLu1⟩:=Q18 hm
 clear hm
 subst a9
 replace hm:=hq
 clear hq
 unfold Q52 at hm
 try dsimp only at hm
 refine Q6 (Q6 (Q3 (wP Z (wP Z (wN Z Q60 (wP Z (Qx (d:=14) (v':=.bool (decide (f < l0.length))) (S':=V6 ..) Z Z (Q20 (a:=f) (b:=l0.length)) (Q2 (Q4 (Q5 [14,5,0,1] (S':=V4 ..) Z ?_))))))))))
 refine Qv Z (fun q=>?_) (fun q=>?_)
 replace hm:=Q1m hm q
 refine Q5 [5,0,1] (S':=V3 ..) Z (Qt (Q4 (Q6 (Qn (Q6 ?_)))))
 obtain ⟨s,aA,hm⟩:=Q7 hm
 obtain ⟨y,aB,hm⟩:=Q7 hm
 obtain ⟨aN,aC,hm⟩:=Q7 hm
 refine QV [0,1,2,3,4,5,6,7,9] Z Z (fun hok=>(xP hok 0 Z (xP hok 1 Z (Q1o hok 2 0 f Z Z Z Zq Z Z Z Z Z Z aA Q60 Q7D (fun aO aP aJ aG=>(Q1u Q3Z 1 Z (fun a5 aD _=>?_)))))))
 subst aD
 refine Q1I hok 3 2 0 Z Z Z Zq Z Z Z Z (cs:=V5 ..) Z Q7D tA_38 Z Z (xP hok 4 Z (xP hok 5 Z (Q1o hok 6 5 f Z Z Z Zq Z Z Z Z Z Z aB Q60 Q7D (fun aQ aR aK aH=>(Q1u Q3Z 1 Z (fun a6 aE _=>?_))))))
 subst aE
 refine Q1I hok 7 2 0 Z Z Z Zq Z Z Z Z (cs:=V5 ..) Z Q7D tA_38 Z Z (xS hok 8 Z (wC [] [] Z fn_120 Z (Q9Z N s.name s.salience s.vars a5.1.1 a5.1.2 s.conds a5.2.1 a5.2.2 s.acts y.name y.salience y.vars a6.1.1 a6.1.2 y.conds a6.2.1 a6.2.2 y.acts _ aC) (asK [4,5,0,1] Z) Z (H':=[]) Z ?_))
 rintro _ _ _ ⟨rfl,rfl,rfl⟩
 refine Q2 (Qs [0,1,2,3,4,5,6,7,8,9] [] Z Z (xP hok 9 Z (QI hok Z (Q4 (Q5 [26,5,0,1] (S':=V4 ..) Z ?_)))))
 refine Qv Z (fun z=>?_) (fun z=>?_)
 replace hm:=Q1m hm z
 refine Q5 [] (S':=[]) Z (Q6 (Q3 (wP Z (Q2 (Q4 (QJ (QR (Qj (Qj (QR (Qj ?_)))))))))))
 have hE:=(Zi hm).symm
 replace hE:=QE hLu1 hE
 replace hE:=QE hLj_1 hE
 replace hE:=hE.symm
 subst hE
 refine QA (Hr:=[]) [] Tryz.results89 (Qy Z) ⟨Z,Z,Z⟩ (asK [] Z) Z Z (.inl Z)
 replace hm:=Q1l hm z
 refine Q5 [5,0,1] (S':=V3 ..) Z (Qt (Qi (Q4 (Q3 (wP Z (wP Z ?_))))))
 obtain ⟨aF,hm⟩:=Qd hm
 refine Qx (d:=16) (v':=.int .i64 ((f + 1:Nat):Int)) (S':=V4 ..) Z Z (Q1f (a:=f) (b:=1) aF) (QM (S':=V4 ..) Z Z Z Z Z (Q2 ?_))
 have hE:=(Zi hm).symm
 replace hE:=Q11 hLu1 hE
 refine Q14 (_,f + 1) (Nat.lt_succ_self _) hE [5,0,1] Z (asK [8,9] Z) Z
 replace hm:=Q1l hm q
 refine Q5 [] (S':=[]) Z (Q19 (Qc (Qc (Qu ?_))))
 have hE:=(Zi hm).symm
 replace hE:=QE hLu1 hE
 refine Qp () hE [] Z (asK [] Z) Z
 rintro _ hE
 try dsimp only
 have hm:=Q11 hLj_1 hE
 try dsimp only at hm
 refine Q6 (Q3 (wP Z (Q2 (Q4 (QJ ?_)))))
 have hE:=(Zi hm).symm
 replace hE:=hE.symm
 subst hE
 refine QA (Hr:=[]) [] Tryz.results89 (Qy Z) ⟨Z,Z,Z⟩ (asK [] Z) Z Z (.inl Z)
theorem Q9D (N:Nat) (qp0:OA) (qc1:Nat) (l0:List Qw) (qp2:OA) (qc3:Nat) (l1:List QP) (qp4:OA) (qc5:Nat) (l2:List Qw) (qp6:OA) (qc7:Nat) (l3:List QP) (o0:Bool) (hm:Q6s N l0 l1 l2 l3 = some o0):Q1z Tryz.prog 40 [.agg #[.slice qp0 l0.length qc1,.slice qp2 l1.length qc3],.agg #[.slice qp4 l2.length qc5,.slice qp6 l3.length qc7]] [.sli 2 QL qp0 qc1 l0,.sli 5 QO qp2 qc3 l1,.sli 2 QL qp4 qc5 l2,.sli 5 QO qp6 qc7 l3] [] (fun v Φr Hr=>v = .bool o0 ∧ Φr = [] ∧ Hr = []):=by
 unfold Q6s at hm
 refine Q12 Tryz.func40 Z Tryz.ntmps40 Z (S:=[_,_]) Z (fun C=>(Q6 (Q3 (wB Z (fun g2=>(wB Z (fun g3=>(wP Z (Q2 (Q4 (Q5 [3,2] (S':=[_,_]) Z (Q6 (Q3 (wF Z tF_28_0 (wD 1 0 Z tS_25 tA_25 Z (wF Z tF_28_0 ?_))))))))))))))))
 refine wD 0 0 Z tS_25 tA_25 Z ?_
 obtain ⟨v9,hc9,hm⟩:=Q7 hm
 refine wC [] [0,1] Z fn_88 Z (Q9E N qp0 qc1 l0 qp4 qc5 l2 _ hc9) (asK [0,2] Z) Z (H':=[_,_]) Z ?_
 rintro _ _ _ ⟨rfl,rfl,rfl⟩
 refine wP Z ?_
 refine Q28 (d:=10) (S':=V7 ..) Z Z (fun hs10=>?_) (fun hs10=>?_)
 replace hm:=Q1m hm hs10
 refine wF Z Q4a (wD 1 1 Z Q7q Q85 Z (wF Z Q4a (wD 0 1 Z Q7q Q85 Z ?_)))
 obtain ⟨v15,hc15,hm⟩:=Q7 hm
 refine wC [] [0,1] Z fn_89 Z (Q9c N qp2 qc3 l1 qp6 qc7 l3 _ hc15) (asK [1,3] Z) Z (H':=[_,_]) Z ?_
 rintro _ _ _ ⟨rfl,rfl,rfl⟩
 refine wP Z (wP Z (Q2 (Q4 (Q5 [4] (S':=[_]) Z (QJ ?_)))))
 have hE:=(Zi hm).symm
 replace hE:=hE.symm
 subst hE
 refine QA (Hr:=[]) [] Tryz.results40 (Qy Z) ⟨Z,Z,Z⟩ (asK [] Z) Z Z (.inl Z)
 replace hm:=Q1l hm hs10
 refine wO Z (wO Z (wO Z (wO Z (wO Z (wP Z (wP Z (Q2 (Q4 (Q5 [4] (S':=[_]) Z (QJ ?_))))))))))
 have hE:=(Zi hm).symm
 replace hE:=hE.symm
 subst hE
 refine QA (Hr:=[]) [] Tryz.results40 (Qy Z) ⟨Z,Z,Z⟩ (asK [] Z) Z Z (.inl Z)
theorem Q9F (N:Nat) (j:OA) (o:Nat) (q:List Int) (o0:Int) (hm:Q6w N q = some o0):Q1z Tryz.prog 93 [.slice j q.length o,.slice j q.length o] [.sli 1 Qh j o q,tF] [] (fun v Φr Hr=>v = .int .i64 o0 ∧ Φr = [] ∧ Hr = []):=by
 unfold Q6w at hm
 refine Q12 Tryz.func93 Z Tryz.ntmps93 Z (S:=[_,_]) Z (fun C=>(Q6 (Q3 (wP Z (Q2 (Q4 (Q5 [0,1] (S':=[_,_]) Z (Q6 ?_))))))))
 obtain ⟨a2,hm,hLj_1⟩:=Q1R hm
 refine Q15 (σ:=Unit) (fun _=>a2 = .inl ()) (fun _=>[(0,.slice j q.length o),(1,.slice j q.length o)]) (fun _=>[.sli 1 Qh j o q,tF]) (fun _=>[]) ?_ ?_
 refine Q6 (Q3 (wP Z (wN Z Q1a (wP Z (Q2 (Q4 (Qn (Q1b (σ:=Nat × Nat) (fun (s,f)=>Q1B (Q5I N q) s f = some a2) (fun (s,f)=>s) (fun (s,f)=>[(11,.int .i64 ((f:Nat):Int)),(10,.int .i64 ((q.length:Nat):Int)),(9,.slice j q.length o),(0,.slice j q.length o),(1,.slice j q.length o)]) (fun (s,f)=>[.sli 1 Qh j o q,tF]) (fun (s,f)=>[]) (N,0) hm [11,10,9,0,1] Z (asK [0,1] Z) Z (fun s_ hm=>?_)))))))))
 obtain ⟨s,f⟩:=s_
 try dsimp only at hm ⊢
 obtain ⟨aH,aI,a3,hq,hLu1⟩:=Q18 hm
 clear hm
 subst a3
 replace hm:=hq
 clear hq
 unfold Q5I at hm
 try dsimp only at hm
 refine Q6 (Q3 (wP Z (Qx (d:=12) (v':=.bool (decide (f < q.length))) (S':=V5 ..) Z Z (Q20 (a:=f) (b:=q.length)) (Q2 (Q4 (Q6 ?_))))))
 refine Qv Z (fun y=>?_) (fun y=>?_)
 replace hm:=Q1m hm y
 refine Q5 [11,10,9,0,1] (S':=V5 ..) Z (Qt (Q4 (Q6 (Qn (Q6 (Q3 (wP Z ?_)))))))
 obtain ⟨aA,a4,hm⟩:=Q7 hm
 refine Q3z 0 f Z Z Z Zq Z Z Z Z Z a4 Q1a Q1i (fun aJ aK aF aB=>(Q5m Q1D 1 Z (fun aL a5 _=>?_)))
 subst a5
 refine Q5l 0 0 Z Z Z Zq Z Z Z (cs:=[_]) Z Q1i Q2d Z Z (wP Z (wP Z (Q2 (Q4 (Q5 [6,5,11,10,9,0,1] (S':=V7 ..) Z (Q6 (Q6 (Q3 (wP Z (wP Z (wN Z Q1a (wP Z (Qx (d:=19) (v':=.bool (decide (q.length ≤ f))) (S':=V10 ..) Z Z (natge (a:=f) (b:=q.length)) ?_)))))))))))))
 refine Q2 (Q4 (Q5 [19,6,5,11,10,9,0,1] (S':=V8 ..) Z ?_))
 refine Qv Z (fun z=>?_) (fun z=>?_)
 replace hm:=Q1m hm z
 refine Q5 [] (S':=[]) Z (Q6 (Q3 (wP Z (Q2 (Q4 (QJ (Qj (QR (Qj (Qj (QR (Qj ?_))))))))))))
 have hE:=(Zi hm).symm
 replace hE:=QE hLu1 hE
 replace hE:=QE hLj_1 hE
 replace hE:=hE.symm
 subst hE
 refine QA (Hr:=[]) [] Tryz.results93 (Qy Z) ⟨Z,Z,Z⟩ (asK [] Z) Z Z (.inl Z)
 replace hm:=Q1l hm z
 refine Q5 [6,5,11,10,9,0,1] (S':=V7 ..) Z (Qt (Q4 (Q6 (Q3 (wP Z (wP Z ?_))))))
 obtain ⟨aC,a6,hm⟩:=Q7 hm
 refine Q3z 2 f Z Z Z Zq Z Z Z Z Z a6 Q1a Q1i (fun aM aN aG aD=>(Q5m Q1D 1 Z (fun aO a7 _=>?_)))
 subst a7
 refine Q5l 0 0 Z Z Z Zq Z Z Z (cs:=[_]) Z Q1i Q2d Z Z (wP Z (Q2 (Q4 (Q5 [7,6,11,10,9,0,1] (S':=V7 ..) Z (Q6 (Q3 (wP Z (wP Z ?_))))))))
 obtain ⟨aP,a8,hm⟩:=Q7 hm
 refine wC [] [] Z fn_91 Z (Q2B N aA aC _ a8) (asK [] Z) Z (H':=[]) Z ?_
 rintro _ _ _ ⟨rfl,rfl,rfl⟩
 refine wP Z (Q2 (Q4 (Q5 [8,11,10,9,0,1] (S':=V6 ..) Z (Q6 (Q3 (wP Z (wP Z (Q2 (Q4 (Q5 [28,8,11,10,9,0,1] (S':=V7 ..) Z ?_))))))))))
 refine Qv Z (fun a0=>?_) (fun a0=>?_)
 replace hm:=Q1m hm a0
 refine Q5 [8] (S':=[_]) Z (Q6 (Q3 (wP Z (wP Z (Q2 (Q4 (Q5 [4] (S':=[_]) Z (QJ (QR (Qj (Qj (QR (Qj ?_)))))))))))))
 have hE:=(Zi hm).symm
 replace hE:=QE hLu1 hE
 replace hE:=QE hLj_1 hE
 replace hE:=hE.symm
 subst hE
 refine QA (Hr:=[]) [] Tryz.results93 (Qy Z) ⟨Z,Z,Z⟩ (asK [] Z) Z Z (.inl Z)
 replace hm:=Q1l hm a0
 refine Q5 [11,10,9,0,1] (S':=V5 ..) Z (Qt (Qi (Q4 (Q3 (wP Z ?_)))))
 obtain ⟨a9,hm⟩:=Qd hm
 refine Qx (d:=30) (v':=.int .i64 ((f + 1:Nat):Int)) (S':=V5 ..) Z Z (Q1f (a:=f) (b:=1) a9) (QM (S':=V5 ..) Z Z Z Z Z (Q2 ?_))
 have hE:=(Zi hm).symm
 replace hE:=Q11 hLu1 hE
 refine Q14 (_,f + 1) (Nat.lt_succ_self _) hE [11,10,9,0,1] Z (asK [4,5] Z) Z
 replace hm:=Q1l hm y
 refine Q5 [0,1] (S':=[_,_]) Z (Q19 (Qc (Qc (Qu ?_))))
 have hE:=(Zi hm).symm
 replace hE:=QE hLu1 hE
 refine Qp () hE [0,1] Z (asK [0,1] Z) Z
 rintro _ hE
 try dsimp only
 have hm:=Q11 hLj_1 hE
 try dsimp only at hm
 refine Q6 (Q6 (Q3 (wP Z (wN Z Q1a (wP Z (wN Z Q1a (wP Z (Qx (d:=35) (v':=.bool (decide (q.length < q.length))) (S':=V6 ..) Z Z (Q20 (a:=q.length) (b:=q.length)) (Q2 (Q4 (Q5 [35] (S':=[_]) Z ?_)))))))))))
 refine Qv Z (fun a1=>?_) (fun a1=>?_)
 replace hm:=Q1m hm a1
 refine Q5 [] (S':=[]) Z (Q6 (Q3 (wP Z (Q2 (Q4 (QJ (Qj ?_)))))))
 have hE:=(Zi hm).symm
 replace hE:=hE.symm
 subst hE
 refine QA (Hr:=[]) [] Tryz.results93 (Qy Z) ⟨Z,Z,Z⟩ (asK [] Z) Z Z (.inl Z)
 replace hm:=Q1l hm a1
 refine Q5 [] (S':=[]) Z (Qt (Q4 (Q6 (Q3 (wP Z (Q2 (Q4 (QJ ?_))))))))
 have hE:=(Zi hm).symm
 replace hE:=hE.symm
 subst hE
 refine QA (Hr:=[]) [] Tryz.results93 (Qy Z) ⟨Z,Z,Z⟩ (asK [] Z) Z Z (.inl Z)
theorem Q9a (N:Nat) (a2:OA) (a4:Nat) (l0:List Int) (a1:Int) (f:OA) (j:Nat) (l2:List Int) (a3:Int) (o0:Int) (hm:Q5O N l0 a1 l2 a3 = some o0):Q1z Tryz.prog 41 [.slice a2 l0.length a4,.agg #[.int .i64 a1,.slice f l2.length j],.agg #[.int .i64 a3,.slice f l2.length j]] [.sli 1 Qh a2 a4 l0,.sli 1 Qh f j l2,tF] [] (fun v Φr Hr=>v = .int .i64 o0 ∧ Φr = [] ∧ Hr = []):=by
 unfold Q5O at hm
 refine Q12 Tryz.func41 Z Tryz.ntmps41 Z (S:=V3 ..) Z (fun C=>(Q6 (Q3 (wB Z (fun g4=>(wB Z (fun g5=>(wP Z (Q2 (Q4 (Q5 [5,4,0] (S':=V3 ..) Z (Q6 ?_))))))))))))
 obtain ⟨v9,aN,hm⟩:=Q7 hm
 obtain ⟨aO,aB,hm⟩:=Q7 hm
 obtain ⟨a9,aC,hm⟩:=Q7 hm
 obtain ⟨a6,aD,hm⟩:=Q7 hm
 obtain ⟨a7,aE,hm⟩:=Q7 hm
 obtain ⟨a8,aF,hm⟩:=Q7 hm
 obtain ⟨a0,aG,hm⟩:=Q7 hm
 obtain ⟨z,aH,hm⟩:=Q7 hm
 obtain ⟨aS,aI,hm⟩:=Q7 hm
 refine QV [0,1,3,4,7,8,10,11,14,15,16,17,19,20,21,22] Z Z (fun hok=>(xP hok 0 Z (Qr hok 1 0 0 Z Z Z Zq Z Z Z Z (cs:=[_,_]) Z Qg QT Z Z (xP hok 3 Z (Qr hok 4 1 0 Z Z Z Zq Z Z Z Z (cs:=[_,_]) Z Qg QT Z Z (Qm hok 7 Z Z Z Zq Z Z Z Q2i (Qr hok 8 0 1 Z Z Z Zq Z Z Z Z (cs:=[_]) Z Q1T Q2Q Z Z (Qm hok 10 Z Z Z Zq Z Z Z Q2i (Qr hok 11 1 1 Z Z Z Zq Z Z Z Z (cs:=[_]) Z Q1T Q2Q Z Z (Qm hok 14 Z Z Z Zq Z Z Z Q22 (Qr hok 15 1 0 Z Z Z Zq Z Z Z Z (cs:=[_]) Z Q1i Q2d Z Z (Qm hok 16 Z Z Z Zq Z Z Z Q22 (Qr hok 17 0 0 Z Z Z Zq Z Z Z Z (cs:=[_]) Z Q1i Q2d Z Z (Qm hok 19 Z Z Z Zq Z Z Z Q2i ?_))))))))))))))
 refine Qr hok 20 1 1 Z Z Z Zq Z Z Z Z (cs:=[_]) Z Q1T Q2Q Z Z (Qm hok 21 Z Z Z Zq Z Z Z Q2i (Qr hok 22 0 1 Z Z Z Zq Z Z Z Z (cs:=[_]) Z Q1T Q2Q Z Z (xS hok 2 Z (wC [] [0,1] Z fn_92 Z (Q4g N a2 a4 l0 a3 f j l2 _ aN) (asK [0,1,2] Z) Z (H':=[_,_]) Z ?_))))
 rintro _ _ _ ⟨rfl,rfl,rfl⟩
 refine Q2 (Qs [0,1,2] [0,1,0,1,1,0,1] Z Z (xS hok 5 Z (wC [] [0,1] Z fn_92 Z (Q4g N a2 a4 l0 a1 f j l2 _ aB) (asK [0,1,2] Z) Z (H':=[_,_]) Z ?_)))
 rintro _ _ _ ⟨rfl,rfl,rfl⟩
 refine Q2 (Qs [0,1,2] [0,1,0,1,1,0,0] Z Z (xS hok 6 Z (wC [] [0,1] Z fn_91 Z (Q2B N v9 aO _ aC) (asK [] Z) Z (H':=[_,_]) Z ?_)))
 rintro _ _ _ ⟨rfl,rfl,rfl⟩
 refine Q2 (Qs [0,1,2] [0,1,0,1,1,0,1,0] Z Z (xS hok 9 Z (wC [] [0,1] Z fn_94 Z (Q4w N f j l2 _ aD) (asK [1,2] Z) Z (H':=[_,_]) Z ?_)))
 rintro _ _ _ ⟨o,q,rfl,rfl,rfl⟩
 refine Q2 (Qs [0,1,2] [1,2,1,2,2,2,1] Z Z (xS hok 12 Z (wC [] [0,1,2] Z fn_94 Z (Q4w N f j l2 _ aE) (asK [1,2] Z) Z (H':=V3 ..) Z ?_)))
 rintro _ _ _ ⟨s,y,rfl,rfl,rfl⟩
 refine Q2 (Qs [0,1,2] [2,3,2,3,2,3,2] Z Z (xS hok 13 Z (QQ 1 Z (fun aJ _=>(Q23 1 (v':=.slice o a6.length q) Z (by first | rfl | (rw [aJ]; done) | simp) (Q1r 1 (φ':=.own 3 1 Qh (.slice o a6.length q) a6) Z (by first | rfl | (rw [aJ]; done) | simp) (H':=V4 ..) Z (QQ 0 Z (fun aK _=>(Q23 0 (v':=.slice s a7.length y) Z (by first | rfl | (rw [aK]; done) | simp) (Q1r 0 (φ':=.own 3 1 Qh (.slice s a7.length y) a7) Z (by first | rfl | (rw [aK]; done) | simp) (H':=V4 ..) Z (Q1y [] [0,1,2,3] [1,0] Z Z Z Zq Z Z fn_93 Z (Q4e N o q a6 s y a7 _ aF) (fun F w hφ hh=>(Qe (Q1d (hh _ (Qo (k:=0) Z))) (Qe (Q1d (hh _ (Qo (k:=1) Z))) (Qe (hφ _ (Qo (k:=2) Z)) Ql)))) (fun _ _ _ hR=>by obtain ⟨rfl,rfl,rfl⟩:=hR; exact ⟨Z,(fun _ h=>Q1q h)⟩) Z Z (H':=V4 ..) Z ?_)))))))))))
 rintro _ _ _ ⟨rfl,rfl,rfl⟩
 refine Q2 (Qs [0,1,2] [2,3,2,3,3,2,3,2] Z Z (xS hok 18 Z (wC [] [0,1,2,3] Z fn_91 Z (Q2B N a1 a3 _ aG) (asK [] Z) Z (H':=V4 ..) Z ?_)))
 rintro _ _ _ ⟨rfl,rfl,rfl⟩
 refine Q2 (Qs [0,1,2] [2,3,3,2,3,2] Z Z (xS hok 23 Z (wC [] [0,1,2,3] Z fn_93 Z (Q9F N f j l2 _ aH) (asK [1,2] Z) Z (H':=V4 ..) Z ?_)))
 rintro _ _ _ ⟨rfl,rfl,rfl⟩
 refine Q2 (Qs [0,1,2] [2,3,3,2,3,2] Z Z (xS hok 24 Z (Qq Z Z Z Zq Z Q1a Q1i Q3S Z (zs:=[.int .i64 0,.int .i64 0,.int .i64 0,.int .i64 0]) (by kernel_rfl) Z (out:=V4 ..) Z (fun aP=>(Q2 (Qs [0,1,2] [3,4,3,4,4,3,4,3] Z Z (xS hok 25 Z (Q1U (sz:=1) (m:=4) Qh ([a9,a8,a0,z]) 0 Z (fun F w hφ=>⟨[.int .i64 a9],[.int .i64 a8,.int .i64 a0,.int .i64 z],Z,Z,⟨(),Z,Ql⟩,⟨[.int .i64 a8],[.int .i64 a0,.int .i64 z],Z,Z,⟨(),Z,Ql⟩,⟨[.int .i64 a0],[.int .i64 z],Z,Z,⟨(),Z,Ql⟩,⟨[.int .i64 z],[],Z,Z,⟨(),Z,Ql⟩,Z⟩⟩⟩⟩) Z (by decide) (H':=V5 ..) Z (Q1y [] [0,1,2,3,4] [0] Z Z Z Zq Z Z fn_90 Z (Q9l N (some ⟨aP,0,none⟩) 4 [a9,a8,a0,z] _ aI) (fun F w hφ hh=>(Qe (Q1d (hh _ (Qo (k:=0) Z))) (Qe (hφ _ (Qo (k:=2) Z)) Ql))) (fun _ _ _ hR=>by obtain ⟨rfl,rfl,rfl⟩:=hR; exact ⟨Z,(fun _ h=>Q1q h)⟩) Z Z (H':=V5 ..) Z ?_)))))))))
 rintro _ _ _ ⟨rfl,rfl,rfl⟩
 refine Q2 (Qs [0,1,2] [3,4,3,4,4,3,4,3] Z Z (xS hok 26 Z (wP Z (Q2 (Qs [0,1,2] [] Z Z (QI hok Z (Q4 (Q5 [6] (S':=[_]) Z (QJ ?_)))))))))
 have hE:=(Zi hm).symm
 replace hE:=hE.symm
 subst hE
 refine QA (Hr:=[]) [] Tryz.results41 (Qy Z) ⟨Z,Z,Z⟩ (asK [] Z) Z Z (.inl Z)
theorem QaC (N:Nat) (qp0:OA) (qc1:Nat) (l0:List Qw) (qp2:OA) (qc3:Nat) (l1:List QP) (a2:Int) (qp4:OA) (qc5:Nat) (l3:List Int) (a4:Int) (o0:Bool) (hm:Q7Y N l0 l1 a2 l3 a4 = some o0):Q1z Tryz.prog 20 [.agg #[.slice qp0 l0.length qc1,.slice qp2 l1.length qc3],.agg #[.int .i64 a2,.slice qp4 l3.length qc5],.agg #[.int .i64 a4,.slice qp4 l3.length qc5]] [.sli 2 QL qp0 qc1 l0,.sli 5 QO qp2 qc3 l1,.sli 1 Qh qp4 qc5 l3,tF] [] (fun v Φr Hr=>v = .bool o0 ∧ Φr = [] ∧ Hr = []):=by
 unfold Q7Y at hm
 refine Q12 Tryz.func20 Z Tryz.ntmps20 Z (S:=V3 ..) Z (fun C=>(Q6 (Q3 (wB Z (fun g3=>(wB Z (fun g4=>(wB Z (fun g5=>(wP Z (Q2 (Q4 (Q5 [5,4,3] (S':=V3 ..) Z (Q6 ?_))))))))))))))
 obtain ⟨v8,hc8,hm⟩:=Q7 hm
 obtain ⟨v11,hc11,hm⟩:=Q7 hm
 refine QV [0,2,3,5] Z Z (fun hok=>(Qr hok 0 2 0 Z Z Z Zq Z Z Z Z (cs:=[_,_]) Z Q4z Q5L Z Z (Qr hok 2 1 0 Z Z Z Zq Z Z Z Z (cs:=[_,_]) Z Qg QT Z Z (Qr hok 3 0 0 Z Z Z Zq Z Z Z Z (cs:=[_,_]) Z Qg QT Z Z (xS hok 1 Z (wC [] [0,1,2] Z fn_24 Z (Q8y N qp0 qc1 l0 qp2 qc3 l1 _ hc8) (asK [0,1,3] Z) Z (H':=V3 ..) Z ?_))))))
 rintro _ _ _ ⟨r8_0,c8_1,c8_2,rfl,rfl,rfl⟩
 refine Q2 (Qs [0,1,2,3] [1,2] Z Z (xS hok 4 Z (QQ 0 Z (fun hzc8_2 _=>?_))))
 subst hzc8_2
 refine Q1y [] [0,1,2,3] [0] Z Z Z Zq Z Z Q5o Z (Q9a N (some r8_0) c8_1 v8 a2 qp4 qc5 l3 a4 _ hc11) (fun F w hφ hh=>(Qe (Q1d (hh _ (Qo (k:=0) Z))) (Qe (hφ _ (Qo (k:=2) Z)) (Qe (hφ _ (Qo (k:=3) Z)) Ql)))) (fun _ _ _ hR=>by obtain ⟨rfl,rfl,rfl⟩:=hR; exact ⟨Z,(fun _ h=>Q1q h)⟩) Z Z (H':=V4 ..) Z ?_
 rintro _ _ _ ⟨rfl,rfl,rfl⟩
 refine Q2 (Qs [0,1,2,3] [3] Z Z (xP hok 5 Z (xS hok 6 Z (wP Z (Q2 (Qs [0,1,2,3] [] Z Z (QI hok Z (Q4 (Q5 [6] (S':=[_]) Z (QJ ?_))))))))))
 have hE:=(Zi hm).symm
 replace hE:=hE.symm
 subst hE
 refine QA (Hr:=[]) [] Tryz.results20 (Qy Z) ⟨Z,Z,Z⟩ (asK [] Z) Z Z (.inl Z)
end Go.Proofs.YtgangmegcejllaaGreatDoor
