import Derived.Test.YtgangmegcejllaaGreatDoorXW5
namespace Go.Proofs.YtgangmegcejllaaGreatDoor
open Go.RowKit
set_option maxRecDepth 100000
set_option maxHeartbeats 4000000
theorem Q4x (N:Nat) (aT:OA) (aU:Nat) (l0:List Int) (a1:Int) (aD:OA) (aE:Nat) (l2:List Int) (a3:Int) (a7:OA) (a8:Nat) (l4:List Int)  (hm:Q2R N l0 a1 l2 a3 l4 = some ()):Q1z Tryz.prog 18 [.slice aT l0.length aU,.agg #[.int .i64 a1,.slice aD l2.length aE],.agg #[.int .i64 a3,.slice a7 l4.length a8]] [.sli 1 Qh aT aU l0,.sli 1 Qh aD aE l2,.sli 1 Qh a7 a8 l4,tF] [] (fun v Φr Hr=>v = .bool true ∧ Φr = [] ∧ Hr = []):=by
 unfold Q2R at hm
 refine Q12 Tryz.func18 Z Tryz.ntmps18 Z (S:=V3 ..) Z (fun C=>(Q6 (Q3 (wB Z (fun g4=>(wB Z (fun g5=>(wP Z (Q2 (Q4 (Q5 [5,4,0] (S':=V3 ..) Z (Q6 (Q6 ?_)))))))))))))
 obtain ⟨bD,hm,hLj_1⟩:=Q7 hm
 refine Q15 (σ:=Bool) (fun aJ=>bD = aJ) (fun aJ=>[(5,.pointer (some ⟨g5,0,none⟩)),(4,.pointer (some ⟨g4,0,none⟩)),(0,.slice aT l0.length aU),(19,.bool aJ)]) (fun aJ=>[.sli 1 Qh a7 a8 l4,.sli 1 Qh aD aE l2,.sli 1 Qh aT aU l0,tF]) (fun aJ=>[.blk g5 [.int .i64 a3,.slice a7 l4.length a8] 45,.blk g4 [.int .i64 a1,.slice aD l2.length aE] 45]) ?_ ?_
 refine Q3 (wP Z (wN Z Q1a (wP Z (Qx (d:=13) (v':=.bool (decide (400 < l0.length))) (S':=V5 ..) Z Z (natgt (a:=l0.length) (b:=400)) (wP Z ?_)))))
 refine Q28 (d:=14) (S':=V6 ..) Z Z (fun b0=>?_) (fun b0=>?_)
 replace hm:=Q1m hm b0
 refine wO Z (wO Z (wO Z (wO Z (wP Z (Q2 ?_)))))
 have hE:=(Zi hm).symm
 refine Qp true hE [5,4,0,19] Z (asK [2,1,0,3] Z) Z
 replace hm:=Q1l hm b0
 refine Q1E 1 0 Z Z Z Zq Z Z Z (cs:=[_,_]) Z Qg QT Z Z (Q1E 0 0 Z Z Z Zq Z Z Z (cs:=[_,_]) Z Qg QT Z Z (Qq Z Z Z Zq Z QG Qg Q1X Z (zs:=[.int .i64 0,V1,.int .i64 0,V1]) (by kernel_rfl) Z (out:=V4 ..) Z (fun bT=>(Q1U (sz:=2) (m:=2) Q8 ([(⟨a1,l2⟩ : Q1),(⟨a3,l4⟩ : Q1)]) 0 Z (fun F w hφ=>⟨[.int .i64 a1,.slice aD l2.length aE],[.int .i64 a3,.slice a7 l4.length a8],Z,Z,⟨(aD,aE),Z,(Qe (hφ _ (Qo (k:=1) Z)) Ql)⟩,⟨[.int .i64 a3,.slice a7 l4.length a8],[],Z,Z,⟨(a7,a8),Z,(Qe (hφ _ (Qo (k:=2) Z)) Ql)⟩,Z⟩⟩) Z (by decide) (H':=V3 ..) Z ?_))))
 obtain ⟨bU,bE,hm⟩:=Q7 hm
 refine Q1y [] [0,1,2] [0] Z Z Z Zq Z Z fn_9 Z (Q88 N (some ⟨bT,0,none⟩) 2 [(⟨a1,l2⟩ : Q1),(⟨a3,l4⟩ : Q1)] _ bE) (fun F w hφ hh=>(Qe (Q1d (hh _ (Qo (k:=0) Z))) (Qe (hφ _ (Qo (k:=3) Z)) Ql))) (fun _ _ _ hR=>by obtain ⟨rfl,rfl,rfl⟩:=hR; exact ⟨Z,(fun _ h=>Q1q h)⟩) Z Z (H':=V3 ..) Z ?_
 rintro _ _ _ ⟨rfl,rfl,rfl⟩
 refine wP Z (Q2 ?_)
 have hE:=(Zi hm).symm
 refine Q17 [1,2] Z (H':=[_,_]) Z ?_
 refine Qp bU hE [5,4,0,19] Z (asK [2,1,0,3] Z) Z
 rintro aJ hE
 try dsimp only
 have hm:=hLj_1
 try rw [hE] at hm
 refine Qv Z (fun b1=>?_) (fun b1=>?_)
 replace hm:=Q1m hm b1
 refine Q5 [] (S':=[]) Z (Q6 (Q3 ?_))
 obtain ⟨_,bF,hm⟩:=Q7 hm
 try dsimp only at hm
 refine wC [] [0,1] Z fn_5 Z (Q2G N  bF) (asK [3] Z) Z (H':=[_,_]) Z ?_
 rintro _ _ _ ⟨rfl,rfl,rfl⟩
 refine wP Z (Q2 (Q4 (Q5 [6] (S':=[_]) Z (QJ (Qj ?_)))))
 have hE:=(Zi hm).symm
 refine QA (Hr:=[]) [] Tryz.results18 (Qy Z) ⟨Z,Z,Z⟩ (asK [] Z) Z Z (.inl Z)
 replace hm:=Q1l hm b1
 refine Q5 [5,4,0] (S':=V3 ..) Z (Qt (Q4 (Q6 (Q3 (wP Z ?_)))))
 obtain ⟨aW,bG,hm⟩:=Q7 hm
 refine wC [] [0,1] Z fn_6 Z (Q7s N aT aU l0 _ bG) (asK [2,3] Z) Z (H':=[_,_]) Z ?_
 rintro _ _ _ ⟨aG,aH,b2,rfl,rfl,rfl⟩
 refine Q1s Z Z Z Zq Z tZ_28 Z (fun g7=>(wS 0 0 Z Q4z (all':=[_,_]) Z (H':=V4 ..) Z (Q2 (Q4 (Q5 [7,5,4,0] (S':=V4 ..) Z (Q6 ?_))))))
 obtain ⟨aR,aV,hm⟩:=Q7 hm
 obtain ⟨aS,aI,hm⟩:=Q7 hm
 refine Q15 (σ:=Nat × OA × Nat × Nat × Nat × OA × Nat × Nat) (fun _=>True) (fun (a5,f,j,a9,a6,o,q,aA)=>[(9,.pointer (some ⟨a5,0,none⟩)),(8,.pointer (some ⟨a6,0,none⟩)),(7,.pointer (some ⟨g7,0,none⟩)),(5,.pointer (some ⟨g5,0,none⟩)),(4,.pointer (some ⟨g4,0,none⟩)),(0,.slice aT l0.length aU)]) (fun (a5,f,j,a9,a6,o,q,aA)=>[.sli 1 Qh a7 a8 l4,.sli 1 Qh aD aE l2,.sli 1 Qh aT aU l0,tF]) (fun (a5,f,j,a9,a6,o,q,aA)=>[.blk a5 [.int .i64 a3,.slice f l4.length j] 45,.own 3 1 Qh (.slice f a9 j) aS,.blk a6 [.int .i64 a1,.slice o l2.length q] 45,.own 3 1 Qh (.slice o aA q) aR,.blk g7 [V1,.slice aG b2 aH] 28,.own 38 5 QO (.slice aG b2 aH) aW,.blk g5 [.int .i64 a3,.slice a7 l4.length a8] 45,.blk g4 [.int .i64 a1,.slice aD l2.length aE] 45]) ?_ ?_
 refine QV [0,2] Z Z (fun hok=>(Qr hok 0 3 0 Z Z Z Zq Z Z Z Z (cs:=[_,_]) Z Qg QT Z Z (Qr hok 2 2 0 Z Z Z Zq Z Z Z Z (cs:=[_,_]) Z Qg QT Z Z ?_)))
 refine wx_step3 hok 1 4 5 Z Z Z Z Z Z Z Z ?_ ?_ ?_
 refine wC [] [0,1,2,3] Z Q8A Z (Q1n N a1 aD aE l2 _ aV) (asK [1] Z) Z (H':=V4 ..) Z ?_
 rintro _ _ _ ⟨a0,a2,a4,rfl,rfl,rfl⟩
 refine Q2 (Qs [0,1,2,3] [3] Z Z ?_)
 refine wx_step3 hok 3 4 5 Z Z Z Z Z Z Z Z ?_ ?_ ?_
 refine wC [] [0,1,2,3,4] Z Q8A Z (Q1n N a3 a7 a8 l4 _ aI) (asK [0] Z) Z (H':=V5 ..) Z ?_
 rintro _ _ _ ⟨s,y,z,rfl,rfl,rfl⟩
 refine Q2 (Qs [0,1,2,3] [5] Z Z ?_)
 refine Q1v hok 4 5 Z Z Z Z Z Z ?_ ?_
 refine Q1s Z Z Z Zq Z Q1X Z (fun g8=>(Q2 (Qs [0,1,2,3] [5,6] Z Z (xS hok 5 Z (Q1s Z Z Z Zq Z Q1X Z (fun g9=>(Q2 (Qs [0,1,2,3] [6,7] Z Z (xS hok 6 Z (wS 1 0 Z Qg (all':=[_,_]) Z (H':=V8 ..) Z (Q2 (Qs [0,1,2,3] [6] Z Z (xS hok 7 Z (wS 0 0 Z Qg (all':=[_,_]) Z (H':=V8 ..) Z (Q2 ?_)))))))))))))))
 refine Qs [0,1,2,3] [] Z Z (QI hok Z (Q17 [0,2,1,3,4,5,6,7] Z (H':=V8 ..) Z ?_))
 refine Qp (g9,s,y,z,g8,a0,a2,a4) trivial [9,8,7,5,4,0] Z (asK [0,1,2,3] Z) Z
 refine Q1s Z Z Z Zq Z Q1X Z (fun g9=>(Q2 (Qs [0,1,2,3] [5,6] Z Z (xS hok 4 Z (Q1s Z Z Z Zq Z Q1X Z (fun g8=>(Q2 (Qs [0,1,2,3] [6,7] Z Z (xS hok 6 Z (wS 0 0 Z Qg (all':=[_,_]) Z (H':=V8 ..) Z (Q2 (Qs [0,1,2,3] [6] Z Z (xS hok 7 Z (wS 1 0 Z Qg (all':=[_,_]) Z (H':=V8 ..) Z (Q2 ?_)))))))))))))))
 refine Qs [0,1,2,3] [] Z Z (QI hok Z (Q17 [1,2,0,3,4,5,6,7] Z (H':=V8 ..) Z ?_))
 refine Qp (g9,s,y,z,g8,a0,a2,a4) trivial [9,8,7,5,4,0] Z (asK [0,1,2,3] Z) Z
 refine Q1s Z Z Z Zq Z Q1X Z (fun g8=>(Q2 (Qs [0,1,2,3] [4,5] Z Z ?_)))
 refine Q1v hok 3 5 Z Z Z Z Z Z ?_ ?_
 refine wC [] [0,1,2,3,4,5] Z Q8A Z (Q1n N a3 a7 a8 l4 _ aI) (asK [0] Z) Z (H':=V6 ..) Z ?_
 rintro _ _ _ ⟨s,y,z,rfl,rfl,rfl⟩
 refine Q2 (Qs [0,1,2,3] [6] Z Z (xS hok 5 Z (Q1s Z Z Z Zq Z Q1X Z (fun g9=>(Q2 (Qs [0,1,2,3] [6,7] Z Z (xS hok 6 Z (wS 2 0 Z Qg (all':=[_,_]) Z (H':=V8 ..) Z (Q2 (Qs [0,1,2,3] [6] Z Z (xS hok 7 Z (wS 0 0 Z Qg (all':=[_,_]) Z (H':=V8 ..) Z (Q2 (Qs [0,1,2,3] [] Z Z ?_))))))))))))))
 refine QI hok Z ?_
 refine Qp (g9,s,y,z,g8,a0,a2,a4) trivial [9,8,7,5,4,0] Z (asK [0,1,2,3] Z) Z
 refine Q1s Z Z Z Zq Z Q1X Z (fun g9=>(Q2 (Qs [0,1,2,3] [5,6] Z Z (xS hok 3 Z (wC [] [0,1,2,3,4,5,6] Z Q8A Z (Q1n N a3 a7 a8 l4 _ aI) (asK [0] Z) Z (H':=V7 ..) Z ?_)))))
 rintro _ _ _ ⟨s,y,z,rfl,rfl,rfl⟩
 refine Q2 (Qs [0,1,2,3] [7] Z Z (xS hok 6 Z (wS 2 0 Z Qg (all':=[_,_]) Z (H':=V8 ..) Z (Q2 (Qs [0,1,2,3] [6] Z Z (xS hok 7 Z (wS 1 0 Z Qg (all':=[_,_]) Z (H':=V8 ..) Z (Q2 (Qs [0,1,2,3] [] Z Z (QI hok Z (Q17 [1,0,2,3,4,5,6,7] Z (H':=V8 ..) Z ?_)))))))))))
 refine Qp (g9,s,y,z,g8,a0,a2,a4) trivial [9,8,7,5,4,0] Z (asK [0,1,2,3] Z) Z
 refine Q1s Z Z Z Zq Z Q1X Z (fun g9=>(Q2 (Qs [0,1,2,3] [4,5] Z Z ?_)))
 refine Q1v hok 3 4 Z Z Z Z Z Z ?_ ?_
 refine wC [] [0,1,2,3,4,5] Z Q8A Z (Q1n N a3 a7 a8 l4 _ aI) (asK [0] Z) Z (H':=V6 ..) Z ?_
 rintro _ _ _ ⟨s,y,z,rfl,rfl,rfl⟩
 refine Q2 (Qs [0,1,2,3] [6] Z Z (xS hok 4 Z (Q1s Z Z Z Zq Z Q1X Z (fun g8=>(Q2 (Qs [0,1,2,3] [6,7] Z Z (xS hok 6 Z (wS 0 0 Z Qg (all':=[_,_]) Z (H':=V8 ..) Z (Q2 (Qs [0,1,2,3] [6] Z Z (xS hok 7 Z (wS 2 0 Z Qg (all':=[_,_]) Z (H':=V8 ..) Z (Q2 (Qs [0,1,2,3] [] Z Z ?_))))))))))))))
 refine QI hok Z (Q17 [2,1,0,3,4,5,6,7] Z (H':=V8 ..) Z ?_)
 refine Qp (g9,s,y,z,g8,a0,a2,a4) trivial [9,8,7,5,4,0] Z (asK [0,1,2,3] Z) Z
 refine Q1s Z Z Z Zq Z Q1X Z (fun g8=>(Q2 (Qs [0,1,2,3] [5,6] Z Z (xS hok 3 Z (wC [] [0,1,2,3,4,5,6] Z Q8A Z (Q1n N a3 a7 a8 l4 _ aI) (asK [0] Z) Z (H':=V7 ..) Z ?_)))))
 rintro _ _ _ ⟨s,y,z,rfl,rfl,rfl⟩
 refine Q2 (Qs [0,1,2,3] [7] Z Z (xS hok 6 Z (wS 1 0 Z Qg (all':=[_,_]) Z (H':=V8 ..) Z (Q2 (Qs [0,1,2,3] [6] Z Z (xS hok 7 Z (wS 2 0 Z Qg (all':=[_,_]) Z (H':=V8 ..) Z (Q2 (Qs [0,1,2,3] [] Z Z (QI hok Z (Q17 [2,0,1,3,4,5,6,7] Z (H':=V8 ..) Z ?_)))))))))))
 refine Qp (g9,s,y,z,g8,a0,a2,a4) trivial [9,8,7,5,4,0] Z (asK [0,1,2,3] Z) Z
 refine Q1s Z Z Z Zq Z Q1X Z (fun g8=>(Q2 (Qs [0,1,2,3] [3,4] Z Z ?_)))
 refine Q1v hok 1 5 Z Z Z Z Z Z ?_ ?_
 refine wC [] [0,1,2,3,4] Z Q8A Z (Q1n N a1 aD aE l2 _ aV) (asK [1] Z) Z (H':=V5 ..) Z ?_
 rintro _ _ _ ⟨a0,a2,a4,rfl,rfl,rfl⟩
 refine Q2 (Qs [0,1,2,3] [4] Z Z ?_)
 refine Q1v hok 3 5 Z Z Z Z Z Z ?_ ?_
 refine wC [] [0,1,2,3,4,5] Z Q8A Z (Q1n N a3 a7 a8 l4 _ aI) (asK [0] Z) Z (H':=V6 ..) Z ?_
 rintro _ _ _ ⟨s,y,z,rfl,rfl,rfl⟩
 refine Q2 (Qs [0,1,2,3] [6] Z Z (xS hok 5 Z (Q1s Z Z Z Zq Z Q1X Z (fun g9=>(Q2 (Qs [0,1,2,3] [6,7] Z Z (xS hok 6 Z (wS 3 0 Z Qg (all':=[_,_]) Z (H':=V8 ..) Z (Q2 (Qs [0,1,2,3] [6] Z Z (xS hok 7 Z (wS 0 0 Z Qg (all':=[_,_]) Z (H':=V8 ..) Z (Q2 (Qs [0,1,2,3] [] Z Z ?_))))))))))))))
 refine QI hok Z (Q17 [0,1,3,2,4,5,6,7] Z (H':=V8 ..) Z ?_)
 refine Qp (g9,s,y,z,g8,a0,a2,a4) trivial [9,8,7,5,4,0] Z (asK [0,1,2,3] Z) Z
 refine Q1s Z Z Z Zq Z Q1X Z (fun g9=>(Q2 (Qs [0,1,2,3] [5,6] Z Z (xS hok 3 Z (wC [] [0,1,2,3,4,5,6] Z Q8A Z (Q1n N a3 a7 a8 l4 _ aI) (asK [0] Z) Z (H':=V7 ..) Z ?_)))))
 rintro _ _ _ ⟨s,y,z,rfl,rfl,rfl⟩
 refine Q2 (Qs [0,1,2,3] [7] Z Z (xS hok 6 Z (wS 3 0 Z Qg (all':=[_,_]) Z (H':=V8 ..) Z (Q2 (Qs [0,1,2,3] [6] Z Z (xS hok 7 Z (wS 1 0 Z Qg (all':=[_,_]) Z (H':=V8 ..) Z (Q2 (Qs [0,1,2,3] [] Z Z (QI hok Z (Q17 [1,0,3,2,4,5,6,7] Z (H':=V8 ..) Z ?_)))))))))))
 refine Qp (g9,s,y,z,g8,a0,a2,a4) trivial [9,8,7,5,4,0] Z (asK [0,1,2,3] Z) Z
 refine Q1s Z Z Z Zq Z Q1X Z (fun g9=>(Q2 (Qs [0,1,2,3] [4,5] Z Z (xS hok 1 Z (wC [] [0,1,2,3,4,5] Z Q8A Z (Q1n N a1 aD aE l2 _ aV) (asK [1] Z) Z (H':=V6 ..) Z ?_)))))
 rintro _ _ _ ⟨a0,a2,a4,rfl,rfl,rfl⟩
 refine Q2 (Qs [0,1,2,3] [5] Z Z (xS hok 3 Z (wC [] [0,1,2,3,4,5,6] Z Q8A Z (Q1n N a3 a7 a8 l4 _ aI) (asK [0] Z) Z (H':=V7 ..) Z ?_)))
 rintro _ _ _ ⟨s,y,z,rfl,rfl,rfl⟩
 refine Q2 (Qs [0,1,2,3] [7] Z Z (xS hok 6 Z (wS 3 0 Z Qg (all':=[_,_]) Z (H':=V8 ..) Z (Q2 (Qs [0,1,2,3] [6] Z Z (xS hok 7 Z (wS 2 0 Z Qg (all':=[_,_]) Z (H':=V8 ..) Z (Q2 (Qs [0,1,2,3] [] Z Z (QI hok Z (Q17 [2,0,3,1,4,5,6,7] Z (H':=V8 ..) Z ?_)))))))))))
 refine Qp (g9,s,y,z,g8,a0,a2,a4) trivial [9,8,7,5,4,0] Z (asK [0,1,2,3] Z) Z
 refine Q1s Z Z Z Zq Z Q1X Z (fun g9=>(Q2 (Qs [0,1,2,3] [3,4] Z Z ?_)))
 refine Q1v hok 1 4 Z Z Z Z Z Z ?_ ?_
 refine wC [] [0,1,2,3,4] Z Q8A Z (Q1n N a1 aD aE l2 _ aV) (asK [1] Z) Z (H':=V5 ..) Z ?_
 rintro _ _ _ ⟨a0,a2,a4,rfl,rfl,rfl⟩
 refine Q2 (Qs [0,1,2,3] [4] Z Z ?_)
 refine Q1v hok 3 4 Z Z Z Z Z Z ?_ ?_
 refine wC [] [0,1,2,3,4,5] Z Q8A Z (Q1n N a3 a7 a8 l4 _ aI) (asK [0] Z) Z (H':=V6 ..) Z ?_
 rintro _ _ _ ⟨s,y,z,rfl,rfl,rfl⟩
 refine Q2 (Qs [0,1,2,3] [6] Z Z (xS hok 4 Z (Q1s Z Z Z Zq Z Q1X Z (fun g8=>(Q2 (Qs [0,1,2,3] [6,7] Z Z (xS hok 6 Z (wS 0 0 Z Qg (all':=[_,_]) Z (H':=V8 ..) Z (Q2 (Qs [0,1,2,3] [6] Z Z (xS hok 7 Z (wS 3 0 Z Qg (all':=[_,_]) Z (H':=V8 ..) Z (Q2 (Qs [0,1,2,3] [] Z Z ?_))))))))))))))
 refine QI hok Z (Q17 [3,1,0,2,4,5,6,7] Z (H':=V8 ..) Z ?_)
 refine Qp (g9,s,y,z,g8,a0,a2,a4) trivial [9,8,7,5,4,0] Z (asK [0,1,2,3] Z) Z
 refine Q1s Z Z Z Zq Z Q1X Z (fun g8=>(Q2 (Qs [0,1,2,3] [5,6] Z Z (xS hok 3 Z (wC [] [0,1,2,3,4,5,6] Z Q8A Z (Q1n N a3 a7 a8 l4 _ aI) (asK [0] Z) Z (H':=V7 ..) Z ?_)))))
 rintro _ _ _ ⟨s,y,z,rfl,rfl,rfl⟩
 refine Q2 (Qs [0,1,2,3] [7] Z Z (xS hok 6 Z (wS 1 0 Z Qg (all':=[_,_]) Z (H':=V8 ..) Z (Q2 (Qs [0,1,2,3] [6] Z Z (xS hok 7 Z (wS 3 0 Z Qg (all':=[_,_]) Z (H':=V8 ..) Z (Q2 (Qs [0,1,2,3] [] Z Z (QI hok Z (Q17 [3,0,1,2,4,5,6,7] Z (H':=V8 ..) Z ?_)))))))))))
 refine Qp (g9,s,y,z,g8,a0,a2,a4) trivial [9,8,7,5,4,0] Z (asK [0,1,2,3] Z) Z
 refine Q1s Z Z Z Zq Z Q1X Z (fun g8=>(Q2 (Qs [0,1,2,3] [4,5] Z Z (xS hok 1 Z (wC [] [0,1,2,3,4,5] Z Q8A Z (Q1n N a1 aD aE l2 _ aV) (asK [1] Z) Z (H':=V6 ..) Z ?_)))))
 rintro _ _ _ ⟨a0,a2,a4,rfl,rfl,rfl⟩
 refine Q2 (Qs [0,1,2,3] [5] Z Z (xS hok 3 Z (wC [] [0,1,2,3,4,5,6] Z Q8A Z (Q1n N a3 a7 a8 l4 _ aI) (asK [0] Z) Z (H':=V7 ..) Z ?_)))
 rintro _ _ _ ⟨s,y,z,rfl,rfl,rfl⟩
 refine Q2 (Qs [0,1,2,3] [7] Z Z (xS hok 6 Z (wS 2 0 Z Qg (all':=[_,_]) Z (H':=V8 ..) Z (Q2 (Qs [0,1,2,3] [6] Z Z (xS hok 7 Z (wS 3 0 Z Qg (all':=[_,_]) Z (H':=V8 ..) Z (Q2 (Qs [0,1,2,3] [] Z Z (QI hok Z (Q17 [3,0,2,1,4,5,6,7] Z (H':=V8 ..) Z ?_)))))))))))
 refine Qp (g9,s,y,z,g8,a0,a2,a4) trivial [9,8,7,5,4,0] Z (asK [0,1,2,3] Z) Z
 rintro ⟨a5,f,j,a9,a6,o,q,aA⟩ _
 try dsimp only
 refine Q6 ?_
 obtain ⟨aX,hm⟩:=Qd hm
 obtain ⟨aY,hm⟩:=Qd hm
 obtain ⟨bV,bH,hm⟩:=Q7 hm
 obtain ⟨bW,bI,hm⟩:=Q7 hm
 obtain ⟨b5,hm⟩:=Qd hm
 obtain ⟨aP,hm⟩:=Qd hm
 obtain ⟨aQ,hm⟩:=Qd hm
 obtain ⟨bX,bJ,hm⟩:=Q7 hm
 obtain ⟨bY,bK,hm⟩:=Q7 hm
 obtain ⟨b6,hm⟩:=Qd hm
 refine QV [0,1,2,4,5,6,8,9,10,11,12,14,15,16,18,19] Z Z (fun hok=>(Qr hok 0 4 0 Z Z Z Zq Z Z Z Z (cs:=[_,_]) Z Q4z Q5L Z Z (Qr hok 1 2 0 Z Z Z Zq Z Z Z Z (cs:=[_,_]) Z Qg QT Z Z (Qr hok 2 0 0 Z Z Z Zq Z Z Z Z (cs:=[_,_]) Z Qg QT Z Z (Qr hok 4 4 0 Z Z Z Zq Z Z Z Z (cs:=[_,_]) Z Q4z Q5L Z Z (Qr hok 5 7 0 Z Z Z Zq Z Z Z Z (cs:=[_,_]) Z Qg QT Z Z (Qr hok 6 6 0 Z Z Z Zq Z Z Z Z (cs:=[_,_]) Z Qg QT Z Z (xS hok 3 Z (Q2j (.sli 2 QL none 0 ([] : List Qw)) (fun _ _ _=>Q2m) (QQ 5 Z (fun b3 _=>?_)))))))))))
 subst b3
 refine QQ 3 Z (fun aL _=>?_)
 subst aL
 refine QQ 1 Z (fun aM _=>?_)
 subst aM
 refine Q23 4 (v':=.agg #[.int .i64 a1,.slice o ((aR.take l2.length).length) q]) Z (by rw [Q1K aX]) (Q1r 2 (φ':=.blk a6 [.int .i64 a1,.slice o ((aR.take l2.length).length) q] 45) Z (by rw [Q1K aX]) (H':=V8 ..) Z (Q23 3 (v':=.agg #[.int .i64 a3,.slice f ((aS.take l4.length).length) j]) Z (by rw [Q1K aY]) (Q1r 0 (φ':=.blk a5 [.int .i64 a3,.slice f ((aS.take l4.length).length) j] 45) Z (by rw [Q1K aY]) (H':=V8 ..) Z (Q1y [] [0,1,2,3,4,5,6,7] [5,3,1] Z Z Z Zq Z Z fn_20 Z (Q4Y N none 0 ([] : List Qw) aG aH aW a1 o q (aR.take l2.length) a3 f j (aS.take l4.length) _ bH) (fun F w hφ hh=>(Qe (hφ _ (Qo (k:=0) Z)) (Qe (Q1d (hh _ (Qo (k:=0) Z))) (Qe (Q7S (Q1d (hh _ (Qo (k:=1) Z))) l2.length) (Qe (Q7S (Q1d (hh _ (Qo (k:=2) Z))) l4.length) (Qe (hφ _ (Qo (k:=4) Z)) Ql)))))) (fun _ _ _ hR=>by obtain ⟨rfl,rfl,rfl⟩:=hR; exact ⟨Z,(fun _ h=>Q1q h)⟩) Z Z (H':=V8 ..) Z ?_))))
 rintro _ _ _ ⟨rfl,rfl,rfl⟩
 refine Q23 4 (v':=.agg #[.int .i64 a3,.slice f l4.length j]) Z (by rw [Q1K aY]) (Q1r 0 (φ':=.blk a5 [.int .i64 a3,.slice f l4.length j] 45) Z (by rw [Q1K aY]) (H':=V8 ..) Z (Q23 5 (v':=.agg #[.int .i64 a1,.slice o l2.length q]) Z (by rw [Q1K aX]) (Q1r 2 (φ':=.blk a6 [.int .i64 a1,.slice o l2.length q] 45) Z (by rw [Q1K aX]) (H':=V8 ..) Z (Q2 (Qs [1,2,3,4] [6,7,4] Z Z (xS hok 7 Z (Q2j (.sli 2 QL none 0 ([] : List Qw)) (fun _ _ _=>Q2m) (Q1y [] [0,1,2,3,4,5,6,7] [5] Z Z Z Zq Z Z fn_34 Z (Q31 N none 0 ([] : List Qw) aG aH aW a1 aD aE l2 a3 a7 a8 l4 _ bI) (fun F w hφ hh=>(Qe (hφ _ (Qo (k:=0) Z)) (Qe (Q1d (hh _ (Qo (k:=0) Z))) (Qe (hφ _ (Qo (k:=3) Z)) (Qe (hφ _ (Qo (k:=2) Z)) (Qe (hφ _ (Qo (k:=5) Z)) Ql)))))) (fun _ _ _ hR=>by obtain ⟨rfl,rfl,rfl⟩:=hR; exact ⟨Z,(fun _ h=>Q1q h)⟩) Z Z (H':=V8 ..) Z ?_))))))))
 rintro _ _ _ ⟨rfl,rfl,rfl⟩
 refine Q2 (Qs [1,2,3,4,5] [0,2,4] Z Z (Q8m hok 8 Z Z Z Zq Z Z Z Z (eqlB _ _ bV bW) (Q1g (d:=35) (v':=.bool true) (S':=V14 ..) Z Z (Q16 b5) (xP hok 9 Z (Qr hok 10 4 0 Z Z Z Zq Z Z Z Z (cs:=[_,_]) Z Q4z Q5L Z Z (Qr hok 11 0 0 Z Z Z Zq Z Z Z Z (cs:=[_,_]) Z Qg QT Z Z (Qr hok 12 2 0 Z Z Z Zq Z Z Z Z (cs:=[_,_]) Z Qg QT Z Z (Qr hok 14 4 0 Z Z Z Zq Z Z Z Z (cs:=[_,_]) Z Q4z Q5L Z Z (Qr hok 15 6 0 Z Z Z Zq Z Z Z Z (cs:=[_,_]) Z Qg QT Z Z (Qr hok 16 7 0 Z Z Z Zq Z Z Z Z (cs:=[_,_]) Z Qg QT Z Z (xS hok 13 Z (Q2j (.sli 2 QL none 0 ([] : List Qw)) (fun _ _ _=>Q2m) (Q23 4 (v':=.agg #[.int .i64 a3,.slice f ((aS.take l4.length).length) j]) Z (by rw [Q1K aP]) ?_)))))))))))))
 refine Q23 13 (v':=.agg #[.int .i64 a3,.slice f ((aS.take l4.length).length) j]) Z (by rw [Q1K aP]) (Q1r 0 (φ':=.blk a5 [.int .i64 a3,.slice f ((aS.take l4.length).length) j] 45) Z (by rw [Q1K aP]) (H':=V8 ..) Z (Q23 3 (v':=.agg #[.int .i64 a1,.slice o ((aR.take l2.length).length) q]) Z (by rw [Q1K aQ]) (Q23 14 (v':=.agg #[.int .i64 a1,.slice o ((aR.take l2.length).length) q]) Z (by rw [Q1K aQ]) (Q1r 2 (φ':=.blk a6 [.int .i64 a1,.slice o ((aR.take l2.length).length) q] 45) Z (by rw [Q1K aQ]) (H':=V8 ..) Z (Q1y [] [0,1,2,3,4,5,6,7] [5,1,3] Z Z Z Zq Z Z fn_20 Z (Q4Y N none 0 ([] : List Qw) aG aH aW a3 f j (aS.take l4.length) a1 o q (aR.take l2.length) _ bJ) (fun F w hφ hh=>(Qe (hφ _ (Qo (k:=0) Z)) (Qe (Q1d (hh _ (Qo (k:=0) Z))) (Qe (Q7S (Q1d (hh _ (Qo (k:=1) Z))) l4.length) (Qe (Q7S (Q1d (hh _ (Qo (k:=2) Z))) l2.length) (Qe (hφ _ (Qo (k:=6) Z)) Ql)))))) (fun _ _ _ hR=>by obtain ⟨rfl,rfl,rfl⟩:=hR; exact ⟨Z,(fun _ h=>Q1q h)⟩) Z Z (H':=V8 ..) Z ?_)))))
 rintro _ _ _ ⟨rfl,rfl,rfl⟩
 refine Q23 4 (v':=.agg #[.int .i64 a1,.slice o l2.length q]) Z (by rw [Q1K aQ]) (Q23 15 (v':=.agg #[.int .i64 a1,.slice o l2.length q]) Z (by rw [Q1K aQ]) (Q1r 2 (φ':=.blk a6 [.int .i64 a1,.slice o l2.length q] 45) Z (by rw [Q1K aQ]) (H':=V8 ..) Z (Q23 5 (v':=.agg #[.int .i64 a3,.slice f l4.length j]) Z (by rw [Q1K aP]) (Q23 14 (v':=.agg #[.int .i64 a3,.slice f l4.length j]) Z (by rw [Q1K aP]) (Q1r 0 (φ':=.blk a5 [.int .i64 a3,.slice f l4.length j] 45) Z (by rw [Q1K aP]) (H':=V8 ..) Z (Q2 (Qs [1,2,3,4,5,6] [7,6,4,6,7,4,0,2,4] Z Z (xS hok 17 Z (Q2j (.sli 2 QL none 0 ([] : List Qw)) (fun _ _ _=>Q2m) (Q1y [] [0,1,2,3,4,5,6,7] [5] Z Z Z Zq Z Z fn_34 Z (Q31 N none 0 ([] : List Qw) aG aH aW a3 a7 a8 l4 a1 aD aE l2 _ bK) (fun F w hφ hh=>(Qe (hφ _ (Qo (k:=0) Z)) (Qe (Q1d (hh _ (Qo (k:=0) Z))) (Qe (hφ _ (Qo (k:=4) Z)) (Qe (hφ _ (Qo (k:=5) Z)) (Qe (hφ _ (Qo (k:=7) Z)) Ql)))))) (fun _ _ _ hR=>by obtain ⟨rfl,rfl,rfl⟩:=hR; exact ⟨Z,(fun _ h=>Q1q h)⟩) Z Z (H':=V8 ..) Z ?_))))))))))
 rintro _ _ _ ⟨rfl,rfl,rfl⟩
 refine Q2 (Qs [1,2,3,4,5,6,7] [2,0,4,6,7,4,0,2,4] Z Z (Q8m hok 18 Z Z Z Zq Z Z Z Z (eqlB _ _ bX bY) (Q1g (d:=45) (v':=.bool true) (S':=V24 ..) Z Z (Q16 b6) (xP hok 19 Z (xS hok 20 Z (wP Z (Q2 (Qs [0,1,2,3,4,5,6,7] [] Z Z (QI hok Z (Q4 (Q5 [10,9,8,7,5,4,0] (S':=V7 ..) Z (Q6 ?_))))))))))))
 obtain ⟨c2,bL,hm⟩:=Q7 hm
 obtain ⟨b7,hm⟩:=Qd hm
 obtain ⟨c3,bM,hm⟩:=Q7 hm
 obtain ⟨b8,hm⟩:=Qd hm
 obtain ⟨bZ,bN,hm⟩:=Q7 hm
 obtain ⟨c4,bO,hm⟩:=Q7 hm
 obtain ⟨b9,hm⟩:=Qd hm
 obtain ⟨c5,bP,hm⟩:=Q7 hm
 obtain ⟨bA,hm⟩:=Qd hm
 obtain ⟨_,bQ,hm⟩:=Q7 hm
 try dsimp only at hm
 refine QV [0,1,2,3,5,6,7,8,10,11,12,13,16,17,18,19,20,22,23,24,26] Z Z (fun hok=>(xP hok 0 Z (xP hok 1 Z (Qr hok 2 2 0 Z Z Z Zq Z Z Z Z (cs:=[_,_]) Z Qg QT Z Z (Qr hok 3 7 0 Z Z Z Zq Z Z Z Z (cs:=[_,_]) Z Qg QT Z Z (xS hok 4 Z (Q1y [] [0,1,2,3,4,5,6,7] [3] Z Z Z Zq Z Z fn_39 Z (Q3f N a1 o q aR l2.length a1 aD aE l2 _ bL) (fun F w hφ hh=>(Qe (Q1d (hh _ (Qo (k:=0) Z))) (Qe (hφ _ (Qo (k:=5) Z)) Ql))) (fun _ _ _ hR=>by obtain ⟨rfl,rfl,rfl⟩:=hR; exact ⟨Z,(fun _ h=>Q1q h)⟩) Z Z (H':=V8 ..) Z ?_)))))))
 rintro _ _ _ ⟨rfl,rfl,rfl⟩
 refine Qx (d:=51) (v':=.bool true) (S':=V11 ..) Z Z (Q16 b7) (Q2 (Qs [0,1,2,3,4,5,6,7] [] Z Z (xP hok 5 Z (xP hok 6 Z (Qr hok 7 0 0 Z Z Z Zq Z Z Z Z (cs:=[_,_]) Z Qg QT Z Z (Qr hok 8 6 0 Z Z Z Zq Z Z Z Z (cs:=[_,_]) Z Qg QT Z Z (xS hok 9 Z (Q1y [] [0,1,2,3,4,5,6,7] [1] Z Z Z Zq Z Z fn_39 Z (Q3f N a3 f j aS l4.length a3 a7 a8 l4 _ bM) (fun F w hφ hh=>(Qe (Q1d (hh _ (Qo (k:=0) Z))) (Qe (hφ _ (Qo (k:=4) Z)) Ql))) (fun _ _ _ hR=>by obtain ⟨rfl,rfl,rfl⟩:=hR; exact ⟨Z,(fun _ h=>Q1q h)⟩) Z Z (H':=V8 ..) Z ?_))))))))
 rintro _ _ _ ⟨rfl,rfl,rfl⟩
 refine Qx (d:=56) (v':=.bool true) (S':=V16 ..) Z Z (Q16 b8) (Q2 (Qs [0,1,2,3,4,5,6,7] [7,2] Z Z (xP hok 10 Z (xP hok 11 Z (Qr hok 12 4 0 Z Z Z Zq Z Z Z Z (cs:=[_,_]) Z Q4z Q5L Z Z (xP hok 13 Z (xS hok 14 Z (wC [] [0,1,2,3,4,5,6,7] Z fn_6 Z (Q7s N aT aU l0 _ bN) (asK [6,7] Z) Z (H':=V8 ..) Z ?_))))))))
 rintro _ _ _ ⟨bB,bC,c0,rfl,rfl,rfl⟩
 refine Q2 (Qs [0,1,2,3,4,5,6,7] [5,7,1,8,3] Z Z (xS hok 15 Z (Q2j (.sli 2 QL none 0 ([] : List Qw)) (fun _ _ _=>Q2m) (Q2j (.sli 2 QL none 0 ([] : List Qw)) (fun _ _ _=>Q2m) (QQ 0 Z (fun b4 _=>?_))))))
 subst b4
 refine Q1y [] [0,1,2,3,4,5,6,7,8] [6,0] Z Z Z Zq Z Z fn_40 Z (Q9D N none 0 ([] : List Qw) aG aH aW none 0 ([] : List Qw) bB bC bZ _ bO) (fun F w hφ hh=>(Qe (hφ _ (Qo (k:=1) Z)) (Qe (Q1d (hh _ (Qo (k:=0) Z))) (Qe (hφ _ (Qo (k:=0) Z)) (Qe (Q1d (hh _ (Qo (k:=1) Z))) Ql))))) (fun _ _ _ hR=>by obtain ⟨rfl,rfl,rfl⟩:=hR; exact ⟨Z,(fun _ h=>Q1q h)⟩) Z Z (H':=V9 ..) Z ?_
 rintro _ _ _ ⟨rfl,rfl,rfl⟩
 refine Qx (d:=62) (v':=.bool true) (S':=V22 ..) Z Z (Q16 b9) (Q2 (Qs [2,3,4,5,6,7,8,9] [7,1,8,3] Z Z (xP hok 16 Z (xP hok 17 Z (Qr hok 18 5 0 Z Z Z Zq Z Z Z Z (cs:=[_,_]) Z Q4z Q5L Z Z (Qr hok 19 8 0 Z Z Z Zq Z Z Z Z (cs:=[_,_]) Z Qg QT Z Z (Qr hok 20 8 0 Z Z Z Zq Z Z Z Z (cs:=[_,_]) Z Qg QT Z Z (xS hok 21 Z (Q2j (.sli 2 QL none 0 ([] : List Qw)) (fun _ _ _=>Q2m) (Q1y [] [0,1,2,3,4,5,6,7,8] [6] Z Z Z Zq Z Z fn_20 Z (QaC N none 0 ([] : List Qw) aG aH aW a1 aD aE l2 a1 _ bP) (fun F w hφ hh=>(Qe (hφ _ (Qo (k:=0) Z)) (Qe (Q1d (hh _ (Qo (k:=0) Z))) (Qe (hφ _ (Qo (k:=8) Z)) (Qe (hφ _ (Qo (k:=10) Z)) Ql))))) (fun _ _ _ hR=>by obtain ⟨rfl,rfl,rfl⟩:=hR; exact ⟨Z,(fun _ h=>Q1q h)⟩) Z Z (H':=V9 ..) Z ?_))))))))))
 rintro _ _ _ ⟨rfl,rfl,rfl⟩
 refine Qx (d:=68) (v':=.bool false) (S':=V28 ..) Z Z (Q16 bA) (Q2 (Qs [1,2,3,4,5,6,7,8,9,10] [5,7,1,8,3] Z Z (xP hok 22 Z (xP hok 23 Z (xP hok 24 Z (xS hok 25 Z (wC [] [0,1,2,3,4,5,6,7,8] Z fn_5 Z (Q2G N  bQ) (asK [10] Z) Z (H':=V9 ..) Z ?_)))))))
 rintro _ _ _ ⟨rfl,rfl,rfl⟩
 refine Q2 (Qs [0,1,2,3,4,5,6,7,8,9,10] [8,8,5,5,7,1,8,3] Z Z (xP hok 26 Z (xS hok 27 Z (wP Z (Q2 (Qs [0,1,2,3,4,5,6,7,8,9,10] [] Z Z (QI hok Z (Q4 (Q5 [6] (S':=[_]) Z (QJ ?_))))))))))
 have hE:=(Zi hm).symm
 refine QA (Hr:=[]) [] Tryz.results18 (Qy Z) ⟨Z,Z,Z⟩ (asK [] Z) Z Z (.inl Z)
theorem Q9A (N:Nat) (qp0:OA) (qc1:Nat) (l0:List Qw)  (hm:Q6p N l0 = some ()):Q1z Tryz.prog 47 [.slice qp0 l0.length qc1] [.sli 2 QL qp0 qc1 l0] [] (fun v Φr Hr=>∃ (o0:OA) (o1:Nat),v = .slice o0 (l0).length o1 ∧ Φr = [] ∧ Hr = [.own 213 2 QL (.slice o0 (l0).length o1) l0]):=by
 unfold Q6p at hm
 refine Q12 Tryz.func47 Z Tryz.ntmps47 Z (S:=[_]) Z (fun C=>(Q6 (Q3 (wP Z (Q2 (Q4 (Q5 [0] (S':=[_]) Z (Q6 (Q3 (wP Z (Q2 (Q4 (Q6 (Q3 ?_))))))))))))))
 refine wP Z (wP Z (Q6D 213 2 QL ?_))
 obtain ⟨hg6,hm⟩:=Qd hm
 refine Q8v 0 0 Z Z Z Zq Z Z Z Z Z tE_25 tR_213 Z Z (Nat.le_trans hg6 (by decide)) (Nat.le_trans (Nat.mul_le_mul_right _ hg6) (by decide)) (H2:=fun p6 c6=>[.own 213 2 QL (.slice p6 (l0).length c6) l0]) (fun _ _=>Z) (fun p6 c6=>(wP Z (Q2 (Q4 (Q5 [2] (S':=[_]) Z (QJ ?_))))))
 have hE:=(Zi hm).symm
 refine QA (Hr:=[_]) [0] Tryz.results47 (Qy Z) ⟨p6,c6,Z,Z,Z⟩ (asK [] Z) Z Z (.inl Z)
theorem Q9R (N:Nat) (qp0:OA) (qc1:Nat) (l0:List ArgD)  (hm:Q6O N l0 = some ()):Q1z Tryz.prog 193 [.slice qp0 l0.length qc1] [.sli 5 Q7I qp0 qc1 l0] [] (fun v Φr Hr=>∃ (o0:OA) (o1:Nat),v = .slice o0 (l0).length o1 ∧ Φr = [] ∧ Hr = [.own 200 5 Q7I (.slice o0 (l0).length o1) l0]):=by
 unfold Q6O at hm
 refine Q12 Tryz.func193 Z Tryz.ntmps193 Z (S:=[_]) Z (fun C=>(Q6 (Q3 (wP Z (Q2 (Q4 (Q5 [0] (S':=[_]) Z (Q6 (Q3 (wP Z (Q2 (Q4 (Q6 (Q3 ?_))))))))))))))
 refine wP Z (wP Z (Q6D 200 5 Q7I ?_))
 obtain ⟨hg6,hm⟩:=Qd hm
 refine Q8v 0 0 Z Z Z Zq Z Z Z Z Z tE_197 tR_200 Z Z (Nat.le_trans hg6 (by decide)) (Nat.le_trans (Nat.mul_le_mul_right _ hg6) (by decide)) (H2:=fun p6 c6=>[.own 200 5 Q7I (.slice p6 (l0).length c6) l0]) (fun _ _=>Z) (fun p6 c6=>(wP Z (Q2 (Q4 (Q5 [2] (S':=[_]) Z (QJ ?_))))))
 have hE:=(Zi hm).symm
 refine QA (Hr:=[_]) [0] Tryz.results193 (Qy Z) ⟨p6,c6,Z,Z,Z⟩ (asK [] Z) Z Z (.inl Z)
theorem Q8U (N:Nat) (rc:Int → Int → Int → ByteArray → Int → Int → (List QD) → Option (Int × Int × Int × ByteArray × Int × Int × (List QD))) (ih : ∀ (a0:Int) (a1:Int) (a2:Int) (a3:ByteArray) (a4:Int) (a5:Int) (aG:OA) (aH:Nat) (l6:List QD) (o0:Int) (o1:Int) (o2:Int) (o3:ByteArray) (o4:Int) (o5:Int) (o8:List QD),rc a0 a1 a2 a3 a4 a5 l6 = some (o0,o1,o2,o3,o4,o5,o8) → Q1z Tryz.prog 194 [.agg #[.int .u8 a0,.int .u8 a1,.int .i64 a2,.string a3,.int .i64 a4,.int .u8 a5,.slice aG l6.length aH]] [.sli 7 Q1c aG aH l6] [] (fun v Φr Hr=>∃ (o6:OA) (o7:Nat) (o9:Nat),v = .agg #[.int .u8 o0,.int .u8 o1,.int .i64 o2,.string o3,.int .i64 o4,.int .u8 o5,.slice o6 o9 o7] ∧ Φr = [] ∧ Hr = [.own 194 7 Q1c (.slice o6 o9 o7) o8])) (aG:OA) (aH:Nat) (l0:List QD) (o2:List QD) (hm:Q5y N rc l0 = some o2):Q1z Tryz.prog 195 [.slice aG l0.length aH] [.sli 7 Q1c aG aH l0] [] (fun v Φr Hr=>∃ (o0:OA) (o1:Nat) (o3:Nat),v = .slice o0 o3 o1 ∧ Φr = [] ∧ Hr = [.own 194 7 Q1c (.slice o0 o3 o1) o2]):=by
 unfold Q5y at hm
 refine Q12 Tryz.func195 Z Tryz.ntmps195 Z (S:=[_]) Z (fun C=>(Q6 (Q3 (wP Z (Q2 (Q4 (Q5 [0] (S':=[_]) Z (Q6 (Q3 (wP Z (Q2 (Q4 (Q6 ?_)))))))))))))
 obtain ⟨aO,hm,hLj_1⟩:=Q7 hm
 refine Q15 (σ:=(List QD) × OA × Nat × Nat) (fun (a7,j,o,q)=>aO = a7) (fun (a7,j,o,q)=>[(3,.slice j q o)]) (fun (a7,j,o,q)=>[]) (fun (a7,j,o,q)=>[.own 194 7 Q1c (.slice j q o) a7]) ?_ ?_
 refine Q6 (Q3 (wP Z (Q2 (Q4 (Qn (Q3K 194 7 Q1c (Q1b (σ:=Nat × Nat × (List QD) × OA × Nat × Nat) (fun (aI,a8,f,y,z,a6)=>Q1B (Q4E N l0 rc) aI (a8,f) = some aO) (fun (aI,a8,f,y,z,a6)=>aI) (fun (aI,a8,f,y,z,a6)=>[(4,.int .i64 ((a8:Nat):Int)),(3,.slice y a6 z),(0,.slice aG l0.length aH)]) (fun (aI,a8,f,y,z,a6)=>[.sli 7 Q1c aG aH l0]) (fun (aI,a8,f,y,z,a6)=>[.own 194 7 Q1c (.slice y a6 z) f]) (N,0,[],none,0,0) hm [4,3,0] Z (asK [0] Z) Z (fun s_ hm=>?_))))))))
 obtain ⟨aI,a8,f,y,z,a6⟩:=s_
 try dsimp only at hm ⊢
 obtain ⟨bJ,bK,aX,hq,hLu1⟩:=Q18 hm
 clear hm
 subst aX
 replace hm:=hq
 clear hq
 unfold Q4E at hm
 try dsimp only at hm
 refine Q6 (Q6 (Q3 (wP Z (wP Z (wN Z Q7e (wP Z (Qx (d:=9) (v':=.bool (decide (a8 < l0.length))) (S':=V6 ..) Z Z (Q20 (a:=a8) (b:=l0.length)) (Q2 (Q4 (Q5 [9,4,3,0] (S':=V4 ..) Z ?_))))))))))
 refine Qv Z (fun aQ=>?_) (fun aQ=>?_)
 replace hm:=Q1m hm aQ
 refine Q5 [4,3,0] (S':=V3 ..) Z (Qt (Q4 (Q6 (Qn (Q6 (Q3 (wP Z (wP Z ?_))))))))
 obtain ⟨aJ,aY,hm⟩:=Q7 hm
 refine Q3z 0 a8 Z Z Z Zq Z Z Z Z Z aY Q7e Q53 (fun bL bM bI b4=>(Q5m Q4T 1 Z (fun aZ b0 _=>?_)))
 subst b0
 refine Q5l 1 0 Z Z Z Zq Z Z Z (cs:=V7 ..) Z Q53 Q8t Z Z ?_
 obtain ⟨⟨aA,aB,aC,aD,aE,aF,a9⟩,b1,hm⟩:=Q7 hm
 try dsimp only at hm
 refine wC [] [0] Z fn_194 Z (ih aJ.kind aJ.value.k aJ.value.n aJ.value.s aJ.var aJ.op aZ.1 aZ.2 aJ.kids _ _ _ _ _ _ _ b1) (asK [0] Z) Z (H':=[_]) Z ?_
 rintro _ _ _ ⟨aK,aL,b5,rfl,rfl,rfl⟩
 refine Q1s Z Z Z Zq Z tZ_194 Z (fun g5=>(wS 0 0 Z Q53 (all':=V7 ..) Z (H':=V3 ..) Z (Q2 (Q4 (Q5 [5,4,3,0] (S':=V4 ..) Z (Q3 (wP Z (Q1E 0 0 Z Z Z Zq Z Z Z (cs:=V7 ..) Z Q53 Q8t Z Z (Qq Z Z Z Zq Z Q7e Q53 tZ_194 Z (zs:=[.int .u8 0,.int .u8 0,.int .i64 0,.string ((⟨#[]⟩ : ByteArray)),.int .i64 0,.int .u8 0,V1]) (by kernel_rfl) Z (out:=V7 ..) Z (fun bN=>(QQ 2 Z (fun aM _=>?_))))))))))))
 subst aM
 refine Q6B 2 Z (H':=V3 ..) Z (Q2j (.sli 7 Q1c aK aL a9) (fun F w hφ=>Q1d (hφ _ (Qo (k:=0) Z))) ?_)
 obtain ⟨aP,hm⟩:=Qd hm
 refine Q21 ([(⟨aA,(⟨aB,aC,aD⟩ : V),aE,aF,a9⟩ : QD)]) 2 0 Z Z Z Zq Z Z Z Z Z (fun F w hφ=>⟨[.int .u8 aA,.int .u8 aB,.int .i64 aC,.string aD,.int .i64 aE,.int .u8 aF,.slice aK a9.length aL],[],Z,Z,(rec_shut (aK,aL) Z (Qe (hφ _ (Qo (k:=0) Z)) Ql)),Z⟩) Q7e tR_194 Z Z (Nat.le_trans aP (by decide)) (Nat.le_trans (Nat.mul_le_mul_right _ aP) (by decide)) (H2:=fun aR aS=>[_,_,.own 194 7 Q1c (.slice aR ((f ++ ([(⟨aA,(⟨aB,aC,aD⟩ : V),aE,aF,a9⟩ : QD)])).length) aS) (f ++ ([(⟨aA,(⟨aB,aC,aD⟩ : V),aE,aF,a9⟩ : QD)]))]) (fun _ _=>Z) (fun aR aS=>(Q2J 0 Z (H':=[_,_]) Z (QM (S':=V7 ..) Z Z Z Z Z (Q2 (Qi (Q4 (Q5 [3,4,0] (S':=V3 ..) Z (Q3 (wP Z (wP Z ?_))))))))))
 obtain ⟨b2,hm⟩:=Qd hm
 refine Qx (d:=11) (v':=.int .i64 ((a8 + 1:Nat):Int)) (S':=V4 ..) Z Z (Q1f (a:=a8) (b:=1) b2) (QM (S':=V4 ..) Z Z Z Z Z (Q2 ?_))
 have hE:=(Zi hm).symm
 replace hE:=Q11 hLu1 hE
 refine Q17 [1] Z (H':=[_]) Z ?_
 refine Q14 (_,a8 + 1,(f ++ ([(⟨aA,(⟨aB,aC,aD⟩ : V),aE,aF,a9⟩ : QD)])),aR,aS,((f ++ ([(⟨aA,(⟨aB,aC,aD⟩ : V),aE,aF,a9⟩ : QD)])).length)) (Nat.lt_succ_self _) hE [4,3,0] Z (asK [5] Z) Z
 replace hm:=Q1l hm aQ
 refine Q5 [3] (S':=[_]) Z (Q19 (Qc (Qc (Qu ?_))))
 have hE:=(Zi hm).symm
 replace hE:=QE hLu1 hE
 refine Qp (f,y,z,a6) hE [3] Z (asK [] Z) Z
 rintro ⟨a7,j,o,q⟩ hE
 try dsimp only
 have hm:=hLj_1
 try rw [hE] at hm
 refine Q6 (Q3 (wP Z (wP Z (Q2 (Q4 (Q5 [2] (S':=[_]) Z (QJ ?_)))))))
 have hE:=(Zi hm).symm
 replace hE:=hE.symm
 subst hE
 refine QA (Hr:=[_]) [0] Tryz.results195 (Qy Z) ⟨j,o,q,Z,Z,Z⟩ (asK [] Z) Z Z (.inl Z)
theorem Q9m (N:Nat) (rc:Int → Int → Int → ByteArray → Int → Int → (List QD) → Option (Int × Int × Int × ByteArray × Int × Int × (List QD))) (ih : ∀ (q:Int) (s:Int) (y:Int) (z:ByteArray) (a4:Int) (a5:Int) (f:OA) (j:Nat) (o:List QD) (o0:Int) (o1:Int) (o2:Int) (o3:ByteArray) (o4:Int) (o5:Int) (o8:List QD),rc q s y z a4 a5 o = some (o0,o1,o2,o3,o4,o5,o8) → Q1z Tryz.prog 194 [.agg #[.int .u8 q,.int .u8 s,.int .i64 y,.string z,.int .i64 a4,.int .u8 a5,.slice f o.length j]] [.sli 7 Q1c f j o] [] (fun v Φr Hr=>∃ (o6:OA) (o7:Nat) (o9:Nat),v = .agg #[.int .u8 o0,.int .u8 o1,.int .i64 o2,.string o3,.int .i64 o4,.int .u8 o5,.slice o6 o9 o7] ∧ Φr = [] ∧ Hr = [.own 194 7 Q1c (.slice o6 o9 o7) o8])) (q:Int) (s:Int) (y:Int) (z:ByteArray) (a4:Int) (a5:Int) (f:OA) (j:Nat) (o:List QD) (o0:Int) (o1:Int) (o2:Int) (o3:ByteArray) (o4:Int) (o5:Int) (o8:List QD) (hm:Q69 N rc q s y z a4 a5 o = some (o0,o1,o2,o3,o4,o5,o8)):Q1z Tryz.prog 194 [.agg #[.int .u8 q,.int .u8 s,.int .i64 y,.string z,.int .i64 a4,.int .u8 a5,.slice f o.length j]] [.sli 7 Q1c f j o] [] (fun v Φr Hr=>∃ (o6:OA) (o7:Nat) (o9:Nat),v = .agg #[.int .u8 o0,.int .u8 o1,.int .i64 o2,.string o3,.int .i64 o4,.int .u8 o5,.slice o6 o9 o7] ∧ Φr = [] ∧ Hr = [.own 194 7 Q1c (.slice o6 o9 o7) o8]):=by
 unfold Q69 at hm
 refine Q12 Tryz.func194 Z Tryz.ntmps194 Z (S:=[_]) Z (fun C=>(Q6 (Q3 (wB Z (fun g1=>(Q1s Z Z Z Zq Z tZ_194 Z (fun g2=>(Q2 (Q4 (Q5 [2,1] (S':=[_,_]) Z (Q6 (Q3 (wF Z tF_194_4 (wD 1 6 Z tS_190 tA_190 Z ?_))))))))))))))
 obtain ⟨v5,aL,hm⟩:=Q7 hm
 refine wC [] [0,1] Z fn_195 Z (Q8U N rc ih f j o _ aL) (asK [0] Z) Z (H':=[_,_]) Z ?_
 rintro _ _ _ ⟨aI,aJ,aK,rfl,rfl,rfl⟩
 refine wF Z tF_194_4 (wS 2 6 Z tS_190 (all':=V7 ..) Z (H':=V3 ..) Z (Q2 (Q4 (Q5 [2,1] (S':=[_,_]) Z (Q6 (Q3 (Q1E 2 0 Z Z Z Zq Z Z Z (cs:=V7 ..) Z Q53 Q8t Z Z (wS 1 0 Z Q53 (all':=V7 ..) Z (H':=V3 ..) Z (Q2 (Q4 (Q5 [2] (S':=[_]) Z (QJ ?_))))))))))))
 have hE:=(Zi hm).symm
 obtain ⟨hE0,hF1⟩:=Prod.mk.inj hE
 obtain ⟨hE1,hF2⟩:=Prod.mk.inj hF1
 obtain ⟨hE2,hF3⟩:=Prod.mk.inj hF2
 obtain ⟨hE3,hF4⟩:=Prod.mk.inj hF3
 obtain ⟨hE4,hF5⟩:=Prod.mk.inj hF4
 obtain ⟨hE5,hE6⟩:=Prod.mk.inj hF5
 clear hE hF1 hF2 hF3 hF4 hF5
 replace hE0:=hE0.symm
 subst hE0
 replace hE1:=hE1.symm
 subst hE1
 replace hE2:=hE2.symm
 subst hE2
 replace hE3:=hE3.symm
 subst hE3
 replace hE4:=hE4.symm
 subst hE4
 replace hE5:=hE5.symm
 subst hE5
 replace hE6:=hE6.symm
 subst hE6
 refine QA (Hr:=[_]) [0] Tryz.results194 (Q4Q 1 Z Z Q53 Q8t Z Z) ⟨aI,aJ,aK,Z,Z,Z⟩ (asK [] Z) Z Z (.inl Z)
theorem Q7T : ∀ (N:Nat),∀ (a0:Int) (a1:Int) (a2:Int) (a3:ByteArray) (a4:Int) (a5:Int) (qp0:OA) (qc1:Nat) (l6:List QD) (o0:Int) (o1:Int) (o2:Int) (o3:ByteArray) (o4:Int) (o5:Int) (o8:List QD),Q41 N a0 a1 a2 a3 a4 a5 l6 = some (o0,o1,o2,o3,o4,o5,o8) → Q1z Tryz.prog 194 [.agg #[.int .u8 a0,.int .u8 a1,.int .i64 a2,.string a3,.int .i64 a4,.int .u8 a5,.slice qp0 l6.length qc1]] [.sli 7 Q1c qp0 qc1 l6] [] (fun v Φr Hr=>∃ (o6:OA) (o7:Nat) (o9:Nat),v = .agg #[.int .u8 o0,.int .u8 o1,.int .i64 o2,.string o3,.int .i64 o4,.int .u8 o5,.slice o6 o9 o7] ∧ Φr = [] ∧ Hr = [.own 194 7 Q1c (.slice o6 o9 o7) o8]):=by
 intro N
 induction N with
 | zero=>intro a0 a1 a2 a3 a4 a5 qp0 qc1 l6 o0 o1 o2 o3 o4 o5 o8 hm; cases hm
 | succ N ih=>intro a0 a1 a2 a3 a4 a5 qp0 qc1 l6 o0 o1 o2 o3 o4 o5 o8 hm; exact Q9m N (Q41 N) ih a0 a1 a2 a3 a4 a5 qp0 qc1 l6 o0 o1 o2 o3 o4 o5 o8 hm
theorem Q9S (N:Nat) (a0:Int) (a1:Int) (f:OA) (j:Nat) (o:List ArgD) (a3:Int) (a4:Int) (a5:Int) (a6:ByteArray) (a7:Int) (a8:Int) (q:OA) (s:Nat) (l9:List QD) (o2:Int) (o3:Int) (o4:Int) (o5:ByteArray) (o6:Int) (o7:Int) (y:List QD) (hm:Q6P N a0 a1 o a3 a4 a5 a6 a7 a8 l9 = some (o2,o3,o4,o5,o6,o7,y)):Q1z Tryz.prog 178 [.agg #[.int .u8 a0,.int .i64 a1,.slice f o.length j,.int .u8 a3,.int .u8 a4,.int .i64 a5,.string a6,.int .i64 a7,.int .u8 a8,.slice q l9.length s]] [.sli 5 Q7I f j o,.sli 7 Q1c q s l9] [] (fun v Φr Hr=>∃ (o0:OA) (o1:Nat) (o8:OA) (o9:Nat) (z:Nat),v = .agg #[.int .u8 a0,.int .i64 a1,.slice o0 (o).length o1,.int .u8 o2,.int .u8 o3,.int .i64 o4,.string o5,.int .i64 o6,.int .u8 o7,.slice o8 z o9] ∧ Φr = [] ∧ Hr = [.own 200 5 Q7I (.slice o0 (o).length o1) o,.own 194 7 Q1c (.slice o8 z o9) y]):=by
 unfold Q6P at hm
 refine Q12 Tryz.func178 Z Tryz.ntmps178 Z (S:=[_]) Z (fun C=>(Q6 (Q3 (wB Z (fun g1=>(Q1s Z Z Z Zq Z tZ_204 Z (fun g2=>(Q2 (Q4 (Q5 [2,1] (S':=[_,_]) Z (Q6 (Q3 (wF Z tF_204_2 (wD 1 2 Z tS_197 tA_197 Z ?_))))))))))))))
 obtain ⟨_,aM,hm⟩:=Q7 hm
 try dsimp only at hm
 refine wC [] [0,1] Z fn_193 Z (Q9R N f j o aM) (asK [0] Z) Z (H':=[_,_]) Z ?_
 rintro _ _ _ ⟨a2,a9,rfl,rfl,rfl⟩
 refine wF Z tF_204_2 (wS 2 2 Z tS_197 (all':=V10 ..) Z (H':=V3 ..) Z (Q2 (Q4 (Q5 [2,1] (S':=[_,_]) Z (Q6 (Q3 (wF Z tF_204_3 (Q1E 2 3 Z Z Z Zq Z Z Z (cs:=V7 ..) Z Q53 Q8t Z Z ?_))))))))
 obtain ⟨⟨aY,aZ,b0,b1,b2,b3,b4⟩,aN,hm⟩:=Q7 hm
 try dsimp only at hm
 refine wC [] [0,1,2] Z fn_194 Z (Q7T N a3 a4 a5 a6 a7 a8 q s l9 _ _ _ _ _ _ _ aN) (asK [1] Z) Z (H':=V3 ..) Z ?_
 rintro _ _ _ ⟨aA,aB,aC,rfl,rfl,rfl⟩
 refine wF Z tF_204_3 (wS 3 3 Z Q53 (all':=V10 ..) Z (H':=V4 ..) Z (Q2 (Q4 (Q5 [2,1] (S':=[_,_]) Z (Q6 (Q3 (Q1E 3 0 Z Z Z Zq Z Z Z (cs:=V10 ..) Z Q8S tA_204 Z Z (wS 2 0 Z Q8S (all':=V10 ..) Z (H':=V4 ..) Z (Q2 (Q4 (Q5 [2] (S':=[_]) Z (QJ ?_))))))))))))
 have hE:=(Zi hm).symm
 obtain ⟨hE0,hF1⟩:=Prod.mk.inj hE
 obtain ⟨hE1,hF2⟩:=Prod.mk.inj hF1
 obtain ⟨hE2,hF3⟩:=Prod.mk.inj hF2
 obtain ⟨hE3,hF4⟩:=Prod.mk.inj hF3
 obtain ⟨hE4,hF5⟩:=Prod.mk.inj hF4
 obtain ⟨hE5,hE6⟩:=Prod.mk.inj hF5
 clear hE hF1 hF2 hF3 hF4 hF5
 replace hE0:=hE0.symm
 subst hE0
 replace hE1:=hE1.symm
 subst hE1
 replace hE2:=hE2.symm
 subst hE2
 replace hE3:=hE3.symm
 subst hE3
 replace hE4:=hE4.symm
 subst hE4
 replace hE5:=hE5.symm
 subst hE5
 replace hE6:=hE6.symm
 subst hE6
 refine QA (Hr:=[_,_]) [1,0] Tryz.results178 (Q4Q 2 Z Z Q8S tA_204 Z Z) ⟨a2,a9,aA,aB,aC,Z,Z,Z⟩ (asK [] Z) Z Z (.inl Z)
theorem Q9x (N:Nat) (aJ:OA) (aK:Nat) (l0:List Q1P) (o2:List Q1P) (hm:Q6l N l0 = some o2):Q1z Tryz.prog 158 [.slice aJ l0.length aK] [.sli 10 Q2A aJ aK l0] [] (fun v Φr Hr=>∃ (o0:OA) (o1:Nat) (o3:Nat),v = .slice o0 o3 o1 ∧ Φr = [] ∧ Hr = [.own 204 10 Q2A (.slice o0 o3 o1) o2]):=by
 unfold Q6l at hm
 refine Q12 Tryz.func158 Z Tryz.ntmps158 Z (S:=[_]) Z (fun C=>(Q6 (Q3 (wP Z (Q2 (Q4 (Q5 [0] (S':=[_]) Z (Q6 (Q3 (wP Z (Q2 (Q4 (Q6 ?_)))))))))))))
 obtain ⟨aN,hm,hLj_1⟩:=Q7 hm
 refine Q15 (σ:=(List Q1P) × OA × Nat × Nat) (fun (a2,o,q,y)=>aN = a2) (fun (a2,o,q,y)=>[(3,.slice o y q)]) (fun (a2,o,q,y)=>[]) (fun (a2,o,q,y)=>[.own 204 10 Q2A (.slice o y q) a2]) ?_ ?_
 refine Q6 (Q3 (wP Z (Q2 (Q4 (Qn (Q3K 204 10 Q2A (Q1b (σ:=Nat × Nat × (List Q1P) × OA × Nat × Nat) (fun (aF,a3,j,z,a0,a1)=>Q1B (Q5w N l0) aF (a3,j) = some aN) (fun (aF,a3,j,z,a0,a1)=>aF) (fun (aF,a3,j,z,a0,a1)=>[(4,.int .i64 ((a3:Nat):Int)),(3,.slice z a1 a0),(0,.slice aJ l0.length aK)]) (fun (aF,a3,j,z,a0,a1)=>[.sli 10 Q2A aJ aK l0]) (fun (aF,a3,j,z,a0,a1)=>[.own 204 10 Q2A (.slice z a1 a0) j]) (N,0,[],none,0,0) hm [4,3,0] Z (asK [0] Z) Z (fun s_ hm=>?_))))))))
 obtain ⟨aF,a3,j,z,a0,a1⟩:=s_
 try dsimp only at hm ⊢
 obtain ⟨b4,b5,aS,hq,hLu1⟩:=Q18 hm
 clear hm
 subst aS
 replace hm:=hq
 clear hq
 unfold Q5w at hm
 try dsimp only at hm
 refine Q6 (Q6 (Q3 (wP Z (wP Z (wN Z tE_35 (wP Z (Qx (d:=9) (v':=.bool (decide (a3 < l0.length))) (S':=V6 ..) Z Z (Q20 (a:=a3) (b:=l0.length)) (Q2 (Q4 (Q5 [9,4,3,0] (S':=V4 ..) Z ?_))))))))))
 refine Qv Z (fun aP=>?_) (fun aP=>?_)
 replace hm:=Q1m hm aP
 refine Q5 [4,3,0] (S':=V3 ..) Z (Qt (Q4 (Q6 (Qn (Q6 (Q3 (wP Z (wP Z ?_))))))))
 obtain ⟨f,aT,hm⟩:=Q7 hm
 refine Q3z 0 a3 Z Z Z Zq Z Z Z Z Z aT tE_35 Q8S (fun b6 b7 b3 aX=>(Q5m Q8b 1 Z (fun aL aU _=>?_)))
 subst aU
 refine Q5l 2 0 Z Z Z Zq Z Z Z (cs:=V10 ..) Z Q8S tA_204 Z Z ?_
 obtain ⟨⟨a4,a5,a6,a7,a8,a9,aA⟩,aV,hm⟩:=Q7 hm
 try dsimp only at hm
 refine wC [] [0] Z fn_178 Z (Q9S N f.kind f.type aL.1.1 aL.1.2 f.args f.test.kind f.test.value.k f.test.value.n f.test.value.s f.test.var f.test.op aL.2.1 aL.2.2 f.test.kids _ _ _ _ _ _ _ aV) (asK [0,1] Z) Z (H':=[_]) Z ?_
 rintro _ _ _ ⟨aB,aC,aD,aE,aG,rfl,rfl,rfl⟩
 refine Q1s Z Z Z Zq Z tZ_204 Z (fun g5=>(wS 0 0 Z Q8S (all':=V10 ..) Z (H':=V4 ..) Z (Q2 (Q4 (Q5 [5,4,3,0] (S':=V4 ..) Z (Q3 (wP Z (Q1E 0 0 Z Z Z Zq Z Z Z (cs:=V10 ..) Z Q8S tA_204 Z Z (Qq Z Z Z Zq Z tE_35 Q8S tZ_204 Z (zs:=[.int .u8 0,.int .i64 0,V1,.int .u8 0,.int .u8 0,.int .i64 0,.string ((⟨#[]⟩ : ByteArray)),.int .i64 0,.int .u8 0,V1]) (by kernel_rfl) Z (out:=V10 ..) Z (fun aY=>(QQ 2 Z (fun aH _=>(Q23 1 (v':=.agg #[.int .u8 (f.kind),.int .i64 (f.type),.slice aB f.args.length aC,.int .u8 a4,.int .u8 a5,.int .i64 a6,.string a7,.int .i64 a8,.int .u8 a9,.slice aD aG aE]) Z (by first | rfl | (rw [aH]; done) | simp) (Q1r 0 (φ':=.blk aY [.int .u8 (f.kind),.int .i64 (f.type),.slice aB f.args.length aC,.int .u8 a4,.int .u8 a5,.int .i64 a6,.string a7,.int .i64 a8,.int .u8 a9,.slice aD aG aE] 204) Z (by first | rfl | (rw [aH]; done) | simp) (H':=V5 ..) Z (Q1r 1 (φ':=.blk g5 [.int .u8 (f.kind),.int .i64 (f.type),.slice aB f.args.length aC,.int .u8 a4,.int .u8 a5,.int .i64 a6,.string a7,.int .i64 a8,.int .u8 a9,.slice aD aG aE] 204) Z (by first | rfl | (rw [aH]; done) | simp) (H':=V5 ..) Z (Q1r 2 (φ':=.own 200 5 Q7I (.slice aB f.args.length aC) f.args) Z (by first | rfl | (rw [aH]; done) | simp) (H':=V5 ..) Z ?_))))))))))))))))
 refine Q6B 2 Z (H':=V4 ..) Z (Q2j (.sli 5 Q7I aB aC f.args) (fun F w hφ=>Q1d (hφ _ (Qo (k:=0) Z))) (QQ 2 Z (fun aI _=>?_)))
 subst aI
 refine Q6B 2 Z (H':=V3 ..) Z (Q2j (.sli 7 Q1c aD aE aA) (fun F w hφ=>Q1d (hφ _ (Qo (k:=0) Z))) ?_)
 obtain ⟨aO,hm⟩:=Qd hm
 refine Q21 ([(⟨f.kind,f.type,f.args,(⟨a4,(⟨a5,a6,a7⟩ : V),a8,a9,aA⟩ : QD)⟩ : Q1P)]) 2 0 Z Z Z Zq Z Z Z Z Z (fun F w hφ=>⟨[.int .u8 (f.kind),.int .i64 (f.type),.slice aB f.args.length aC,.int .u8 a4,.int .u8 a5,.int .i64 a6,.string a7,.int .i64 a8,.int .u8 a9,.slice aD aA.length aE],[],Z,Z,⟨((aB,aC),(aD,aE)),Z,(Qe (hφ _ (Qo (k:=2) Z)) (Qe (hφ _ (Qo (k:=0) Z)) Ql))⟩,Z⟩) tE_35 tR_204 Z Z (Nat.le_trans aO (by decide)) (Nat.le_trans (Nat.mul_le_mul_right _ aO) (by decide)) (H2:=fun aQ aR=>[_,_,.own 204 10 Q2A (.slice aQ ((j ++ ([(⟨f.kind,f.type,f.args,(⟨a4,(⟨a5,a6,a7⟩ : V),a8,a9,aA⟩ : QD)⟩ : Q1P)])).length) aR) (j ++ ([(⟨f.kind,f.type,f.args,(⟨a4,(⟨a5,a6,a7⟩ : V),a8,a9,aA⟩ : QD)⟩ : Q1P)]))]) (fun _ _=>Z) (fun aQ aR=>(Q2J 0 Z (H':=[_,_]) Z (QM (S':=V7 ..) Z Z Z Z Z (Q2 (Qi (Q4 (Q5 [3,4,0] (S':=V3 ..) Z (Q3 (wP Z (wP Z ?_))))))))))
 obtain ⟨aW,hm⟩:=Qd hm
 refine Qx (d:=11) (v':=.int .i64 ((a3 + 1:Nat):Int)) (S':=V4 ..) Z Z (Q1f (a:=a3) (b:=1) aW) (QM (S':=V4 ..) Z Z Z Z Z (Q2 ?_))
 have hE:=(Zi hm).symm
 replace hE:=Q11 hLu1 hE
 refine Q17 [1] Z (H':=[_]) Z ?_
 refine Q14 (_,a3 + 1,(j ++ ([(⟨f.kind,f.type,f.args,(⟨a4,(⟨a5,a6,a7⟩ : V),a8,a9,aA⟩ : QD)⟩ : Q1P)])),aQ,aR,((j ++ ([(⟨f.kind,f.type,f.args,(⟨a4,(⟨a5,a6,a7⟩ : V),a8,a9,aA⟩ : QD)⟩ : Q1P)])).length)) (Nat.lt_succ_self _) hE [4,3,0] Z (asK [8] Z) Z
 replace hm:=Q1l hm aP
 refine Q5 [3] (S':=[_]) Z (Q19 (Qc (Qc (Qu ?_))))
 have hE:=(Zi hm).symm
 replace hE:=QE hLu1 hE
 refine Qp (j,z,a0,a1) hE [3] Z (asK [] Z) Z
 rintro ⟨a2,o,q,y⟩ hE
 try dsimp only
 have hm:=hLj_1
 try rw [hE] at hm
 refine Q6 (Q3 (wP Z (wP Z (Q2 (Q4 (Q5 [2] (S':=[_]) Z (QJ ?_)))))))
 have hE:=(Zi hm).symm
 replace hE:=hE.symm
 subst hE
 refine QA (Hr:=[_]) [0] Tryz.results158 (Qy Z) ⟨o,q,y,Z,Z,Z⟩ (asK [] Z) Z Z (.inl Z)
theorem Q9y (N:Nat) (aF:OA) (aG:Nat) (l0:List QD) (o2:List QD) (hm:Q6m N l0 = some o2):Q1z Tryz.prog 195 [.slice aF l0.length aG] [.sli 7 Q1c aF aG l0] [] (fun v Φr Hr=>∃ (o0:OA) (o1:Nat) (o3:Nat),v = .slice o0 o3 o1 ∧ Φr = [] ∧ Hr = [.own 194 7 Q1c (.slice o0 o3 o1) o2]):=by
 unfold Q6m at hm
 refine Q12 Tryz.func195 Z Tryz.ntmps195 Z (S:=[_]) Z (fun C=>(Q6 (Q3 (wP Z (Q2 (Q4 (Q5 [0] (S':=[_]) Z (Q6 (Q3 (wP Z (Q2 (Q4 (Q6 ?_)))))))))))))
 obtain ⟨aI,hm,hLj_1⟩:=Q7 hm
 refine Q15 (σ:=(List QD) × OA × Nat × Nat) (fun (a1,j,o,q)=>aI = a1) (fun (a1,j,o,q)=>[(3,.slice j q o)]) (fun (a1,j,o,q)=>[]) (fun (a1,j,o,q)=>[.own 194 7 Q1c (.slice j q o) a1]) ?_ ?_
 refine Q6 (Q3 (wP Z (Q2 (Q4 (Qn (Q3K 194 7 Q1c (Q1b (σ:=Nat × Nat × (List QD) × OA × Nat × Nat) (fun (aA,a2,f,y,z,a0)=>Q1B (Q5x N l0) aA (a2,f) = some aI) (fun (aA,a2,f,y,z,a0)=>aA) (fun (aA,a2,f,y,z,a0)=>[(4,.int .i64 ((a2:Nat):Int)),(3,.slice y a0 z),(0,.slice aF l0.length aG)]) (fun (aA,a2,f,y,z,a0)=>[.sli 7 Q1c aF aG l0]) (fun (aA,a2,f,y,z,a0)=>[.own 194 7 Q1c (.slice y a0 z) f]) (N,0,[],none,0,0) hm [4,3,0] Z (asK [0] Z) Z (fun s_ hm=>?_))))))))
 obtain ⟨aA,a2,f,y,z,a0⟩:=s_
 try dsimp only at hm ⊢
 obtain ⟨b0,b1,aN,hq,hLu1⟩:=Q18 hm
 clear hm
 subst aN
 replace hm:=hq
 clear hq
 unfold Q5x at hm
 try dsimp only at hm
 refine Q6 (Q6 (Q3 (wP Z (wP Z (wN Z Q7e (wP Z (Qx (d:=9) (v':=.bool (decide (a2 < l0.length))) (S':=V6 ..) Z Z (Q20 (a:=a2) (b:=l0.length)) (Q2 (Q4 (Q5 [9,4,3,0] (S':=V4 ..) Z ?_))))))))))
 refine Qv Z (fun aK=>?_) (fun aK=>?_)
 replace hm:=Q1m hm aK
 refine Q5 [4,3,0] (S':=V3 ..) Z (Qt (Q4 (Q6 (Qn (Q6 (Q3 (wP Z (wP Z ?_))))))))
 obtain ⟨aB,aO,hm⟩:=Q7 hm
 refine Q3z 0 a2 Z Z Z Zq Z Z Z Z Z aO Q7e Q53 (fun b2 b3 aZ aT=>(Q5m Q4T 1 Z (fun aP aQ _=>?_)))
 subst aQ
 refine Q5l 1 0 Z Z Z Zq Z Z Z (cs:=V7 ..) Z Q53 Q8t Z Z ?_
 obtain ⟨⟨a4,a5,a6,a7,a8,a9,a3⟩,aR,hm⟩:=Q7 hm
 try dsimp only at hm
 refine wC [] [0] Z fn_194 Z (Q7T N aB.kind aB.value.k aB.value.n aB.value.s aB.var aB.op aP.1 aP.2 aB.kids _ _ _ _ _ _ _ aR) (asK [0] Z) Z (H':=[_]) Z ?_
 rintro _ _ _ ⟨aC,aD,aU,rfl,rfl,rfl⟩
 refine Q1s Z Z Z Zq Z tZ_194 Z (fun g5=>(wS 0 0 Z Q53 (all':=V7 ..) Z (H':=V3 ..) Z (Q2 (Q4 (Q5 [5,4,3,0] (S':=V4 ..) Z (Q3 (wP Z (Q1E 0 0 Z Z Z Zq Z Z Z (cs:=V7 ..) Z Q53 Q8t Z Z (Qq Z Z Z Zq Z Q7e Q53 tZ_194 Z (zs:=[.int .u8 0,.int .u8 0,.int .i64 0,.string ((⟨#[]⟩ : ByteArray)),.int .i64 0,.int .u8 0,V1]) (by kernel_rfl) Z (out:=V7 ..) Z (fun b4=>(QQ 2 Z (fun aE _=>?_))))))))))))
 subst aE
 refine Q6B 2 Z (H':=V3 ..) Z (Q2j (.sli 7 Q1c aC aD a3) (fun F w hφ=>Q1d (hφ _ (Qo (k:=0) Z))) ?_)
 obtain ⟨aJ,hm⟩:=Qd hm
 refine Q21 ([(⟨a4,(⟨a5,a6,a7⟩ : V),a8,a9,a3⟩ : QD)]) 2 0 Z Z Z Zq Z Z Z Z Z (fun F w hφ=>⟨[.int .u8 a4,.int .u8 a5,.int .i64 a6,.string a7,.int .i64 a8,.int .u8 a9,.slice aC a3.length aD],[],Z,Z,(rec_shut (aC,aD) Z (Qe (hφ _ (Qo (k:=0) Z)) Ql)),Z⟩) Q7e tR_194 Z Z (Nat.le_trans aJ (by decide)) (Nat.le_trans (Nat.mul_le_mul_right _ aJ) (by decide)) (H2:=fun aL aM=>[_,_,.own 194 7 Q1c (.slice aL ((f ++ ([(⟨a4,(⟨a5,a6,a7⟩ : V),a8,a9,a3⟩ : QD)])).length) aM) (f ++ ([(⟨a4,(⟨a5,a6,a7⟩ : V),a8,a9,a3⟩ : QD)]))]) (fun _ _=>Z) (fun aL aM=>(Q2J 0 Z (H':=[_,_]) Z (QM (S':=V7 ..) Z Z Z Z Z (Q2 (Qi (Q4 (Q5 [3,4,0] (S':=V3 ..) Z (Q3 (wP Z (wP Z ?_))))))))))
 obtain ⟨aS,hm⟩:=Qd hm
 refine Qx (d:=11) (v':=.int .i64 ((a2 + 1:Nat):Int)) (S':=V4 ..) Z Z (Q1f (a:=a2) (b:=1) aS) (QM (S':=V4 ..) Z Z Z Z Z (Q2 ?_))
 have hE:=(Zi hm).symm
 replace hE:=Q11 hLu1 hE
 refine Q17 [1] Z (H':=[_]) Z ?_
 refine Q14 (_,a2 + 1,(f ++ ([(⟨a4,(⟨a5,a6,a7⟩ : V),a8,a9,a3⟩ : QD)])),aL,aM,((f ++ ([(⟨a4,(⟨a5,a6,a7⟩ : V),a8,a9,a3⟩ : QD)])).length)) (Nat.lt_succ_self _) hE [4,3,0] Z (asK [5] Z) Z
 replace hm:=Q1l hm aK
 refine Q5 [3] (S':=[_]) Z (Q19 (Qc (Qc (Qu ?_))))
 have hE:=(Zi hm).symm
 replace hE:=QE hLu1 hE
 refine Qp (f,y,z,a0) hE [3] Z (asK [] Z) Z
 rintro ⟨a1,j,o,q⟩ hE
 try dsimp only
 have hm:=hLj_1
 try rw [hE] at hm
 refine Q6 (Q3 (wP Z (wP Z (Q2 (Q4 (Q5 [2] (S':=[_]) Z (QJ ?_)))))))
 have hE:=(Zi hm).symm
 replace hE:=hE.symm
 subst hE
 refine QA (Hr:=[_]) [0] Tryz.results195 (Qy Z) ⟨j,o,q,Z,Z,Z⟩ (asK [] Z) Z Z (.inl Z)
theorem Qa6 (N:Nat) (a0:Int) (a1:Int) (a2:Int) (qp0:OA) (qc1:Nat) (l3:List QD) (o2:List QD) (hm:Q7c N a0 a1 a2 l3 = some o2):Q1z Tryz.prog 179 [.agg #[.int .u8 a0,.int .i64 a1,.int .i64 a2,.slice qp0 l3.length qc1]] [.sli 7 Q1c qp0 qc1 l3] [] (fun v Φr Hr=>∃ (o0:OA) (o1:Nat) (o3:Nat),v = .agg #[.int .u8 a0,.int .i64 a1,.int .i64 a2,.slice o0 o3 o1] ∧ Φr = [] ∧ Hr = [.own 194 7 Q1c (.slice o0 o3 o1) o2]):=by
 unfold Q7c at hm
 refine Q12 Tryz.func179 Z Tryz.ntmps179 Z (S:=[_]) Z (fun C=>(Q6 (Q3 (wB Z (fun g1=>(Q1s Z Z Z Zq Z tZ_209 Z (fun g2=>(Q2 (Q4 (Q5 [2,1] (S':=[_,_]) Z (Q6 (Q3 (wF Z tF_209_3 (wD 1 3 Z tS_190 tA_190 Z ?_))))))))))))))
 obtain ⟨v5,hc5,hm⟩:=Q7 hm
 refine wC [] [0,1] Z fn_195 Z (Q9y N qp0 qc1 l3 _ hc5) (asK [0] Z) Z (H':=[_,_]) Z ?_
 rintro _ _ _ ⟨p5_0,c5_1,c5_2,rfl,rfl,rfl⟩
 refine wF Z tF_209_3 (wS 2 3 Z tS_190 (all':=V4 ..) Z (H':=V3 ..) Z (Q2 (Q4 (Q5 [2,1] (S':=[_,_]) Z (Q6 (Q3 (Q1E 2 0 Z Z Z Zq Z Z Z (cs:=V4 ..) Z Q8T tA_209 Z Z (wS 1 0 Z Q8T (all':=V4 ..) Z (H':=V3 ..) Z (Q2 (Q4 (Q5 [2] (S':=[_]) Z (QJ ?_))))))))))))
 have hE:=(Zi hm).symm
 replace hE:=hE.symm
 subst hE
 refine QA (Hr:=[_]) [0] Tryz.results179 (Q4Q 1 Z Z Q8T tA_209 Z Z) ⟨p5_0,c5_1,c5_2,Z,Z,Z⟩ (asK [] Z) Z Z (.inl Z)
theorem Q9Q (N:Nat) (a8:OA) (a9:Nat) (l0:List Q1W) (o2:List Q1W) (hm:Q6N N l0 = some o2):Q1z Tryz.prog 159 [.slice a8 l0.length a9] [.sli 4 Q35 a8 a9 l0] [] (fun v Φr Hr=>∃ (o0:OA) (o1:Nat) (o3:Nat),v = .slice o0 o3 o1 ∧ Φr = [] ∧ Hr = [.own 209 4 Q35 (.slice o0 o3 o1) o2]):=by
 unfold Q6N at hm
 refine Q12 Tryz.func159 Z Tryz.ntmps159 Z (S:=[_]) Z (fun C=>(Q6 (Q3 (wP Z (Q2 (Q4 (Q5 [0] (S':=[_]) Z (Q6 (Q3 (wP Z (Q2 (Q4 (Q6 ?_)))))))))))))
 obtain ⟨aB,hm,hLj_1⟩:=Q7 hm
 refine Q15 (σ:=(List Q1W) × OA × Nat × Nat) (fun (a1,j,o,q)=>aB = a1) (fun (a1,j,o,q)=>[(3,.slice j q o)]) (fun (a1,j,o,q)=>[]) (fun (a1,j,o,q)=>[.own 209 4 Q35 (.slice j q o) a1]) ?_ ?_
 refine Q6 (Q3 (wP Z (Q2 (Q4 (Qn (Q3K 209 4 Q35 (Q1b (σ:=Nat × Nat × (List Q1W) × OA × Nat × Nat) (fun (a3,a2,f,y,z,a0)=>Q1B (Q5P N l0) a3 (a2,f) = some aB) (fun (a3,a2,f,y,z,a0)=>a3) (fun (a3,a2,f,y,z,a0)=>[(4,.int .i64 ((a2:Nat):Int)),(3,.slice y a0 z),(0,.slice a8 l0.length a9)]) (fun (a3,a2,f,y,z,a0)=>[.sli 4 Q35 a8 a9 l0]) (fun (a3,a2,f,y,z,a0)=>[.own 209 4 Q35 (.slice y a0 z) f]) (N,0,[],none,0,0) hm [4,3,0] Z (asK [0] Z) Z (fun s_ hm=>?_))))))))
 obtain ⟨a3,a2,f,y,z,a0⟩:=s_
 try dsimp only at hm ⊢
 obtain ⟨aT,aU,aG,hq,hLu1⟩:=Q18 hm
 clear hm
 subst aG
 replace hm:=hq
 clear hq
 unfold Q5P at hm
 try dsimp only at hm
 refine Q6 (Q6 (Q3 (wP Z (wP Z (wN Z tE_36 (wP Z (Qx (d:=9) (v':=.bool (decide (a2 < l0.length))) (S':=V6 ..) Z Z (Q20 (a:=a2) (b:=l0.length)) (Q2 (Q4 (Q5 [9,4,3,0] (S':=V4 ..) Z ?_))))))))))
 refine Qv Z (fun aD=>?_) (fun aD=>?_)
 replace hm:=Q1m hm aD
 refine Q5 [4,3,0] (S':=V3 ..) Z (Qt (Q4 (Q6 (Qn (Q6 (Q3 (wP Z (wP Z ?_))))))))
 obtain ⟨s,aH,hm⟩:=Q7 hm
 refine Q3z 0 a2 Z Z Z Zq Z Z Z Z Z aH tE_36 Q8T (fun aV aW aS aM=>(Q5m Q8o 1 Z (fun aI aJ _=>?_)))
 subst aJ
 refine Q5l 1 0 Z Z Z Zq Z Z Z (cs:=V4 ..) Z Q8T tA_209 Z Z ?_
 obtain ⟨a4,aK,hm⟩:=Q7 hm
 refine wC [] [0] Z fn_179 Z (Qa6 N s.kind s.type s.which aI.1 aI.2 s.exprs _ aK) (asK [0] Z) Z (H':=[_]) Z ?_
 rintro _ _ _ ⟨a5,a6,aN,rfl,rfl,rfl⟩
 refine Q1s Z Z Z Zq Z tZ_209 Z (fun g5=>(wS 0 0 Z Q8T (all':=V4 ..) Z (H':=V3 ..) Z (Q2 (Q4 (Q5 [5,4,3,0] (S':=V4 ..) Z (Q3 (wP Z (Q1E 0 0 Z Z Z Zq Z Z Z (cs:=V4 ..) Z Q8T tA_209 Z Z (Qq Z Z Z Zq Z tE_36 Q8T tZ_209 Z (zs:=[.int .u8 0,.int .i64 0,.int .i64 0,V1]) (by kernel_rfl) Z (out:=V4 ..) Z (fun aX=>(QQ 2 Z (fun a7 _=>?_))))))))))))
 subst a7
 refine Q6B 2 Z (H':=V3 ..) Z (Q2j (.sli 7 Q1c a5 a6 a4) (fun F w hφ=>Q1d (hφ _ (Qo (k:=0) Z))) ?_)
 obtain ⟨aC,hm⟩:=Qd hm
 refine Q21 ([(⟨s.kind,s.type,s.which,a4⟩ : Q1W)]) 2 0 Z Z Z Zq Z Z Z Z Z (fun F w hφ=>⟨[.int .u8 (s.kind),.int .i64 (s.type),.int .i64 (s.which),.slice a5 a4.length a6],[],Z,Z,⟨(a5,a6),Z,(Qe (hφ _ (Qo (k:=0) Z)) Ql)⟩,Z⟩) tE_36 tR_209 Z Z (Nat.le_trans aC (by decide)) (Nat.le_trans (Nat.mul_le_mul_right _ aC) (by decide)) (H2:=fun aE aF=>[_,_,.own 209 4 Q35 (.slice aE ((f ++ ([(⟨s.kind,s.type,s.which,a4⟩ : Q1W)])).length) aF) (f ++ ([(⟨s.kind,s.type,s.which,a4⟩ : Q1W)]))]) (fun _ _=>Z) (fun aE aF=>(Q2J 0 Z (H':=[_,_]) Z (QM (S':=V7 ..) Z Z Z Z Z (Q2 (Qi (Q4 (Q5 [3,4,0] (S':=V3 ..) Z (Q3 (wP Z (wP Z ?_))))))))))
 obtain ⟨aL,hm⟩:=Qd hm
 refine Qx (d:=11) (v':=.int .i64 ((a2 + 1:Nat):Int)) (S':=V4 ..) Z Z (Q1f (a:=a2) (b:=1) aL) (QM (S':=V4 ..) Z Z Z Z Z (Q2 ?_))
 have hE:=(Zi hm).symm
 replace hE:=Q11 hLu1 hE
 refine Q17 [1] Z (H':=[_]) Z ?_
 refine Q14 (_,a2 + 1,(f ++ ([(⟨s.kind,s.type,s.which,a4⟩ : Q1W)])),aE,aF,((f ++ ([(⟨s.kind,s.type,s.which,a4⟩ : Q1W)])).length)) (Nat.lt_succ_self _) hE [4,3,0] Z (asK [5] Z) Z
 replace hm:=Q1l hm aD
 refine Q5 [3] (S':=[_]) Z (Q19 (Qc (Qc (Qu ?_))))
 have hE:=(Zi hm).symm
 replace hE:=QE hLu1 hE
 refine Qp (f,y,z,a0) hE [3] Z (asK [] Z) Z
 rintro ⟨a1,j,o,q⟩ hE
 try dsimp only
 have hm:=hLj_1
 try rw [hE] at hm
 refine Q6 (Q3 (wP Z (wP Z (Q2 (Q4 (Q5 [2] (S':=[_]) Z (QJ ?_)))))))
 have hE:=(Zi hm).symm
 replace hE:=hE.symm
 subst hE
 refine QA (Hr:=[_]) [0] Tryz.results159 (Qy Z) ⟨j,o,q,Z,Z,Z⟩ (asK [] Z) Z Z (.inl Z)
theorem Q9U (N:Nat) (a0:ByteArray) (a1:Int) (a2:Int) (qp0:OA) (qc1:Nat) (l3:List Q1P) (qp2:OA) (qc3:Nat) (l4:List Q1W) (o2:List Q1P) (o6:List Q1W) (hm:Q6R N a0 a1 a2 l3 l4 = some (o2,o6)):Q1z Tryz.prog 98 [.agg #[.string a0,.int .i64 a1,.int .i64 a2,.slice qp0 l3.length qc1,.slice qp2 l4.length qc3]] [.sli 10 Q2A qp0 qc1 l3,.sli 4 Q35 qp2 qc3 l4] [] (fun v Φr Hr=>∃ (o0:OA) (o1:Nat) (o3:Nat) (o4:OA) (o5:Nat) (o7:Nat),v = .agg #[.string a0,.int .i64 a1,.int .i64 a2,.slice o0 o3 o1,.slice o4 o7 o5] ∧ Φr = [] ∧ Hr = [.own 204 10 Q2A (.slice o0 o3 o1) o2,.own 209 4 Q35 (.slice o4 o7 o5) o6]):=by
 unfold Q6R at hm
 refine Q12 Tryz.func98 Z Tryz.ntmps98 Z (S:=[_]) Z (fun C=>(Q6 (Q3 (wB Z (fun g1=>(Q1s Z Z Z Zq Z tZ_38 Z (fun g2=>(Q2 (Q4 (Q5 [2,1] (S':=[_,_]) Z (Q6 (Q3 (wF Z tF_38_3 (wD 1 3 Z tS_35 tA_35 Z ?_))))))))))))))
 obtain ⟨v5,hc5,hm⟩:=Q7 hm
 refine wC [] [0,1] Z fn_158 Z (Q9x N qp0 qc1 l3 _ hc5) (asK [0] Z) Z (H':=[_,_]) Z ?_
 rintro _ _ _ ⟨p5_0,c5_1,c5_2,rfl,rfl,rfl⟩
 refine wF Z tF_38_3 (wS 2 3 Z tS_35 (all':=V5 ..) Z (H':=V3 ..) Z (Q2 (Q4 (Q5 [2,1] (S':=[_,_]) Z (Q6 (Q3 (wF Z tF_38_4 (wD 2 4 Z tS_36 tA_36 Z ?_))))))))
 obtain ⟨v9,hc9,hm⟩:=Q7 hm
 refine wC [] [0,1,2] Z fn_159 Z (Q9Q N qp2 qc3 l4 _ hc9) (asK [1] Z) Z (H':=V3 ..) Z ?_
 rintro _ _ _ ⟨p9_0,c9_1,c9_2,rfl,rfl,rfl⟩
 refine wF Z tF_38_4 (wS 3 4 Z tS_36 (all':=V5 ..) Z (H':=V4 ..) Z (Q2 (Q4 (Q5 [2,1] (S':=[_,_]) Z (Q6 (Q3 (Q1E 3 0 Z Z Z Zq Z Z Z (cs:=V5 ..) Z Q7D tA_38 Z Z (wS 2 0 Z Q7D (all':=V5 ..) Z (H':=V4 ..) Z (Q2 (Q4 (Q5 [2] (S':=[_]) Z (QJ ?_))))))))))))
 have hE:=(Zi hm).symm
 obtain ⟨hE0,hE1⟩:=Prod.mk.inj hE
 clear hE
 replace hE0:=hE0.symm
 subst hE0
 replace hE1:=hE1.symm
 subst hE1
 refine QA (Hr:=[_,_]) [1,0] Tryz.results98 (Q4Q 2 Z Z Q7D tA_38 Z Z) ⟨p5_0,c5_1,c5_2,p9_0,c9_1,c9_2,Z,Z,Z⟩ (asK [] Z) Z Z (.inl Z)
theorem Q8u (N:Nat) (aB:OA) (aC:Nat) (aD:Nat) (l0:List QP) (o2:List QP) (hm:Q5Q N l0 = some o2):Q1z Tryz.prog 48 [.slice aB aC aD] [] [.own 38 5 QO (.slice aB aC aD) l0] (fun v Φr Hr=>∃ (o0:OA) (o1:Nat) (o3:Nat),v = .slice o0 o3 o1 ∧ Φr = [] ∧ Hr = [.own 38 5 QO (.slice o0 o3 o1) o2,.own 38 5 QO (.slice aB aC aD) l0]):=by
 unfold Q5Q at hm
 refine Q12 Tryz.func48 Z Tryz.ntmps48 Z (S:=[_]) Z (fun C=>(Q6 (Q3 (wP Z (Q2 (Q4 (Q5 [0] (S':=[_]) Z (Q6 (Q3 (wP Z (Q2 (Q4 (Q6 ?_)))))))))))))
 obtain ⟨aH,hm,hLj_1⟩:=Q7 hm
 refine Q15 (σ:=(List QP) × OA × Nat × Nat) (fun (a2,o,q,s)=>aH = a2) (fun (a2,o,q,s)=>[(3,.slice o s q)]) (fun (a2,o,q,s)=>[]) (fun (a2,o,q,s)=>[.own 38 5 QO (.slice o s q) a2,.own 38 5 QO (.slice aB aC aD) l0]) ?_ ?_
 refine Q6 (Q3 (wP Z (Q2 (Q4 (Qn (Q3K 38 5 QO (Q1b (σ:=Nat × Nat × (List QP) × OA × Nat × Nat) (fun (a6,y,f,z,a0,a1)=>Q1B (Q51 N l0) a6 (y,f) = some aH) (fun (a6,y,f,z,a0,a1)=>a6) (fun (a6,y,f,z,a0,a1)=>[(4,.int .i64 ((y:Nat):Int)),(3,.slice z a1 a0),(0,.slice aB aC aD)]) (fun (a6,y,f,z,a0,a1)=>[]) (fun (a6,y,f,z,a0,a1)=>[.own 38 5 QO (.slice z a1 a0) f,.own 38 5 QO (.slice aB aC aD) l0]) (N,0,[],none,0,0) hm [4,3,0] Z (asK [] Z) Z (fun s_ hm=>?_))))))))
 obtain ⟨a6,y,f,z,a0,a1⟩:=s_
 try dsimp only at hm ⊢
 obtain ⟨aY,aZ,aN,hq,hLu1⟩:=Q18 hm
 clear hm
 subst aN
 replace hm:=hq
 clear hq
 unfold Q51 at hm
 try dsimp only at hm
 refine Q6 (Q6 (Q3 (wP Z (wP Z (QQ 1 Z (fun aR _=>(wN Z Q60 (Qx (d:=8) (v':=.int .i64 ((l0.length:Nat):Int)) (S':=V5 ..) Z Z (Q3F aR) (wP Z (Qx (d:=9) (v':=.bool (decide (y < l0.length))) (S':=V6 ..) Z Z (Q20 (a:=y) (b:=l0.length)) (Q2 (Q4 (Q5 [9,4,3,0] (S':=V4 ..) Z ?_)))))))))))))
 refine Qv Z (fun aK=>?_) (fun aK=>?_)
 replace hm:=Q1m hm aK
 refine Q5 [4,3,0] (S':=V3 ..) Z (Qt (Q4 (Q6 (Qn (Q6 (Q3 (wP Z (wP Z ?_))))))))
 obtain ⟨j,aI,hm⟩:=Q7 hm
 refine Q24 1 y Z Z Z Zq Z Z Z Z Z (QB aI) Q60 Q7D (fun b0 aO=>?_)
 subst aO
 refine Qk Q3Z 1 y 0 Z Z Z Zq Z Z Z aI Q7D tA_38 (v:=fun a5=>.agg #[.string j.name,.int .i64 (j.salience),.int .i64 (j.vars),.slice a5.1.1 j.conds.length a5.1.2,.slice a5.2.1 j.acts.length a5.2.2]) (fun _=>Z) (fun _=>Z) (fun a5 _=>?_)
 obtain ⟨⟨a3,a4⟩,aP,hm⟩:=Q7 hm
 try dsimp only at hm
 refine wC [] [0,1] Z fn_98 Z (Q9U N j.name j.salience j.vars a5.1.1 a5.1.2 j.conds a5.2.1 a5.2.2 j.acts _ _ aP) (asK [0,1] Z) Z (H':=[_,_]) Z ?_
 rintro _ _ _ ⟨a7,a8,aS,a9,aA,aT,rfl,rfl,rfl⟩
 refine Q1s Z Z Z Zq Z tZ_38 Z (fun g5=>(wS 0 0 Z Q7D (all':=V5 ..) Z (H':=V5 ..) Z (Q2 (Q4 (Q5 [5,4,3,0] (S':=V4 ..) Z (Q3 (wP Z (Q1E 0 0 Z Z Z Zq Z Z Z (cs:=V5 ..) Z Q7D tA_38 Z Z (Qq Z Z Z Zq Z Q60 Q7D tZ_38 Z (zs:=[.string ((⟨#[]⟩ : ByteArray)),.int .i64 0,.int .i64 0,V1,V1]) (by kernel_rfl) Z (out:=V5 ..) Z (fun b1=>(QQ 2 Z (fun aE _=>?_))))))))))))
 subst aE
 refine Q6B 2 Z (H':=V5 ..) Z (Q2j (.sli 10 Q2A a7 a8 a3) (fun F w hφ=>Q1d (hφ _ (Qo (k:=0) Z))) (QQ 2 Z (fun aF _=>?_)))
 subst aF
 refine Q6B 2 Z (H':=V4 ..) Z (Q2j (.sli 4 Q35 a9 aA a4) (fun F w hφ=>Q1d (hφ _ (Qo (k:=0) Z))) ?_)
 obtain ⟨aJ,hm⟩:=Qd hm
 refine Q21 ([(⟨j.name,j.salience,j.vars,a3,a4⟩ : QP)]) 2 0 Z Z Z Zq Z Z Z Z Z (fun F w hφ=>⟨[.string j.name,.int .i64 (j.salience),.int .i64 (j.vars),.slice a7 a3.length a8,.slice a9 a4.length aA],[],Z,Z,⟨((a7,a8),(a9,aA)),Z,(Qe (hφ _ (Qo (k:=2) Z)) (Qe (hφ _ (Qo (k:=0) Z)) Ql))⟩,Z⟩) Q60 tR_38 Z Z (Nat.le_trans aJ (by decide)) (Nat.le_trans (Nat.mul_le_mul_right _ aJ) (by decide)) (H2:=fun aL aM=>[_,_,.own 38 5 QO (.slice aL ((f ++ ([(⟨j.name,j.salience,j.vars,a3,a4⟩ : QP)])).length) aM) (f ++ ([(⟨j.name,j.salience,j.vars,a3,a4⟩ : QP)])),_]) (fun _ _=>Z) (fun aL aM=>(Q2J 0 Z (H':=V3 ..) Z (QM (S':=V7 ..) Z Z Z Z Z (Q2 (Qi (Q4 (Q5 [3,4,0] (S':=V3 ..) Z (Q3 (wP Z (wP Z ?_))))))))))
 obtain ⟨aQ,hm⟩:=Qd hm
 refine Qx (d:=11) (v':=.int .i64 ((y + 1:Nat):Int)) (S':=V4 ..) Z Z (Q1f (a:=y) (b:=1) aQ) (QM (S':=V4 ..) Z Z Z Z Z (Q2 ?_))
 have hE:=(Zi hm).symm
 replace hE:=Q11 hLu1 hE
 refine Q17 [1,2] Z (H':=[_,_]) Z ?_
 refine Q14 (_,y + 1,(f ++ ([(⟨j.name,j.salience,j.vars,a3,a4⟩ : QP)])),aL,aM,((f ++ ([(⟨j.name,j.salience,j.vars,a3,a4⟩ : QP)])).length)) (Nat.lt_succ_self _) hE [4,3,0] Z (asK [] Z) Z
 replace hm:=Q1l hm aK
 refine Q5 [3] (S':=[_]) Z (Q19 (Qc (Qc (Qu ?_))))
 have hE:=(Zi hm).symm
 replace hE:=QE hLu1 hE
 refine Qp (f,z,a0,a1) hE [3] Z (asK [] Z) Z
 rintro ⟨a2,o,q,s⟩ hE
 try dsimp only
 have hm:=hLj_1
 try rw [hE] at hm
 refine Q6 (Q3 (wP Z (wP Z (Q2 (Q4 (Q5 [2] (S':=[_]) Z (QJ ?_)))))))
 have hE:=(Zi hm).symm
 replace hE:=hE.symm
 subst hE
 refine QA (Hr:=[_,_]) [0,1] Tryz.results48 (Qy Z) ⟨o,q,s,Z,Z,Z⟩ (asK [] Z) Z Z (.inl Z)
theorem Q74 (N:Nat) (qp0:OA) (qc1:Nat) (l0:List Qw) (qp2:OA) (qn3:Nat) (qc4:Nat) (l1:List QP) (o4:List QP) (hm:Q6n N l0 l1 = some o4):Q1z Tryz.prog 25 [.agg #[.slice qp0 l0.length qc1,.slice qp2 qn3 qc4]] [.sli 2 QL qp0 qc1 l0] [.own 38 5 QO (.slice qp2 qn3 qc4) l1] (fun v Φr Hr=>∃ (o0:OA) (o1:Nat) (o2:OA) (o3:Nat) (o5:Nat),v = .agg #[.slice o0 (l0).length o1,.slice o2 o5 o3] ∧ Φr = [] ∧ Hr = [.own 213 2 QL (.slice o0 (l0).length o1) l0,.own 38 5 QO (.slice o2 o5 o3) o4,.own 38 5 QO (.slice qp2 qn3 qc4) l1]):=by
 unfold Q6n at hm
 refine Q12 Tryz.func25 Z Tryz.ntmps25 Z (S:=[_]) Z (fun C=>(Q6 (Q3 (wB Z (fun g1=>(Q1s Z Z Z Zq Z tZ_28 Z (fun g2=>(Q2 (Q4 (Q5 [2,1] (S':=[_,_]) Z (Q6 (Q3 (wF Z tF_28_0 (wD 1 0 Z tS_25 tA_25 Z ?_))))))))))))))
 obtain ⟨_,hc5,hm⟩:=Q7 hm
 try dsimp only at hm
 refine wC [] [0,1,2] Z fn_47 Z (Q9A N qp0 qc1 l0 hc5) (asK [0] Z) Z (H':=V3 ..) Z ?_
 rintro _ _ _ ⟨p5_0,c5_1,rfl,rfl,rfl⟩
 refine wF Z tF_28_0 (wS 2 0 Z tS_25 (all':=[_,_]) Z (H':=V4 ..) Z (Q2 (Q4 (Q5 [2,1] (S':=[_,_]) Z (Q6 (Q3 (wF Z Q4a (wD 2 1 Z Q7q Q85 Z (QQ 3 Z (fun hzqn3 _=>?_))))))))))
 subst hzqn3
 obtain ⟨v9,hc9,hm⟩:=Q7 hm
 refine wC [3] [0,1,2] Z fn_48 Z (Q8u N qp2 l1.length qc4 l1 _ hc9) (asK [] Z) Z (H':=V3 ..) Z ?_
 rintro _ _ _ ⟨p9_0,c9_1,c9_2,rfl,rfl,rfl⟩
 refine wF Z Q4a (wS 4 1 Z Q7q (all':=[_,_]) Z (H':=V5 ..) Z (Q2 (Q4 (Q5 [2,1] (S':=[_,_]) Z (Q6 (Q3 (Q1E 4 0 Z Z Z Zq Z Z Z (cs:=[_,_]) Z Q4z Q5L Z Z (wS 3 0 Z Q4z (all':=[_,_]) Z (H':=V5 ..) Z (Q2 (Q4 (Q5 [2] (S':=[_]) Z (QJ ?_))))))))))))
 have hE:=(Zi hm).symm
 replace hE:=hE.symm
 subst hE
 refine QA (Hr:=V3 ..) [2,0,1] Tryz.results25 (Q4Q 3 Z Z Q4z Q5L Z Z) ⟨p5_0,c5_1,p9_0,c9_1,c9_2,Z,Z,Z⟩ (asK [] Z) Z Z (.inl Z)
theorem Q7F (N:Nat) (qp0:OA) (qc1:Nat) (l0:List Qw) (qp2:OA) (qn3:Nat) (qc4:Nat) (l1:List QP)  (hm:Q4f N l0 l1 = some (.inl ())):Q1z Tryz.prog 8 [.agg #[.slice qp0 l0.length qc1,.slice qp2 qn3 qc4]] [.sli 2 QL qp0 qc1 l0,tF] [.own 38 5 QO (.slice qp2 qn3 qc4) l1] (fun v Φr Hr=>v = .tuple #[.pointer none,.bool false] ∧ Φr = [] ∧ Hr = [.own 38 5 QO (.slice qp2 qn3 qc4) l1]):=by
 unfold Q4f at hm
 refine Q12 Tryz.func8 Z Tryz.ntmps8 Z (S:=[_]) Z (fun C=>(Q6 (Q3 (wB Z (fun g1=>(wP Z (wP Z (Q2 (Q4 (Q5 [1] (S':=[_]) Z (Q6 (Q6 (Q3 (wF Z Q4a (wD 0 1 Z Q7q Q85 Z ?_)))))))))))))))
 refine QQ 1 Z (fun hl6 _=>(wN Z Q60 (Qx (d:=6) (v':=.int .i64 ((l1.length:Nat):Int)) (S':=V3 ..) Z Z (Q3F hl6) (wP Z (Qx (d:=7) (v':=.bool (decide (64 < l1.length))) (S':=V4 ..) Z Z (natgt (a:=l1.length) (b:=64)) (Q2 (Q4 (Q5 [7,1] (S':=[_,_]) Z ?_))))))))
 refine Qv Z (fun hb7=>?_) (fun hb7=>?_)
 replace hm:=Q1m hm hb7
 refine Q5 [] (S':=[]) Z (Q6 (Q3 (wP Z (wP Z (Q2 (Q4 (QJ (Qj ?_))))))))
 have hE:=(Zi hm).symm
 replace hE:=Sum.inl.inj hE
 refine Q7w (Hr:=[_]) [1] Tryz.results8 (Qy Z) (Qy Z) ⟨Z,Z,Z⟩ (asK [] Z) Z Z (.inl Z)
 ·
  replace hm:=Q1l hm hb7
  refine Q5 [1] (S':=[_]) Z (Qt (Q4 (Q6 (Q3 (Q1E 0 0 Z Z Z Zq Z Z Z (cs:=[_,_]) Z Q4z Q5L Z Z (QQ 1 Z (fun hzqn3 _=>?_)))))))
  subst hzqn3
  obtain ⟨v9,hc9,hm⟩:=Q7 hm
  refine wC [1] [0] Z fn_25 Z (Q74 N qp0 qc1 l0 qp2 l1.length qc4 l1 _ hc9) (asK [0] Z) Z (H':=[_]) Z ?_
  rintro _ _ _ ⟨p9_0,c9_1,p9_2,c9_3,c9_4,rfl,rfl,rfl⟩
  refine Q3h Z Z Z Zq Z tZ_70 tP_70 Z (out:=V4 ..) Z (wB Z (fun g11=>(wP Z (wP Z (Q2 (Q4 (Q5 [3,2] (S':=[_,_]) Z (QJ ?_))))))))
  have hE:=(Zi hm).symm
  cases hE
theorem Q7G (N:Nat) (qp0:OA) (qc1:Nat) (l0:List Qw) (qp2:OA) (qn3:Nat) (qc4:Nat) (l1:List QP) (o5:List QP) (hm:Q4f N l0 l1 = some (.inr o5)):Q1z Tryz.prog 8 [.agg #[.slice qp0 l0.length qc1,.slice qp2 qn3 qc4]] [.sli 2 QL qp0 qc1 l0,tF] [.own 38 5 QO (.slice qp2 qn3 qc4) l1] (fun v Φr Hr=>∃ (o0:Nat) (o1:OA) (o2:Nat) (o3:OA) (o4:Nat) (o6:Nat),v = .tuple #[.pointer (some ⟨o0,0,none⟩),.bool true] ∧ Φr = [] ∧ Hr = [.blk o0 [.slice o1 (l0).length o2,.slice o3 o6 o4,V1,V1] 70,.own 213 2 QL (.slice o1 (l0).length o2) l0,.own 38 5 QO (.slice o3 o6 o4) o5,.own 38 5 QO (.slice qp2 qn3 qc4) l1]):=by
 unfold Q4f at hm
 refine Q12 Tryz.func8 Z Tryz.ntmps8 Z (S:=[_]) Z (fun C=>(Q6 (Q3 (wB Z (fun g1=>(wP Z (wP Z (Q2 (Q4 (Q5 [1] (S':=[_]) Z (Q6 (Q6 (Q3 (wF Z Q4a (wD 0 1 Z Q7q Q85 Z ?_)))))))))))))))
 refine QQ 1 Z (fun hl6 _=>(wN Z Q60 (Qx (d:=6) (v':=.int .i64 ((l1.length:Nat):Int)) (S':=V3 ..) Z Z (Q3F hl6) (wP Z (Qx (d:=7) (v':=.bool (decide (64 < l1.length))) (S':=V4 ..) Z Z (natgt (a:=l1.length) (b:=64)) (Q2 (Q4 (Q5 [7,1] (S':=[_,_]) Z ?_))))))))
 refine Qv Z (fun hb7=>?_) (fun hb7=>?_)
 ·
  replace hm:=Q1m hm hb7
  refine Q5 [] (S':=[]) Z (Q6 (Q3 (wP Z (wP Z (Q2 (Q4 (QJ (Qj ?_))))))))
  have hE:=(Zi hm).symm
  cases hE
 replace hm:=Q1l hm hb7
 refine Q5 [1] (S':=[_]) Z (Qt (Q4 (Q6 (Q3 (Q1E 0 0 Z Z Z Zq Z Z Z (cs:=[_,_]) Z Q4z Q5L Z Z (QQ 1 Z (fun hzqn3 _=>?_)))))))
 subst hzqn3
 obtain ⟨v9,hc9,hm⟩:=Q7 hm
 refine wC [1] [0] Z fn_25 Z (Q74 N qp0 qc1 l0 qp2 l1.length qc4 l1 _ hc9) (asK [0] Z) Z (H':=[_]) Z ?_
 rintro _ _ _ ⟨p9_0,c9_1,p9_2,c9_3,c9_4,rfl,rfl,rfl⟩
 refine Q3h Z Z Z Zq Z tZ_70 tP_70 Z (out:=V4 ..) Z (wB Z (fun g11=>(wP Z (wP Z (Q2 (Q4 (Q5 [3,2] (S':=[_,_]) Z (QJ ?_))))))))
 have hE:=(Zi hm).symm
 replace hE:=Sum.inr.inj hE
 replace hE:=hE.symm
 subst hE
 refine Q7w (Hr:=V4 ..) [0,1,2,3] Tryz.results8 (Qy Z) (Qy Z) ⟨g11,p9_0,c9_1,p9_2,c9_3,c9_4,Z,Z,Z⟩ (asK [] Z) Z Z (.inl Z)
theorem Q8J (N:Nat) (a0:Int) (a1:Int) (o0:Int) (hm:Q6T N a0 a1 = some o0):Q1z Tryz.prog 26 [.int .i64 a0,.int .i64 a1] [] [] (fun v Φr Hr=>v = .int .i64 o0 ∧ Φr = [] ∧ Hr = []):=by
 unfold Q6T at hm
 refine Q12 Tryz.func26 Z Tryz.ntmps26 Z (S:=[_,_]) Z (fun C=>(Q6 (Q3 (wP Z (Q2 (Q4 (Q5 [0,1] (S':=[_,_]) Z (Q6 (Q6 (Q3 (wP Z (wP Z (Q2 (Q4 ?_))))))))))))))
 refine Q5 [6,0,1] (S':=V3 ..) Z ?_
 refine Qv Z (fun hb6=>?_) (fun hb6=>?_)
 replace hm:=Q1m hm hb6
 refine Q5 [] (S':=[]) Z (Q6 (Q3 (wP Z (Q2 (Q4 (QJ (Qj ?_)))))))
 have hE:=(Zi hm).symm
 replace hE:=hE.symm
 subst hE
 refine QA (Hr:=[]) [] Tryz.results26 (Qy Z) ⟨Z,Z,Z⟩ (asK [] Z) Z Z (.inl Z)
 replace hm:=Q1l hm hb6
 refine Q5 [0,1] (S':=[_,_]) Z (Qt (Q4 (Q6 (Q3 (wP Z (wP Z ?_))))))
 obtain ⟨hg9,hm⟩:=Qd hm
 refine Q4l Z Z Z Zq Z Z Z (run_rem hg9) (QM (S':=V4 ..) Z Z Z Z Z (Q2 (Q4 (Q5 [0,1] (S':=[_,_]) Z (Q6 ?_)))))
 obtain ⟨bj_1,hm,hLj_1⟩:=Q7 hm
 refine Q15 (σ:=Int) (fun j_1_0=>bj_1 = j_1_0) (fun j_1_0=>[(0,.int .i64 j_1_0)]) (fun j_1_0=>[]) (fun j_1_0=>[]) ?_ ?_
 refine Q6 (Q3 (wP Z (wP Z (Q2 (Q4 (Q5 [11,0,1] (S':=V3 ..) Z ?_))))))
 refine Qv Z (fun hb11=>?_) (fun hb11=>?_)
 replace hm:=Q1m hm hb11
 refine Q5 [0,1] (S':=[_,_]) Z (Q3 (wP Z (wP Z (wP Z ?_))))
 obtain ⟨hg14,hm⟩:=Qd hm
 refine Qx (d:=14) (v':=.int .i64 ((Int.tmod a0 a1) + a1)) (S':=V4 ..) Z Z (i64_in hg14) (QM (S':=V4 ..) Z Z Z Z Z (Q2 ?_))
 have hE:=(Zi hm).symm
 refine Qp ((Int.tmod a0 a1) + a1) hE [0] Z (asK [] Z) Z
 replace hm:=Q1l hm hb11
 refine Q5 [0] (S':=[_]) Z (Qt ?_)
 have hE:=(Zi hm).symm
 refine Qp (Int.tmod a0 a1) hE [0] Z (asK [] Z) Z
 rintro j_1_0 hE
 try dsimp only
 have hm:=hLj_1
 try rw [hE] at hm
 refine Q6 (Q3 (wP Z (wP Z (Q2 (Q4 (Q5 [4] (S':=[_]) Z (QJ ?_)))))))
 have hE:=(Zi hm).symm
 replace hE:=hE.symm
 subst hE
 refine QA (Hr:=[]) [] Tryz.results26 (Qy Z) ⟨Z,Z,Z⟩ (asK [] Z) Z Z (.inl Z)
theorem Q3E (N:Nat) (a0:Int) (a1:Int)  (hm:Q3k N a0 a1 = some ()):Q1z Tryz.prog 49 [.int .i64 a0,.int .i64 a1] [] [] (fun v Φr Hr=>v = .agg #[.int .i64 (IntKind.wrap .i64 ((IntKind.wrap .i64 (1000003 * (IntKind.wrap .i64 (a0 + 7)))) + a1)),V1] ∧ Φr = [] ∧ Hr = []):=by
 unfold Q3k at hm
 refine Q12 Tryz.func49 Z Tryz.ntmps49 Z (S:=[_,_]) Z (fun C=>(Q6 (Q3 (Q1s Z Z Z Zq Z Q1X Z (fun g4=>(Q2 (Q4 (Q6 (Q3 (wP Z (wP Z ?_)))))))))))
 obtain ⟨_,hc7,hm⟩:=Q7 hm
 try dsimp only at hm
 refine wC [] [0] Z fn_99 Z (Q3V N a0 a1 hc7) (asK [] Z) Z (H':=[_]) Z ?_
 rintro _ _ _ ⟨rfl,rfl,rfl⟩
 refine Q3h Z Z Z Zq Z Q1X tP_45 Z (out:=[_,_]) Z (wS 0 0 Z Qg (all':=[_,_]) Z (H':=[_]) Z (Q2 (Q4 (Q5 [4] (S':=[_]) Z (QJ ?_)))))
 have hE:=(Zi hm).symm
 refine QA (Hr:=[]) [] Tryz.results49 (Q4Q 0 Z Z Qg QT Z Z) ⟨Z,Z,Z⟩ (asK [] Z) Z Z (.inl Z)
theorem Q9p (N:Nat) (aJ:OA) (aK:Nat) (l0:List Q1) (o2:List Qz) (hm:Q6c N l0 = some o2):Q1z Tryz.prog 27 [.slice aJ l0.length aK] [.sli 2 Q8 aJ aK l0] [] (fun v Φr Hr=>∃ (o0:OA) (o1:Nat) (o3:Nat),v = .slice o0 l0.length o1 ∧ Φr = [] ∧ Hr = [Q1e QC 45 2 (.slice o0 o3 o1) o2]):=by
 unfold Q6c at hm
 refine Q12 Tryz.func27 Z Tryz.ntmps27 Z (S:=[_]) Z (fun C=>(Q6 (Q3 (wP Z (Q2 (Q4 (Q5 [0] (S':=[_]) Z (Q6 (Q3 (wP Z (wN Z QG (wP Z ?_))))))))))))
 obtain ⟨bM,hm⟩:=Qd hm
 refine Qx (d:=9) (v':=.int .i64 ((l0.length + 12:Nat):Int)) (S':=V3 ..) Z Z (Q1f (a:=l0.length) (b:=12) bM) ?_
 obtain ⟨b1,hm⟩:=Qd hm
 refine wl_makeCap (m:=l0.length + 12) Qa.pair Z Z Z Zq Z Z Z Z QG Q8i Z Z (Nat.le_trans (Nat.mul_le_mul_left _ b1) (by decide)) (Nat.le_trans b1 (by decide)) (fun b4=>(Q1t [Q1w Qa [] none,_] (fun _ h=>h.bagNil Qa) (Q1t [Q1e Qa 45 2 (.slice (some ⟨b4,0,none⟩) 0 (l0.length + 12)) []] (fun _ h=>h.treeIn 1 0 Z Z Z Z) (wP Z (Q2 (Q4 (Q5 [3,0] (S':=[_,_]) Z (Q6 ?_))))))))
 obtain ⟨b2,hm,hLj_1⟩:=Q7 hm
 refine Q15 (σ:=(List Qz) × OA × Nat × Nat) (fun (a3,a4,a5,a6)=>b2 = a3) (fun (a3,a4,a5,a6)=>[(3,.slice a4 a6 a5),(0,.slice aJ l0.length aK)]) (fun (a3,a4,a5,a6)=>[.sli 2 Q8 aJ aK l0]) (fun (a3,a4,a5,a6)=>[Q1e QC 45 2 (.slice a4 a6 a5) a3]) ?_ ?_
 refine Q6 (Q3 (wP Z (Q2 (Q4 (Qn (Q77 [Q1e QC 45 2 (.slice (some ⟨b4,0,none⟩) 0 (l0.length + 12)) []] (fun _ h=>h.treeKind QC 0 Z) (Q1b (σ:=Nat × Nat × (List Qz) × OA × Nat × Nat) (fun (aL,aE,q,a8,a9,aA)=>Q1B (Q5d N l0) aL (aE,q) = some b2) (fun (aL,aE,q,a8,a9,aA)=>aL) (fun (aL,aE,q,a8,a9,aA)=>[(4,.int .i64 ((aE:Nat):Int)),(3,.slice a8 aA a9),(0,.slice aJ l0.length aK)]) (fun (aL,aE,q,a8,a9,aA)=>[.sli 2 Q8 aJ aK l0]) (fun (aL,aE,q,a8,a9,aA)=>[Q1e QC 45 2 (.slice a8 aA a9) q]) (N,0,[],some ⟨b4,0,none⟩,l0.length + 12,0) hm [4,3,0] Z (asK [0] Z) Z (fun s_ hm=>?_))))))))
 obtain ⟨aL,aE,q,a8,a9,aA⟩:=s_
 try dsimp only at hm ⊢
 obtain ⟨bV,bW,b8,hq,hLu1⟩:=Q18 hm
 clear hm
 subst b8
 replace hm:=hq
 clear hq
 unfold Q5d at hm
 try dsimp only at hm
 refine Q6 (Q6 (Q3 (wP Z (wP Z (wN Z QG (wP Z (Qx (d:=14) (v':=.bool (decide (aE < l0.length))) (S':=V6 ..) Z Z (Q20 (a:=aE) (b:=l0.length)) (Q2 (Q4 (Q5 [14,4,3,0] (S':=V4 ..) Z ?_))))))))))
 refine Qv Z (fun aS=>?_) (fun aS=>?_)
 replace hm:=Q1m hm aS
 refine Q5 [4,3,0] (S':=V3 ..) Z (Qt (Q4 (Q6 (Qn (Q6 (Q3 (wP Z (wP Z ?_))))))))
 obtain ⟨f,b9,hm⟩:=Q7 hm
 refine Q3z 0 aE Z Z Z Zq Z Z Z Z Z b9 QG Qg (fun bX bY bT bN=>(Q5m Qb 1 Z (fun bA bB _=>?_)))
 subst bB
 refine Q5l 1 0 Z Z Z Zq Z Z Z (cs:=[_,_]) Z Qg QT Z Z ?_
 obtain ⟨o,bC,hm⟩:=Q7 hm
 refine wC [] [0] Z Q8A Z (Q1n N f.rule bA.1 bA.2 f.ids _ bC) (asK [0] Z) Z (H':=[_]) Z ?_
 rintro _ _ _ ⟨y,z,bO,rfl,rfl,rfl⟩
 refine Q1s Z Z Z Zq Z Q1X Z (fun g5=>(wS 0 0 Z Qg (all':=[_,_]) Z (H':=V3 ..) Z (Q2 (Q4 (Q5 [5,4,3,0] (S':=V4 ..) Z (Q3 (wP Z (Q1E 0 0 Z Z Z Zq Z Z Z (cs:=[_,_]) Z Qg QT Z Z (Qq Z Z Z Zq Z QG Qg Q1X Z (zs:=[.int .i64 0,V1]) (by kernel_rfl) Z (out:=[_,_]) Z (fun bP=>(Q1J 3 Z (fun bD _=>?_))))))))))))
 subst bD
 refine QQ 2 Z (fun aT _=>?_)
 subst aT
 obtain ⟨aM,hm⟩:=Qd hm
 refine Q1r 2 (φ':=.own 3 1 Qh (.slice y ((o.take f.ids.length ++ o.drop f.ids.length).length) z) (o.take f.ids.length ++ o.drop f.ids.length)) Z (by rw [List.take_append_drop]) (H':=V4 ..) Z (Q23 1 (v':=.agg #[.int .i64 (f.rule),.slice y ((o.take f.ids.length).length) z]) Z (by rw [Q1K aM]) (Q1r 0 (φ':=.blk bP [.int .i64 (f.rule),.slice y ((o.take f.ids.length).length) z] 45) Z (by rw [Q1K aM]) (H':=V4 ..) Z (Q1r 1 (φ':=.blk g5 [.int .i64 (f.rule),.slice y ((o.take f.ids.length).length) z] 45) Z (by rw [Q1K aM]) (H':=V4 ..) Z (Q39 3 Z (fun aG aU=>?_)))))
 obtain ⟨bE,hm⟩:=Qd hm
 have aF:List.map (fun x:Qz × (OA × Nat)=>x.1) (aG ++ [((⟨f.rule,o.take f.ids.length,o.drop f.ids.length⟩ : Qz),(y,z))]) = q ++ [(⟨f.rule,o.take f.ids.length,o.drop f.ids.length⟩ : Qz)]:=Q8D aU (us:=[(⟨f.rule,o.take f.ids.length,o.drop f.ids.length⟩ : Qz)]) rfl
 have aV:aG.length + ([((⟨f.rule,o.take f.ids.length,o.drop f.ids.length⟩ : Qz),(y,z))] : List (Qz × (OA × Nat))).length ≤ 4398046511104:=by rw [Q2t aU]; exact bE
 refine Q21 (R:=QC.pair) ([((⟨f.rule,o.take f.ids.length,o.drop f.ids.length⟩ : Qz),(y,z))]) 4 1 Z Z Z Zq Z Z Z Z Z (fun F w hφ=>⟨[.int .i64 (f.rule),.slice y ((o.take f.ids.length).length) z],[],Z,Z,Z,Z⟩) QG Q8i Z Z (Nat.le_trans aV (by decide)) (Nat.le_trans (Nat.mul_le_mul_right _ aV) (by decide)) (H2:=fun aO aP=>[_,_,_,_,.own 45 2 QC.pair (.slice aO ((aG ++ [((⟨f.rule,o.take f.ids.length,o.drop f.ids.length⟩ : Qz),(y,z))]).length) aP) (aG ++ [((⟨f.rule,o.take f.ids.length,o.drop f.ids.length⟩ : Qz),(y,z))])]) (fun _ _=>Z) (fun aO aP=>(Q2J 1 Z (H':=V4 ..) Z (Qx (d:=25) (v':=.slice aO ((q ++ [(⟨f.rule,o.take f.ids.length,o.drop f.ids.length⟩ : Qz)]).length) aP) (S':=V7 ..) Z Z (by rw [Q2t aF]) (Q1r 3 (φ':=.own 45 2 QC.pair (.slice aO ((q ++ [(⟨f.rule,o.take f.ids.length,o.drop f.ids.length⟩ : Qz)]).length) aP) (aG ++ [((⟨f.rule,o.take f.ids.length,o.drop f.ids.length⟩ : Qz),(y,z))])) Z (by rw [Q2t aF]) (H':=V4 ..) Z (Q1S [2,0,1,3] Z (H':=V4 ..) Z (Q1t [Q1w QC (aG ++ [((⟨f.rule,o.take f.ids.length,o.drop f.ids.length⟩ : Qz),(y,z))]) none,_,_] (fun _ h=>QU.bagPush (T:=QC) (x:=(⟨f.rule,o.take f.ids.length,o.drop f.ids.length⟩ : Qz)) (r:=(y,z)) (zs:=aG) (H:=V3 ..) h 0 Z) (Q1t [_,Q1e QC 45 2 (.slice aO ((q ++ [(⟨f.rule,o.take f.ids.length,o.drop f.ids.length⟩ : Qz)]).length) aP) (q ++ [(⟨f.rule,o.take f.ids.length,o.drop f.ids.length⟩ : Qz)])] (fun _ h=>h.treeIn 2 0 Z Z Z aF) (QM (S':=V7 ..) Z Z Z Z Z (Q2 (Qi (Q4 (Q5 [3,4,0] (S':=V3 ..) Z (Q3 (wP Z ?_))))))))))))))
 refine wP Z ?_
 obtain ⟨bF,hm⟩:=Qd hm
 refine Qx (d:=16) (v':=.int .i64 ((aE + 1:Nat):Int)) (S':=V4 ..) Z Z (Q1f (a:=aE) (b:=1) bF) (QM (S':=V4 ..) Z Z Z Z Z (Q2 ?_))
 have hE:=(Zi hm).symm
 replace hE:=Q11 hLu1 hE
 refine Q17 [1] Z (H':=[_]) Z ?_
 refine Q14 (_,aE + 1,(q ++ [(⟨f.rule,o.take f.ids.length,o.drop f.ids.length⟩ : Qz)]),aO,aP,((q ++ [(⟨f.rule,o.take f.ids.length,o.drop f.ids.length⟩ : Qz)]).length)) (Nat.lt_succ_self _) hE [4,3,0] Z (asK [3] Z) Z
 replace hm:=Q1l hm aS
 refine Q5 [3,0] (S':=[_,_]) Z (Q19 (Qc (Qc (Qu ?_))))
 have hE:=(Zi hm).symm
 replace hE:=QE hLu1 hE
 refine Qp (q,a8,a9,aA) hE [3,0] Z (asK [0] Z) Z
 rintro ⟨a3,a4,a5,a6⟩ hE
 try dsimp only
 have hm:=hLj_1
 try rw [hE] at hm
 refine Q6 ?_
 obtain ⟨b3,hm,hLj_2⟩:=Q7 hm
 refine Q15 (σ:=(List Qz) × OA × Nat × Nat) (fun (a7,a0,a1,a2)=>b3 = a7) (fun (a7,a0,a1,a2)=>[(3,.slice a0 a2 a1),(0,.slice aJ l0.length aK)]) (fun (a7,a0,a1,a2)=>[.sli 2 Q8 aJ aK l0]) (fun (a7,a0,a1,a2)=>[Q1e QC 45 2 (.slice a0 a2 a1) a7]) ?_ ?_
 refine Q6 (Q3 (wP Z (Q2 (Q4 (Qn (Q1b (σ:=Nat × Nat × (List Qz) × OA × Nat × Nat) (fun (aN,j,s,aB,aC,aD)=>Q1B (Q5e N) aN (j,s) = some b3) (fun (aN,j,s,aB,aC,aD)=>aN) (fun (aN,j,s,aB,aC,aD)=>[(6,.int .i64 ((j:Nat):Int)),(3,.slice aB aD aC),(0,.slice aJ l0.length aK)]) (fun (aN,j,s,aB,aC,aD)=>[.sli 2 Q8 aJ aK l0]) (fun (aN,j,s,aB,aC,aD)=>[Q1e QC 45 2 (.slice aB aD aC) s]) (N,0,a3,a4,a5,a6) hm [6,3,0] Z (asK [0] Z) Z (fun s_ hm=>?_)))))))
 obtain ⟨aN,j,s,aB,aC,aD⟩:=s_
 try dsimp only at hm ⊢
 obtain ⟨c0,c1,bG,hq,hLu2⟩:=Q18 hm
 clear hm
 subst bG
 replace hm:=hq
 clear hq
 unfold Q5e at hm
 try dsimp only at hm
 refine Q6 (Q6 (Q3 (wP Z (wP Z (Qx (d:=27) (v':=.bool (decide (j < 12))) (S':=V4 ..) Z Z (Q20 (a:=j) (b:=12)) (Q2 (Q4 (Q5 [27,6,3,0] (S':=V4 ..) Z ?_))))))))
 refine Qv Z (fun aW=>?_) (fun aW=>?_)
 replace hm:=Q1m hm aW
 refine Q5 [6,3,0] (S':=V3 ..) Z (Qt (Q4 (Q6 (Qn (Q3 (wP Z (wP Z ?_)))))))
 obtain ⟨_,bH,hm⟩:=Q7 hm
 try dsimp only at hm
 refine wC [] [0] Z fn_49 Z (Q3E N 1 ((j:Nat):Int) bH) (asK [] Z) Z (H':=[_]) Z ?_
 rintro _ _ _ ⟨rfl,rfl,rfl⟩
 refine Qq Z Z Z Zq Z QG Qg Q1X Z (zs:=[.int .i64 0,V1]) (by kernel_rfl) Z (out:=[_,_]) Z (fun c2=>(Q1J 1 Z (fun b5 _=>?_)))
 subst b5
 refine Q6D 3 1 Qh (Q1r 0 (φ':=.own 3 1 Qh (.slice none ((([] : List Int) ++ []).length) 0) (([] : List Int) ++ [])) Z Z (H':=V3 ..) Z (Q39 2 Z (fun aH aX=>?_)))
 obtain ⟨bI,hm⟩:=Qd hm
 have aF:List.map (fun x:Qz × (OA × Nat)=>x.1) (aH ++ [((⟨(IntKind.wrap .i64 ((IntKind.wrap .i64 (1000003 * (IntKind.wrap .i64 (1 + 7)))) + ((j:Nat):Int))),([] : List Int),[]⟩ : Qz),(none,0))]) = s ++ [(⟨(IntKind.wrap .i64 ((IntKind.wrap .i64 (1000003 * (IntKind.wrap .i64 (1 + 7)))) + ((j:Nat):Int))),([] : List Int),[]⟩ : Qz)]:=Q8D aX (us:=[(⟨(IntKind.wrap .i64 ((IntKind.wrap .i64 (1000003 * (IntKind.wrap .i64 (1 + 7)))) + ((j:Nat):Int))),([] : List Int),[]⟩ : Qz)]) rfl
 have aY:aH.length + ([((⟨(IntKind.wrap .i64 ((IntKind.wrap .i64 (1000003 * (IntKind.wrap .i64 (1 + 7)))) + ((j:Nat):Int))),([] : List Int),[]⟩ : Qz),(none,0))] : List (Qz × (OA × Nat))).length ≤ 4398046511104:=by rw [Q2t aX]; exact bI
 refine Q21 (R:=QC.pair) ([((⟨(IntKind.wrap .i64 ((IntKind.wrap .i64 (1000003 * (IntKind.wrap .i64 (1 + 7)))) + ((j:Nat):Int))),([] : List Int),[]⟩ : Qz),(none,0))]) 3 2 Z Z Z Zq Z Z Z Z Z (fun F w hφ=>⟨[.int .i64 (IntKind.wrap .i64 ((IntKind.wrap .i64 (1000003 * (IntKind.wrap .i64 (1 + 7)))) + ((j:Nat):Int))),V1],[],Z,Z,Z,Z⟩) QG Q8i Z Z (Nat.le_trans aY (by decide)) (Nat.le_trans (Nat.mul_le_mul_right _ aY) (by decide)) (H2:=fun aQ aR=>[_,_,_,.own 45 2 QC.pair (.slice aQ ((aH ++ [((⟨(IntKind.wrap .i64 ((IntKind.wrap .i64 (1000003 * (IntKind.wrap .i64 (1 + 7)))) + ((j:Nat):Int))),([] : List Int),[]⟩ : Qz),(none,0))]).length) aR) (aH ++ [((⟨(IntKind.wrap .i64 ((IntKind.wrap .i64 (1000003 * (IntKind.wrap .i64 (1 + 7)))) + ((j:Nat):Int))),([] : List Int),[]⟩ : Qz),(none,0))])]) (fun _ _=>Z) (fun aQ aR=>(Q2J 2 Z (H':=V3 ..) Z (Qx (d:=34) (v':=.slice aQ ((s ++ [(⟨(IntKind.wrap .i64 ((IntKind.wrap .i64 (1000003 * (IntKind.wrap .i64 (1 + 7)))) + ((j:Nat):Int))),([] : List Int),[]⟩ : Qz)]).length) aR) (S':=V7 ..) Z Z (by rw [Q2t aF]) (Q1r 2 (φ':=.own 45 2 QC.pair (.slice aQ ((s ++ [(⟨(IntKind.wrap .i64 ((IntKind.wrap .i64 (1000003 * (IntKind.wrap .i64 (1 + 7)))) + ((j:Nat):Int))),([] : List Int),[]⟩ : Qz)]).length) aR) (aH ++ [((⟨(IntKind.wrap .i64 ((IntKind.wrap .i64 (1000003 * (IntKind.wrap .i64 (1 + 7)))) + ((j:Nat):Int))),([] : List Int),[]⟩ : Qz),(none,0))])) Z (by rw [Q2t aF]) (H':=V3 ..) Z (Q1S [1,0,2] Z (H':=V3 ..) Z (Q1t [Q1w QC (aH ++ [((⟨(IntKind.wrap .i64 ((IntKind.wrap .i64 (1000003 * (IntKind.wrap .i64 (1 + 7)))) + ((j:Nat):Int))),([] : List Int),[]⟩ : Qz),(none,0))]) none,_] (fun _ h=>QU.bagPush (T:=QC) (x:=(⟨(IntKind.wrap .i64 ((IntKind.wrap .i64 (1000003 * (IntKind.wrap .i64 (1 + 7)))) + ((j:Nat):Int))),([] : List Int),[]⟩ : Qz)) (r:=(none,0)) (zs:=aH) (H:=[_,_]) h 0 Z) (Q1t [Q1e QC 45 2 (.slice aQ ((s ++ [(⟨(IntKind.wrap .i64 ((IntKind.wrap .i64 (1000003 * (IntKind.wrap .i64 (1 + 7)))) + ((j:Nat):Int))),([] : List Int),[]⟩ : Qz)]).length) aR) (s ++ [(⟨(IntKind.wrap .i64 ((IntKind.wrap .i64 (1000003 * (IntKind.wrap .i64 (1 + 7)))) + ((j:Nat):Int))),([] : List Int),[]⟩ : Qz)])] (fun _ h=>h.treeIn 1 0 Z Z Z aF) (QM (S':=V7 ..) Z Z Z Z Z (Q2 (Qi (Q4 (Q5 [3,6,0] (S':=V3 ..) Z (Q3 (wP Z ?_))))))))))))))
 refine wP Z ?_
 obtain ⟨bJ,hm⟩:=Qd hm
 refine Qx (d:=29) (v':=.int .i64 ((j + 1:Nat):Int)) (S':=V4 ..) Z Z (Q1f (a:=j) (b:=1) bJ) (QM (S':=V4 ..) Z Z Z Z Z (Q2 ?_))
 have hE:=(Zi hm).symm
 replace hE:=Q11 hLu2 hE
 refine Q14 (_,j + 1,(s ++ [(⟨(IntKind.wrap .i64 ((IntKind.wrap .i64 (1000003 * (IntKind.wrap .i64 (1 + 7)))) + ((j:Nat):Int))),([] : List Int),[]⟩ : Qz)]),aQ,aR,((s ++ [(⟨(IntKind.wrap .i64 ((IntKind.wrap .i64 (1000003 * (IntKind.wrap .i64 (1 + 7)))) + ((j:Nat):Int))),([] : List Int),[]⟩ : Qz)]).length)) (Nat.lt_succ_self _) hE [6,3,0] Z (asK [0] Z) Z
 replace hm:=Q1l hm aW
 refine Q5 [3,0] (S':=[_,_]) Z (Q19 (Qc (Qc (Qu ?_))))
 have hE:=(Zi hm).symm
 replace hE:=QE hLu2 hE
 refine Qp (s,aB,aC,aD) hE [3,0] Z (asK [0] Z) Z
 rintro ⟨a7,a0,a1,a2⟩ hE
 try dsimp only
 have hm:=hLj_2
 try rw [hE] at hm
 refine Q6 (Q3 (wP Z (wP Z (wN Z QG ?_))))
 obtain ⟨bK,hm⟩:=Qd hm
 refine Q39 0 Z (fun bL aZ=>?_)
 have b6:l0.length ≤ bL.length:=by rw [Q2t aZ]; exact bK
 refine Q9t 1 Z (fun b7 b0=>(Q82 Z Z Z Zq Z Z Z Z QG Qg (Nat.le_trans b6 (by rw [← b0.2]; exact b0.1)) b7 (wP Z (Q2 (Q4 (Q5 [2] (S':=[_]) Z (QJ ?_)))))))
 have hE:=(Zi hm).symm
 replace hE:=hE.symm
 subst hE
 refine Q6J [Q1e QC 45 2 (.slice a0 a2 a1) a7] (fun _ h=>h.treeIn 1 0 Z Z Z aZ) ?_
 refine QA (Hr:=[_]) [0] Tryz.results27 (Qy Z) ⟨a0,a1,a2,Z,Z,Z⟩ (asK [] Z) Z Z (.inl Z)
end Go.Proofs.YtgangmegcejllaaGreatDoor
