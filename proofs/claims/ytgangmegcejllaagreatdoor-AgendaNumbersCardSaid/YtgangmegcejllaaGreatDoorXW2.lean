import Derived.Test.YtgangmegcejllaaGreatDoorXW1
namespace Go.Proofs.YtgangmegcejllaaGreatDoor
open Go.RowKit
set_option maxRecDepth 100000
set_option maxHeartbeats 4000000
theorem Q7X (N:Nat) (z:OA) (a6:Nat) (a0:Nat) (l0:List Q1) (y:Int) (a2:Int) (a3:Addr) (a4:Nat) (a5:Nat) (l3:List Int) (o0:List Q1) (hm:Q3Y N l0 y a2 l3 = some o0):Q1z Tryz.prog 149 [.slice z a6 a0,.int .i64 y,.int .i64 a2,.func (.func 41) #[.slice (some a3) a4 a5] #[]] [tF] [.own 45 2 Q8 (.slice z a6 a0) l0,.own 3 1 Qh (.slice (some a3) a4 a5) l3] (fun v Φr Hr=>v = .tuple #[] ∧ Φr = [] ∧ Hr = [.own 45 2 Q8 (.slice z a6 a0) o0,.own 3 1 Qh (.slice (some a3) a4 a5) l3]):=by
 unfold Q3Y at hm
 refine Q12 Tryz.func149 Z Tryz.ntmps149 Z (S:=V4 ..) Z (fun C=>(Q6 (Q3 (wP Z (wP Z (Q2 (Q4 (Q5 [8,0,1,2,3] (S':=V5 ..) Z (Q6 (Q3 (wP Z (Q2 (Q4 (Q6 ?_))))))))))))))
 refine Q3 (wP Z (wP Z (wP Z ?_)))
 obtain ⟨aP,hm⟩:=Qd hm
 refine Qx (d:=16) (v':=.int .i64 (a2 - y)) (S':=V8 ..) Z Z (i64_in aP) (wP Z (Q2 (Q4 (Q5 [10,9,8,0,3] (S':=V5 ..) Z (Q6 ?_)))))
 obtain ⟨aM,hm,hLj_1⟩:=Q7 hm
 refine Q15 (σ:=List Q1) (fun q=>aM = q) (fun q=>[(10,.int .i64 (a2 - y)),(9,.int .i64 0),(8,.int .i64 y),(0,.slice z a6 a0),(3,.func (.func 41) #[.slice (some a3) a4 a5] #[])]) (fun q=>[tF]) (fun q=>[.own 45 2 Q8 (.slice z a6 a0) q,.own 3 1 Qh (.slice (some a3) a4 a5) l3]) ?_ ?_
 refine Q6 (Q3 (wP Z (wP Z ?_)))
 obtain ⟨aQ,hm⟩:=Qd hm
 refine Qx (d:=18) (v':=.int .i64 ((a2 - y) - 1)) (S':=V6 ..) Z Z (i64_in aQ) (Q4l Z Z Z Zq Z Z Z (Q95 (by decide)) (wP Z (Q2 (Q4 (Q5 [11,10,9,8,0,3] (S':=V6 ..) Z (Qn (Q1b (σ:=Nat × Int × (List Q1)) (fun (aB,s,j)=>Q1B (Q3G N a2 y l3) aB (s,j) = some aM) (fun (aB,s,j)=>aB) (fun (aB,s,j)=>[(11,.int .i64 s),(10,.int .i64 (a2 - y)),(9,.int .i64 0),(8,.int .i64 y),(0,.slice z a6 a0),(3,.func (.func 41) #[.slice (some a3) a4 a5] #[])]) (fun (aB,s,j)=>[tF]) (fun (aB,s,j)=>[.own 45 2 Q8 (.slice z a6 a0) j,.own 3 1 Qh (.slice (some a3) a4 a5) l3]) (N,IntKind.wrap .i64 (Int.tdiv ((a2 - y) - 1) 2),l0) hm [11,10,9,8,0,3] Z (asK [0] Z) Z (fun s_ hm=>?_))))))))
 obtain ⟨aB,s,j⟩:=s_
 try dsimp only at hm ⊢
 obtain ⟨b7,b8,aR,hq,hLu1⟩:=Q18 hm
 clear hm
 subst aR
 replace hm:=hq
 clear hq
 unfold Q3G at hm
 try dsimp only at hm
 refine Q6 (Q6 (Q3 (wP Z (wP Z (Q2 (Q4 (Q5 [21,11,10,9,8,0,3] (S':=V7 ..) Z ?_)))))))
 refine Qv Z (fun aI=>?_) (fun aI=>?_)
 replace hm:=Q1m hm aI
 refine Q5 [11,10,9,8,0,3] (S':=V6 ..) Z (Qt (Q4 (Q6 (Qn (Q3 (wP Z (wP Z (wP Z (wP Z (wP Z (QQ 0 Z (fun aC _=>?_))))))))))))
 subst aC
 obtain ⟨b5,aS,hm⟩:=Q7 hm
 refine wC [0,1] [] Z fn_173 Z (Q5s N z j.length a0 j s (a2 - y) y a3 a4 a5 l3 _ aS) (asK [0] Z) Z (H':=[]) Z ?_
 rintro _ _ _ ⟨rfl,rfl,rfl⟩
 refine Q2 (Qi (Q4 (Q5 [11,10,9,8,0,3] (S':=V6 ..) Z (Q3 (wP Z (wP Z ?_))))))
 obtain ⟨aT,hm⟩:=Qd hm
 refine Qx (d:=23) (v':=.int .i64 (s - 1)) (S':=V7 ..) Z Z (i64_in aT) (QM (S':=V7 ..) Z Z Z Z Z (Q2 ?_))
 have hE:=(Zi hm).symm
 replace hE:=Q11 hLu1 hE
 refine Q14 (_,s - 1,b5) (Nat.lt_succ_self _) hE [11,10,9,8,0,3] Z (asK [0] Z) Z
 replace hm:=Q1l hm aI
 refine Q5 [10,9,8,0,3] (S':=V5 ..) Z (Q19 (Qc (Qc (Qu ?_))))
 have hE:=(Zi hm).symm
 replace hE:=QE hLu1 hE
 refine Qp j hE [10,9,8,0,3] Z (asK [0] Z) Z
 rintro q hE
 try dsimp only
 have hm:=hLj_1
 try rw [hE] at hm
 refine Q6 (Q3 (wP Z (wP Z ?_)))
 obtain ⟨aU,hm⟩:=Qd hm
 refine Qx (d:=31) (v':=.int .i64 ((a2 - y) - 1)) (S':=V6 ..) Z Z (i64_in aU) (wP Z (Q2 (Q4 (Q5 [12,9,8,0,3] (S':=V5 ..) Z (Qn (Q1b (σ:=Nat × Int × (List Q1)) (fun (aD,f,o)=>Q1B (Q3H N y l3) aD (f,o) = some o0) (fun (aD,f,o)=>aD) (fun (aD,f,o)=>[(12,.int .i64 f),(9,.int .i64 0),(8,.int .i64 y),(0,.slice z a6 a0),(3,.func (.func 41) #[.slice (some a3) a4 a5] #[])]) (fun (aD,f,o)=>[tF]) (fun (aD,f,o)=>[.own 45 2 Q8 (.slice z a6 a0) o,.own 3 1 Qh (.slice (some a3) a4 a5) l3]) (N,(a2 - y) - 1,q) hm [12,9,8,0,3] Z (asK [0] Z) Z (fun s_ hm=>?_)))))))
 obtain ⟨aD,f,o⟩:=s_
 try dsimp only at hm ⊢
 obtain ⟨b9,bA,aV,hq,hLu2⟩:=Q18 hm
 clear hm
 subst aV
 replace hm:=hq
 clear hq
 unfold Q3H at hm
 try dsimp only at hm
 refine Q6 (Q6 (Q3 (wP Z (wP Z (Q2 (Q4 (Q5 [33,12,9,8,0,3] (S':=V6 ..) Z ?_)))))))
 refine Qv Z (fun aJ=>?_) (fun aJ=>?_)
 replace hm:=Q1m hm aJ
 refine Q5 [12,9,8,0,3] (S':=V5 ..) Z (Qt (Q4 (Q6 (Qn (Q6 ?_)))))
 obtain ⟨aW,hm⟩:=Qd hm
 obtain ⟨aX,hm⟩:=Qd hm
 obtain ⟨aY,hm⟩:=Qd hm
 obtain ⟨a9,aK,hm⟩:=Q7 hm
 obtain ⟨aZ,hm⟩:=Qd hm
 obtain ⟨aA,aL,hm⟩:=Q7 hm
 obtain ⟨aN,hm⟩:=Qd hm
 obtain ⟨bB,aE,hm⟩:=Q7 hm
 obtain ⟨aO,hm⟩:=Qd hm
 obtain ⟨bC,aF,hm⟩:=Q7 hm
 refine Q15 (σ:=Unit) (fun _=>True) (fun _=>[(12,.int .i64 f),(9,.int .i64 0),(8,.int .i64 y),(0,.slice z a6 a0),(3,.func (.func 41) #[.slice (some a3) a4 a5] #[])]) (fun _=>[tF]) (fun _=>[.own 45 2 Q8 (.slice z a6 a0) ((o.set y.toNat a9).set ((y + f).toNat) aA),.own 3 1 Qh (.slice (some a3) a4 a5) l3]) ?_ ?_
 refine QV [0,1,2,3,4,5,6,7,8,9,10,12,13,14,16,18] Z Z (fun hok=>(xP hok 0 Z (xP hok 1 Z (xP hok 2 Z (xP hok 3 Z (xP hok 4 Z (xP hok 5 Z (Q1g (d:=41) (v':=.int .i64 (y + f)) (S':=V10 ..) Z Z (i64_in aW) (xP hok 6 Z (xP hok 7 Z (xP hok 8 Z (xP hok 9 Z (Q1g (d:=45) (v':=.int .i64 (y + f)) (S':=V14 ..) Z Z (i64_in aX) (Q1C hok 10 0 ((y + f).toNat) Z Z Z Zq Z Z Z Z Z (QK aY) (QB aK) QG Qg (fun bD b0=>?_)))))))))))))))
 subst b0
 refine xP hok 12 Z (xP hok 13 Z (QS hok 14 0 y.toNat Z Z Z Zq Z Z Z Z Z (QK aZ) (QB aL) QG Qg ?_))
 refine Q1v hok 11 15 Z Z Z Z Z Z ?_ ?_
 refine Qk Qb 0 ((y + f).toNat) 0 Z Z Z Zq Z Z Z aK Qg QT (v:=fun a7=>.agg #[.int .i64 (a9.rule),.slice a7.1 a9.ids.length a7.2]) (fun _=>Z) (fun _=>Z) (fun a7 _=>(Q2 (Qs [1] [] Z Z (xS hok 15 Z (Qk Qb 0 y.toNat 0 Z Z Z Zq Z Z Z aL Qg QT (v:=fun a8=>.agg #[.int .i64 (aA.rule),.slice a8.1 aA.ids.length a8.2]) (fun _=>Z) (fun _=>Z) (fun a8 _=>(Q2 (Qs [1,2] [] Z Z (QS hok 16 0 y.toNat Z Z Z Zq Z Z Z Z Z (QK aN) (QB aE) QG Qg (xS hok 17 Z (Q10 (u:=a9) 0 y.toNat Z Z Z Z Z (QB aE) Z Z Qg Z (fun F w hφ=>⟨(a7.1,a7.2),Z,(Qe (hφ _ (Qo (k:=1) Z)) Ql)⟩) (H':=[_,_]) Z (Q2 (Qs [0,1,2] [] Z Z (QS hok 18 0 ((y + f).toNat) Z Z Z Zq Z Z Z Z Z (QK aO) (QB aF) QG Qg (xS hok 19 Z ?_)))))))))))))))
 refine Q10 (u:=aA) 0 ((y + f).toNat) Z Z Z Z Z (QB aF) Z Z Qg Z (fun F w hφ=>⟨(a8.1,a8.2),Z,(Qe (hφ _ (Qo (k:=0) Z)) Ql)⟩) (H':=[_,_]) Z (Q2 (Qs [0,1,2] [] Z Z (QI hok Z ?_)))
 refine Qp () trivial [12,9,8,0,3] Z (asK [2] Z) Z
 refine Qk Qb 0 y.toNat 0 Z Z Z Zq Z Z Z aL Qg QT (v:=fun a8=>.agg #[.int .i64 (aA.rule),.slice a8.1 aA.ids.length a8.2]) (fun _=>Z) (fun _=>Z) (fun a8 _=>(Q2 (Qs [1] [] Z Z (xS hok 11 Z (Qk Qb 0 ((y + f).toNat) 0 Z Z Z Zq Z Z Z aK Qg QT (v:=fun a7=>.agg #[.int .i64 (a9.rule),.slice a7.1 a9.ids.length a7.2]) (fun _=>Z) (fun _=>Z) (fun a7 _=>(Q2 (Qs [1,2] [] Z Z (QS hok 16 0 y.toNat Z Z Z Zq Z Z Z Z Z (QK aN) (QB aE) QG Qg (xS hok 17 Z (Q10 (u:=a9) 0 y.toNat Z Z Z Z Z (QB aE) Z Z Qg Z (fun F w hφ=>⟨(a7.1,a7.2),Z,(Qe (hφ _ (Qo (k:=0) Z)) Ql)⟩) (H':=[_,_]) Z (Q2 (Qs [0,1,2] [] Z Z (QS hok 18 0 ((y + f).toNat) Z Z Z Zq Z Z Z Z Z (QK aO) (QB aF) QG Qg (xS hok 19 Z ?_)))))))))))))))
 refine Q10 (u:=aA) 0 ((y + f).toNat) Z Z Z Z Z (QB aF) Z Z Qg Z (fun F w hφ=>⟨(a8.1,a8.2),Z,(Qe (hφ _ (Qo (k:=1) Z)) Ql)⟩) (H':=[_,_]) Z (Q2 (Qs [0,1,2] [] Z Z (QI hok Z ?_)))
 refine Qp () trivial [12,9,8,0,3] Z (asK [2] Z) Z
 rintro _ _
 try dsimp only
 refine Q3 (wP Z (wP Z (wP Z (wP Z (wP Z (QQ 0 Z (fun aC _=>?_)))))))
 subst aC
 obtain ⟨b6,b1,hm⟩:=Q7 hm
 refine wC [0,1] [] Z fn_173 Z (Q5s N z (((o.set y.toNat a9).set ((y + f).toNat) aA).length) a0 ((o.set y.toNat a9).set ((y + f).toNat) aA) 0 f y a3 a4 a5 l3 _ b1) (asK [0] Z) Z (H':=[]) Z ?_
 rintro _ _ _ ⟨rfl,rfl,rfl⟩
 refine Q2 (Qi (Q4 (Q5 [12,9,8,0,3] (S':=V5 ..) Z (Q3 (wP Z (wP Z ?_))))))
 obtain ⟨b2,hm⟩:=Qd hm
 refine Qx (d:=35) (v':=.int .i64 (f - 1)) (S':=V6 ..) Z Z (i64_in b2) (QM (S':=V6 ..) Z Z Z Z Z (Q2 ?_))
 have hE:=(Zi hm).symm
 replace hE:=Q11 hLu2 hE
 refine Q14 (_,f - 1,b6) (Nat.lt_succ_self _) hE [12,9,8,0,3] Z (asK [0] Z) Z
 replace hm:=Q1l hm aJ
 refine Q5 [] (S':=[]) Z (Q19 (Qc (Qc (Qu ?_))))
 have hE:=(Zi hm).symm
 replace hE:=QE hLu2 hE
 replace hE:=hE.symm
 subst hE
 refine Q4R (Hr:=[_,_]) [0,1] Tryz.results149 ⟨Z,Z,Z⟩ (asK [] Z) Z Z (.inr Z)
theorem Q7l (N:Nat) (a0:OA) (a3:Nat) (a4:Nat) (l0:List Q1) (a1:Int) (a2:Int) (a8:Addr) (a9:Nat) (aA:Nat) (l3:List Int) (o0:List Q1) (hm:Q3y N l0 a1 a2 l3 = some o0):Q1z Tryz.prog 152 [.slice a0 a3 a4,.int .i64 a1,.int .i64 a2,.func (.func 41) #[.slice (some a8) a9 aA] #[]] [tF] [.own 45 2 Q8 (.slice a0 a3 a4) l0,.own 3 1 Qh (.slice (some a8) a9 aA) l3] (fun v Φr Hr=>v = .tuple #[] ∧ Φr = [] ∧ Hr = [.own 45 2 Q8 (.slice a0 a3 a4) o0,.own 3 1 Qh (.slice (some a8) a9 aA) l3]):=by
 unfold Q3y at hm
 refine Q12 Tryz.func152 Z Tryz.ntmps152 Z (S:=V4 ..) Z (fun C=>(Q6 (Q3 (wP Z (wP Z (Q2 (Q4 (Q5 [8,0,2] (S':=V3 ..) Z (Q6 (Q3 (wP Z (wP Z ?_))))))))))))
 obtain ⟨aH,hm⟩:=Qd hm
 refine Qx (d:=12) (v':=.int .i64 (a2 - 1)) (S':=V4 ..) Z Z (i64_in aH) (wP Z (Q2 (Q4 (Q5 [9,8,0] (S':=V3 ..) Z (Qn (Q1b (σ:=Nat × Int × Int × (List Q1)) (fun (a5,f,j,o)=>Q1B (Q38 N) a5 (f,j,o) = some o0) (fun (a5,f,j,o)=>a5) (fun (a5,f,j,o)=>[(9,.int .i64 f),(8,.int .i64 j),(0,.slice a0 a3 a4)]) (fun (a5,f,j,o)=>[tF]) (fun (a5,f,j,o)=>[.own 45 2 Q8 (.slice a0 a3 a4) o,.own 3 1 Qh (.slice (some a8) a9 aA) l3]) (N,a2 - 1,a1,l0) hm [9,8,0] Z (asK [0] Z) Z (fun s_ hm=>?_)))))))
 obtain ⟨a5,f,j,o⟩:=s_
 try dsimp only at hm ⊢
 obtain ⟨aS,aT,aI,hq,hLu1⟩:=Q18 hm
 clear hm
 subst aI
 replace hm:=hq
 clear hq
 unfold Q38 at hm
 try dsimp only at hm
 refine Q6 (Q6 (Q3 (wP Z (wP Z (wP Z (Q2 (Q4 (Q5 [15,9,8,0] (S':=V4 ..) Z ?_))))))))
 refine Qv Z (fun aB=>?_) (fun aB=>?_)
 replace hm:=Q1m hm aB
 refine Q5 [9,8,0] (S':=V3 ..) Z (Qt (Q4 (Qn (Q6 ?_))))
 obtain ⟨aJ,hm⟩:=Qd hm
 obtain ⟨y,aC,hm⟩:=Q7 hm
 obtain ⟨aK,hm⟩:=Qd hm
 obtain ⟨z,aD,hm⟩:=Q7 hm
 obtain ⟨aE,hm⟩:=Qd hm
 obtain ⟨aU,a6,hm⟩:=Q7 hm
 obtain ⟨aF,hm⟩:=Qd hm
 obtain ⟨aV,a7,hm⟩:=Q7 hm
 refine Q15 (σ:=Unit) (fun _=>True) (fun _=>[(9,.int .i64 f),(8,.int .i64 j),(0,.slice a0 a3 a4)]) (fun _=>[tF]) (fun _=>[.own 45 2 Q8 (.slice a0 a3 a4) ((o.set j.toNat y).set f.toNat z),.own 3 1 Qh (.slice (some a8) a9 aA) l3]) ?_ ?_
 refine QV [0,1,2,3,4,5,6,8,9,10,12,14] Z Z (fun hok=>(xP hok 0 Z (xP hok 1 Z (xP hok 2 Z (xP hok 3 Z (xP hok 4 Z (xP hok 5 Z (Q1C hok 6 0 f.toNat Z Z Z Zq Z Z Z Z Z (QK aJ) (QB aC) QG Qg (fun aW aL=>?_)))))))))
 subst aL
 refine xP hok 8 Z (xP hok 9 Z (QS hok 10 0 j.toNat Z Z Z Zq Z Z Z Z Z (QK aK) (QB aD) QG Qg ?_))
 refine Q1v hok 7 11 Z Z Z Z Z Z ?_ ?_
 refine Qk Qb 0 f.toNat 0 Z Z Z Zq Z Z Z aC Qg QT (v:=fun q=>.agg #[.int .i64 (y.rule),.slice q.1 y.ids.length q.2]) (fun _=>Z) (fun _=>Z) (fun q _=>(Q2 (Qs [1] [] Z Z (xS hok 11 Z (Qk Qb 0 j.toNat 0 Z Z Z Zq Z Z Z aD Qg QT (v:=fun s=>.agg #[.int .i64 (z.rule),.slice s.1 z.ids.length s.2]) (fun _=>Z) (fun _=>Z) (fun s _=>(Q2 (Qs [1,2] [] Z Z (QS hok 12 0 j.toNat Z Z Z Zq Z Z Z Z Z (QK aE) (QB a6) QG Qg (xS hok 13 Z (Q10 (u:=y) 0 j.toNat Z Z Z Z Z (QB a6) Z Z Qg Z (fun F w hφ=>⟨(q.1,q.2),Z,(Qe (hφ _ (Qo (k:=1) Z)) Ql)⟩) (H':=[_,_]) Z (Q2 (Qs [0,1,2] [] Z Z (QS hok 14 0 f.toNat Z Z Z Zq Z Z Z Z Z (QK aF) (QB a7) QG Qg (xS hok 15 Z ?_)))))))))))))))
 refine Q10 (u:=z) 0 f.toNat Z Z Z Z Z (QB a7) Z Z Qg Z (fun F w hφ=>⟨(s.1,s.2),Z,(Qe (hφ _ (Qo (k:=0) Z)) Ql)⟩) (H':=[_,_]) Z (Q2 (Qs [0,1,2] [] Z Z (QI hok Z ?_)))
 refine Qp () trivial [9,8,0] Z (asK [2] Z) Z
 refine Qk Qb 0 j.toNat 0 Z Z Z Zq Z Z Z aD Qg QT (v:=fun s=>.agg #[.int .i64 (z.rule),.slice s.1 z.ids.length s.2]) (fun _=>Z) (fun _=>Z) (fun s _=>(Q2 (Qs [1] [] Z Z (xS hok 7 Z (Qk Qb 0 f.toNat 0 Z Z Z Zq Z Z Z aC Qg QT (v:=fun q=>.agg #[.int .i64 (y.rule),.slice q.1 y.ids.length q.2]) (fun _=>Z) (fun _=>Z) (fun q _=>(Q2 (Qs [1,2] [] Z Z (QS hok 12 0 j.toNat Z Z Z Zq Z Z Z Z Z (QK aE) (QB a6) QG Qg (xS hok 13 Z (Q10 (u:=y) 0 j.toNat Z Z Z Z Z (QB a6) Z Z Qg Z (fun F w hφ=>⟨(q.1,q.2),Z,(Qe (hφ _ (Qo (k:=0) Z)) Ql)⟩) (H':=[_,_]) Z (Q2 (Qs [0,1,2] [] Z Z (QS hok 14 0 f.toNat Z Z Z Zq Z Z Z Z Z (QK aF) (QB a7) QG Qg (xS hok 15 Z ?_)))))))))))))))
 refine Q10 (u:=z) 0 f.toNat Z Z Z Z Z (QB a7) Z Z Qg Z (fun F w hφ=>⟨(s.1,s.2),Z,(Qe (hφ _ (Qo (k:=1) Z)) Ql)⟩) (H':=[_,_]) Z (Q2 (Qs [0,1,2] [] Z Z (QI hok Z ?_)))
 refine Qp () trivial [9,8,0] Z (asK [2] Z) Z
 rintro _ _
 try dsimp only
 refine Q6 (Q3 (wP Z (wP Z ?_)))
 obtain ⟨aM,hm⟩:=Qd hm
 refine Qx (d:=31) (v':=.int .i64 (j + 1)) (S':=V4 ..) Z Z (i64_in aM) (QM (S':=V4 ..) Z Z Z Z Z (Q2 (Q4 (Q5 [8,9,0] (S':=V3 ..) Z (Q3 (wP Z (wP Z ?_)))))))
 obtain ⟨aN,hm⟩:=Qd hm
 refine Qx (d:=33) (v':=.int .i64 (f - 1)) (S':=V4 ..) Z Z (i64_in aN) (QM (S':=V4 ..) Z Z Z Z Z (Q2 (Qi ?_)))
 have hE:=(Zi hm).symm
 replace hE:=Q11 hLu1 hE
 refine Q14 (_,f - 1,j + 1,(o.set j.toNat y).set f.toNat z) (Nat.lt_succ_self _) hE [9,8,0] Z (asK [0] Z) Z
 replace hm:=Q1l hm aB
 refine Q5 [] (S':=[]) Z (Q19 (Qc (Qc (Qu ?_))))
 have hE:=(Zi hm).symm
 replace hE:=QE hLu1 hE
 replace hE:=hE.symm
 subst hE
 refine Q4R (Hr:=[_,_]) [0,1] Tryz.results152 ⟨Z,Z,Z⟩ (asK [] Z) Z Z (.inr Z)
theorem Q62 (N:Nat) (a6:OA) (a7:Nat) (a8:Nat) (l0:List Q1) (a1:Int) (a2:Int) (y:Addr) (z:Nat) (a0:Nat) (l3:List Int) (o0:Bool) (o1:List Q1) (hm:Q2z N l0 a1 a2 l3 = some (o0,o1)):Q1z Tryz.prog 153 [.slice a6 a7 a8,.int .i64 a1,.int .i64 a2,.func (.func 41) #[.slice (some y) z a0] #[]] [tF] [.own 45 2 Q8 (.slice a6 a7 a8) l0,.own 3 1 Qh (.slice (some y) z a0) l3] (fun v Φr Hr=>v = .bool o0 ∧ Φr = [] ∧ Hr = [.own 45 2 Q8 (.slice a6 a7 a8) o1,.own 3 1 Qh (.slice (some y) z a0) l3]):=by
 unfold Q2z at hm
 refine Q12 Tryz.func153 Z Tryz.ntmps153 Z (S:=V4 ..) Z (fun C=>(Q6 (Q3 (wP Z (Q2 (Q4 (Q5 [0,1,2,3] (S':=V4 ..) Z (Q6 (Q3 (wP Z (wP Z ?_)))))))))))
 obtain ⟨cS,hm⟩:=Qd hm
 refine Qx (d:=14) (v':=.int .i64 (a1 + 1)) (S':=V5 ..) Z Z (i64_in cS) (wP Z (Q2 (Q4 (Q5 [9,0,1,2,3] (S':=V5 ..) Z (Q6 ?_)))))
 obtain ⟨c7,hm,hLj_1⟩:=Q1R hm
 refine Q15 (σ:=List Q1) (fun aA=>c7 = .inl aA) (fun aA=>[]) (fun aA=>[tF]) (fun aA=>[.own 45 2 Q8 (.slice a6 a7 a8) aA,.own 3 1 Qh (.slice (some y) z a0) l3]) ?_ ?_
 refine Q6 (Q3 (wP Z (Q2 (Q4 (Qn (Q1b (σ:=Nat × Nat × Int × (List Q1)) (fun (b7,q,aO,s)=>Q1B (Q2n N a2 l3 a1) b7 (q,aO,s) = some c7) (fun (b7,q,aO,s)=>b7) (fun (b7,q,aO,s)=>[(10,.int .i64 ((q:Nat):Int)),(9,.int .i64 aO),(0,.slice a6 a7 a8),(1,.int .i64 a1),(2,.int .i64 a2),(3,.func (.func 41) #[.slice (some y) z a0] #[])]) (fun (b7,q,aO,s)=>[tF]) (fun (b7,q,aO,s)=>[.own 45 2 Q8 (.slice a6 a7 a8) s,.own 3 1 Qh (.slice (some y) z a0) l3]) (N,0,a1 + 1,l0) hm [10,9,0,1,2,3] Z (asK [0] Z) Z (fun s_ hm=>?_)))))))
 obtain ⟨b7,q,aO,s⟩:=s_
 try dsimp only at hm ⊢
 obtain ⟨dX,dY,cT,hq,hLu1⟩:=Q18 hm
 clear hm
 subst cT
 replace hm:=hq
 clear hq
 unfold Q2n at hm
 try dsimp only at hm
 refine Q6 (Q6 (Q3 (wP Z (wP Z (Qx (d:=16) (v':=.bool (decide (q < 5))) (S':=V7 ..) Z Z (Q20 (a:=q) (b:=5)) (Q2 (Q4 (Q5 [16,10,9,0,1,2,3] (S':=V7 ..) Z ?_))))))))
 refine Qv Z (fun bN=>?_) (fun bN=>?_)
 replace hm:=Q1m hm bN
 refine Q5 [10,9,0,1,2,3] (S':=V6 ..) Z (Qt (Q4 (Q6 ?_)))
 obtain ⟨c8,hm,hLj_2⟩:=Q1R hm
 unfold Q3C at hm
 refine Q15 (σ:=Int × (List Q1)) (fun (aJ,aB)=>c8 = .inl (aJ,aB)) (fun (aJ,aB)=>[(10,.int .i64 ((q:Nat):Int)),(9,.int .i64 aJ),(0,.slice a6 a7 a8),(1,.int .i64 a1),(2,.int .i64 a2),(3,.func (.func 41) #[.slice (some y) z a0] #[])]) (fun (aJ,aB)=>[tF]) (fun (aJ,aB)=>[.own 45 2 Q8 (.slice a6 a7 a8) aB,.own 3 1 Qh (.slice (some y) z a0) l3]) ?_ ?_
 refine Qn (Q6 ?_)
 obtain ⟨c9,hm,hLj_3⟩:=Q7 hm
 refine Q15 (σ:=Int) (fun f=>c9 = f) (fun f=>[(10,.int .i64 ((q:Nat):Int)),(9,.int .i64 f),(0,.slice a6 a7 a8),(1,.int .i64 a1),(2,.int .i64 a2),(3,.func (.func 41) #[.slice (some y) z a0] #[])]) (fun f=>[tF]) (fun f=>[.own 45 2 Q8 (.slice a6 a7 a8) s,.own 3 1 Qh (.slice (some y) z a0) l3]) ?_ ?_
 refine Qn (Q1b (σ:=Nat × Int) (fun (b8,a5)=>Q1B (Q2o N a2 s l3) b8 a5 = some c9) (fun (b8,a5)=>b8) (fun (b8,a5)=>[(10,.int .i64 ((q:Nat):Int)),(9,.int .i64 a5),(0,.slice a6 a7 a8),(1,.int .i64 a1),(2,.int .i64 a2),(3,.func (.func 41) #[.slice (some y) z a0] #[])]) (fun (b8,a5)=>[tF]) (fun (b8,a5)=>[.own 45 2 Q8 (.slice a6 a7 a8) s,.own 3 1 Qh (.slice (some y) z a0) l3]) (N,aO) hm [10,9,0,1,2,3] Z (asK [0] Z) Z (fun s_ hm=>?_))
 obtain ⟨b8,a5⟩:=s_
 try dsimp only at hm ⊢
 obtain ⟨dZ,e0,cU,hq,hLu2⟩:=Q18 hm
 clear hm
 subst cU
 replace hm:=hq
 clear hq
 unfold Q2o at hm
 try dsimp only at hm
 refine Q6 (Q6 ?_)
 obtain ⟨cV,hm,hLj_4⟩:=Q7 hm
 unfold Q3D at hm
 refine Q15 (σ:=Bool) (fun aI=>cV = aI) (fun aI=>[(10,.int .i64 ((q:Nat):Int)),(9,.int .i64 a5),(0,.slice a6 a7 a8),(1,.int .i64 a1),(2,.int .i64 a2),(3,.func (.func 41) #[.slice (some y) z a0] #[]),(36,.bool aI)]) (fun aI=>[tF]) (fun aI=>[.own 45 2 Q8 (.slice a6 a7 a8) s,.own 3 1 Qh (.slice (some y) z a0) l3]) ?_ ?_
 rcases Q2k hm with ⟨bO,hm⟩ | ⟨bO,hm⟩
 ·
  obtain ⟨cW,hm⟩:=Qd hm
  obtain ⟨aQ,bP,hm⟩:=Q7 hm
  obtain ⟨cX,hm⟩:=Qd hm
  obtain ⟨cY,hm⟩:=Qd hm
  obtain ⟨aR,bQ,hm⟩:=Q7 hm
  obtain ⟨dO,cA,hm⟩:=Q7 hm
  refine QV [0,1,2,3,4,5,6,7,9,10,11,12,15,16,17] Z Z (fun hok=>(xP hok 0 Z (xP hok 1 Z (xP hok 2 Z (xP hok 3 Z (Q1g (d:=22) (v':=.bool true) (S':=V9 ..) Z Z (Q16 bO) (xP hok 4 Z (xP hok 5 Z (xP hok 6 Z (Q1C hok 7 0 a5.toNat Z Z Z Zq Z Z Z Z Z (QK cW) (QB bP) QG Qg (fun e1 cZ=>?_)))))))))))
  subst cZ
  refine xP hok 9 Z (xP hok 10 Z (xP hok 11 Z (Q1g (d:=30) (v':=.int .i64 (a5 - 1)) (S':=V16 ..) Z Z (i64_in cX) (QS hok 12 0 ((a5 - 1).toNat) Z Z Z Zq Z Z Z Z Z (QK cY) (QB bQ) QG Qg ?_))))
  refine Q1v hok 8 13 Z Z Z Z Z Z ?_ ?_
  rotate_left
  focus
   refine Qk Qb 0 ((a5 - 1).toNat) 0 Z Z Z Zq Z Z Z bQ Qg QT (v:=fun aK=>.agg #[.int .i64 (aR.rule),.slice aK.1 aR.ids.length aK.2]) (fun _=>Z) (fun _=>Z) (fun aK _=>(Q2 (Qs [1] [] Z Z (xS hok 8 Z (Qk Qb 0 a5.toNat 0 Z Z Z Zq Z Z Z bP Qg QT (v:=fun aL=>.agg #[.int .i64 (aQ.rule),.slice aL.1 aQ.ids.length aL.2]) (fun _=>Z) (fun _=>Z) (fun aL _=>(Q2 (Qs [1,2] [] Z Z (xS hok 14 Z (Q1Q (args:=[.slice (some y) z a0,.agg #[.int .i64 (aQ.rule),.slice aL.1 aQ.ids.length aL.2],.agg #[.int .i64 (aR.rule),.slice aK.1 aR.ids.length aK.2]]) [1] [0] Z Z Z Zq Z Z Z Q5o Z Z (QW N y z a0 l3 aQ.rule aL.1 aL.2 aQ.ids aR.rule aK.1 aK.2 aR.ids _ cA) (asK [0,1,2] Z) Z (H':=[_]) Z ?_))))))))))
  rotate_right
  focus
   refine Qk Qb 0 a5.toNat 0 Z Z Z Zq Z Z Z bP Qg QT (v:=fun aL=>.agg #[.int .i64 (aQ.rule),.slice aL.1 aQ.ids.length aL.2]) (fun _=>Z) (fun _=>Z) (fun aL _=>(Q2 (Qs [1] [] Z Z (xS hok 13 Z (Qk Qb 0 ((a5 - 1).toNat) 0 Z Z Z Zq Z Z Z bQ Qg QT (v:=fun aK=>.agg #[.int .i64 (aR.rule),.slice aK.1 aR.ids.length aK.2]) (fun _=>Z) (fun _=>Z) (fun aK _=>(Q2 (Qs [1,2] [] Z Z (xS hok 14 Z (Q1Q (args:=[.slice (some y) z a0,.agg #[.int .i64 (aQ.rule),.slice aL.1 aQ.ids.length aL.2],.agg #[.int .i64 (aR.rule),.slice aK.1 aR.ids.length aK.2]]) [1] [0] Z Z Z Zq Z Z Z Q5o Z Z (QW N y z a0 l3 aQ.rule aL.1 aL.2 aQ.ids aR.rule aK.1 aK.2 aR.ids _ cA) (asK [1,0,2] Z) Z (H':=[_]) Z ?_))))))))))
  all_goals
   rintro _ _ _ ⟨rfl,rfl,rfl⟩
   refine Q2 (Qs [0,1,2] [] Z Z (xP hok 15 Z (xP hok 16 Z (xP hok 17 Z (QI hok Z ?_)))))
   have hE:=(Zi hm).symm
   refine Q17 [1,0] Z (H':=[_,_]) Z ?_
   refine Qp (!(decide (dO < 0))) hE [10,9,0,1,2,3,36] Z (asK [2] Z) Z
 ·
  refine QV [0,1,2,3,4,5,6,7,9,10,11,12,15,16,17] Z Z (fun hok=>(xP hok 0 Z (xP hok 1 Z (xP hok 2 Z (xP hok 3 Z (Q1g (d:=22) (v':=.bool false) (S':=V9 ..) Z Z (Q16 bO) (xO hok 4 Z (xO hok 5 Z (xO hok 6 Z (xO hok 7 Z (xO hok 9 Z (xO hok 10 Z (xO hok 11 Z (xO hok 12 Z ?_))))))))))))))
  refine Q1v hok 8 13 Z Z Z Z Z Z ?_ ?_
  rotate_left
  focus
   refine wO Z (Q2 (Qs [0] [] Z Z (xS hok 8 Z ?_)))
  rotate_right
  focus
   refine wO Z (Q2 (Qs [0] [] Z Z (xS hok 13 Z ?_)))
  all_goals
   refine wO Z (Q2 (Qs [0] [] Z Z (xS hok 14 Z (wO Z (Q2 (Qs [0] [] Z Z (xO hok 15 Z (xO hok 16 Z (xP hok 17 Z (QI hok Z ?_))))))))))
   have hE:=(Zi hm).symm
   refine Qp false hE [10,9,0,1,2,3,36] Z (asK [0] Z) Z
 rintro aI hE
 try dsimp only
 have hm:=hLj_4
 try rw [hE] at hm
 refine Qv Z (fun bR=>?_) (fun bR=>?_)
 replace hm:=Q1m hm bR
 refine Q5 [10,9,0,1,2,3] (S':=V6 ..) Z (Qt (Q4 (Qn (Q3 (wP Z (wP Z ?_))))))
 obtain ⟨d0,hm⟩:=Qd hm
 refine Qx (d:=38) (v':=.int .i64 (a5 + 1)) (S':=V7 ..) Z Z (i64_in d0) (QM (S':=V7 ..) Z Z Z Z Z (Q2 (Qi ?_)))
 have hE:=(Zi hm).symm
 replace hE:=Q11 hLu2 hE
 refine Q14 (_,a5 + 1) (Nat.lt_succ_self _) hE [10,9,0,1,2,3] Z (asK [0] Z) Z
 replace hm:=Q1l hm bR
 refine Q5 [10,9,0,1,2,3] (S':=V6 ..) Z (Q19 (Qc (Qc (Qu ?_))))
 have hE:=(Zi hm).symm
 replace hE:=QE hLu2 hE
 refine Qp a5 hE [10,9,0,1,2,3] Z (asK [0] Z) Z
 rintro f hE
 try dsimp only
 have hm:=hLj_3
 try rw [hE] at hm
 refine Q6 (Q6 (Q3 (wP Z (wP Z (wP Z (Q2 (Q4 (Q5 [41,10,9,0,1,2,3] (S':=V7 ..) Z ?_))))))))
 refine Qv Z (fun bS=>?_) (fun bS=>?_)
 replace hm:=Q1m hm bS
 refine Q5 [] (S':=[]) Z (Q6 (Q3 (wP Z (Q2 (Q4 (QJ (Qj (QR (Qj (Qj (QR (Qj ?_))))))))))))
 have hE:=(Zi hm).symm
 replace hE:=QE hLj_2 hE
 replace hE:=QE hLu1 hE
 replace hE:=QE hLj_1 hE
 obtain ⟨hE0,hE1⟩:=Prod.mk.inj hE
 clear hE
 replace hE0:=hE0.symm
 subst hE0
 replace hE1:=hE1.symm
 subst hE1
 refine QA (Hr:=[_,_]) [0,1] Tryz.results153 (Qy Z) ⟨Z,Z,Z⟩ (asK [] Z) Z Z (.inl Z)
 replace hm:=Q1l hm bS
 refine Q5 [10,9,0,1,2,3] (S':=V6 ..) Z (Qt (Q4 (Q6 (Q6 (Q3 (wP Z (wP Z (wP Z ?_))))))))
 obtain ⟨d1,hm⟩:=Qd hm
 refine Qx (d:=44) (v':=.int .i64 (a2 - a1)) (S':=V8 ..) Z Z (i64_in d1) (wP Z (Q2 (Q4 (Q5 [45,10,9,0,1,2,3] (S':=V7 ..) Z ?_))))
 refine Qv Z (fun bT=>?_) (fun bT=>?_)
 replace hm:=Q1m hm bT
 refine Q5 [] (S':=[]) Z (Q6 (Q3 (wP Z (Q2 (Q4 (QJ (Qj (QR (Qj (Qj (QR (Qj ?_))))))))))))
 have hE:=(Zi hm).symm
 replace hE:=QE hLj_2 hE
 replace hE:=QE hLu1 hE
 replace hE:=QE hLj_1 hE
 obtain ⟨hE0,hE1⟩:=Prod.mk.inj hE
 clear hE
 replace hE0:=hE0.symm
 subst hE0
 replace hE1:=hE1.symm
 subst hE1
 refine QA (Hr:=[_,_]) [0,1] Tryz.results153 (Qy Z) ⟨Z,Z,Z⟩ (asK [] Z) Z Z (.inl Z)
 replace hm:=Q1l hm bT
 refine Q5 [10,9,0,1,2,3] (S':=V6 ..) Z (Qt (Q4 (Q6 ?_)))
 obtain ⟨d2,hm⟩:=Qd hm
 obtain ⟨d3,hm⟩:=Qd hm
 obtain ⟨d4,hm⟩:=Qd hm
 obtain ⟨b0,bU,hm⟩:=Q7 hm
 obtain ⟨d5,hm⟩:=Qd hm
 obtain ⟨b1,bV,hm⟩:=Q7 hm
 obtain ⟨cB,hm⟩:=Qd hm
 obtain ⟨e2,bK,hm⟩:=Q7 hm
 obtain ⟨cC,hm⟩:=Qd hm
 obtain ⟨e3,bL,hm⟩:=Q7 hm
 refine Q15 (σ:=Unit) (fun _=>True) (fun _=>[(10,.int .i64 ((q:Nat):Int)),(9,.int .i64 f),(0,.slice a6 a7 a8),(1,.int .i64 a1),(2,.int .i64 a2),(3,.func (.func 41) #[.slice (some y) z a0] #[])]) (fun _=>[tF]) (fun _=>[.own 45 2 Q8 (.slice a6 a7 a8) ((s.set f.toNat b0).set ((f - 1).toNat) b1),.own 3 1 Qh (.slice (some y) z a0) l3]) ?_ ?_
 refine QV [0,1,2,3,4,5,6,7,8,10,11,12,14,16] Z Z (fun hok=>(xP hok 0 Z (xP hok 1 Z (xP hok 2 Z (xP hok 3 Z (xP hok 4 Z (Q1g (d:=50) (v':=.int .i64 (f - 1)) (S':=V10 ..) Z Z (i64_in d2) (xP hok 5 Z (xP hok 6 Z (xP hok 7 Z (Q1g (d:=53) (v':=.int .i64 (f - 1)) (S':=V13 ..) Z Z (i64_in d3) (Q1C hok 8 0 ((f - 1).toNat) Z Z Z Zq Z Z Z Z Z (QK d4) (QB bU) QG Qg (fun e4 d6=>?_)))))))))))))
 subst d6
 refine xP hok 10 Z (xP hok 11 Z (QS hok 12 0 f.toNat Z Z Z Zq Z Z Z Z Z (QK d5) (QB bV) QG Qg ?_))
 refine Q1v hok 9 13 Z Z Z Z Z Z ?_ ?_
 refine Qk Qb 0 ((f - 1).toNat) 0 Z Z Z Zq Z Z Z bU Qg QT (v:=fun aU=>.agg #[.int .i64 (b0.rule),.slice aU.1 b0.ids.length aU.2]) (fun _=>Z) (fun _=>Z) (fun aU _=>(Q2 (Qs [1] [] Z Z (xS hok 13 Z (Qk Qb 0 f.toNat 0 Z Z Z Zq Z Z Z bV Qg QT (v:=fun aV=>.agg #[.int .i64 (b1.rule),.slice aV.1 b1.ids.length aV.2]) (fun _=>Z) (fun _=>Z) (fun aV _=>(Q2 (Qs [1,2] [] Z Z (QS hok 14 0 f.toNat Z Z Z Zq Z Z Z Z Z (QK cB) (QB bK) QG Qg (xS hok 15 Z (Q10 (u:=b0) 0 f.toNat Z Z Z Z Z (QB bK) Z Z Qg Z (fun F w hφ=>⟨(aU.1,aU.2),Z,(Qe (hφ _ (Qo (k:=1) Z)) Ql)⟩) (H':=[_,_]) Z (Q2 (Qs [0,1,2] [] Z Z (QS hok 16 0 ((f - 1).toNat) Z Z Z Zq Z Z Z Z Z (QK cC) (QB bL) QG Qg (xS hok 17 Z ?_)))))))))))))))
 refine Q10 (u:=b1) 0 ((f - 1).toNat) Z Z Z Z Z (QB bL) Z Z Qg Z (fun F w hφ=>⟨(aV.1,aV.2),Z,(Qe (hφ _ (Qo (k:=0) Z)) Ql)⟩) (H':=[_,_]) Z (Q2 (Qs [0,1,2] [] Z Z (QI hok Z ?_)))
 refine Qp () trivial [10,9,0,1,2,3] Z (asK [2] Z) Z
 refine Qk Qb 0 f.toNat 0 Z Z Z Zq Z Z Z bV Qg QT (v:=fun aV=>.agg #[.int .i64 (b1.rule),.slice aV.1 b1.ids.length aV.2]) (fun _=>Z) (fun _=>Z) (fun aV _=>(Q2 (Qs [1] [] Z Z (xS hok 9 Z (Qk Qb 0 ((f - 1).toNat) 0 Z Z Z Zq Z Z Z bU Qg QT (v:=fun aU=>.agg #[.int .i64 (b0.rule),.slice aU.1 b0.ids.length aU.2]) (fun _=>Z) (fun _=>Z) (fun aU _=>(Q2 (Qs [1,2] [] Z Z (QS hok 14 0 f.toNat Z Z Z Zq Z Z Z Z Z (QK cB) (QB bK) QG Qg (xS hok 15 Z (Q10 (u:=b0) 0 f.toNat Z Z Z Z Z (QB bK) Z Z Qg Z (fun F w hφ=>⟨(aU.1,aU.2),Z,(Qe (hφ _ (Qo (k:=0) Z)) Ql)⟩) (H':=[_,_]) Z (Q2 (Qs [0,1,2] [] Z Z (QS hok 16 0 ((f - 1).toNat) Z Z Z Zq Z Z Z Z Z (QK cC) (QB bL) QG Qg (xS hok 17 Z ?_)))))))))))))))
 refine Q10 (u:=b1) 0 ((f - 1).toNat) Z Z Z Z Z (QB bL) Z Z Qg Z (fun F w hφ=>⟨(aV.1,aV.2),Z,(Qe (hφ _ (Qo (k:=1) Z)) Ql)⟩) (H':=[_,_]) Z (Q2 (Qs [0,1,2] [] Z Z (QI hok Z ?_)))
 refine Qp () trivial [10,9,0,1,2,3] Z (asK [2] Z) Z
 rintro _ _
 try dsimp only
 refine Q6 ?_
 obtain ⟨cD,hm,hLj_6⟩:=Q7 hm
 refine Q15 (σ:=List Q1) (fun a9=>cD = a9) (fun a9=>[(10,.int .i64 ((q:Nat):Int)),(9,.int .i64 f),(0,.slice a6 a7 a8),(1,.int .i64 a1),(2,.int .i64 a2),(3,.func (.func 41) #[.slice (some y) z a0] #[])]) (fun a9=>[tF]) (fun a9=>[.own 45 2 Q8 (.slice a6 a7 a8) a9,.own 3 1 Qh (.slice (some y) z a0) l3]) ?_ ?_
 refine Q6 (Q3 (wP Z (wP Z (wP Z ?_))))
 obtain ⟨d7,hm⟩:=Qd hm
 refine Qx (d:=64) (v':=.int .i64 (f - a1)) (S':=V8 ..) Z Z (i64_in d7) (wP Z (Q2 (Q4 (Q5 [65,10,9,0,1,2,3] (S':=V7 ..) Z ?_))))
 refine Qv Z (fun bW=>?_) (fun bW=>?_)
 replace hm:=Q1m hm bW
 refine Q5 [10,9,0,1,2,3] (S':=V6 ..) Z (Q6 (Q3 (wP Z (wP Z ?_))))
 obtain ⟨d8,hm⟩:=Qd hm
 refine Qx (d:=67) (v':=.int .i64 (f - 1)) (S':=V7 ..) Z Z (i64_in d8) (wP Z (Q2 (Q4 (Q5 [11,10,9,0,1,2,3] (S':=V7 ..) Z (Qn (Q1b (σ:=Nat × Int × (List Q1)) (fun (b9,j,a3)=>Q1B (Q2p N l3) b9 (j,a3) = some cD) (fun (b9,j,a3)=>b9) (fun (b9,j,a3)=>[(11,.int .i64 j),(10,.int .i64 ((q:Nat):Int)),(9,.int .i64 f),(0,.slice a6 a7 a8),(1,.int .i64 a1),(2,.int .i64 a2),(3,.func (.func 41) #[.slice (some y) z a0] #[])]) (fun (b9,j,a3)=>[tF]) (fun (b9,j,a3)=>[.own 45 2 Q8 (.slice a6 a7 a8) a3,.own 3 1 Qh (.slice (some y) z a0) l3]) (N,f - 1,(s.set f.toNat b0).set ((f - 1).toNat) b1) hm [11,10,9,0,1,2,3] Z (asK [0] Z) Z (fun s_ hm=>?_)))))))
 obtain ⟨b9,j,a3⟩:=s_
 try dsimp only at hm ⊢
 obtain ⟨e5,e6,d9,hq,hLu3⟩:=Q18 hm
 clear hm
 subst d9
 replace hm:=hq
 clear hq
 unfold Q2p at hm
 try dsimp only at hm
 refine Q6 (Q6 (Q3 (wP Z (wP Z (Q2 (Q4 (Q5 [69,11,10,9,0,1,2,3] (S':=V8 ..) Z ?_)))))))
 refine Qv Z (fun bX=>?_) (fun bX=>?_)
 replace hm:=Q1m hm bX
 refine Q5 [11,10,9,0,1,2,3] (S':=V7 ..) Z (Qt (Q4 (Q6 (Qn (Q6 (Q6 ?_))))))
 obtain ⟨dA,hm⟩:=Qd hm
 obtain ⟨aS,bY,hm⟩:=Q7 hm
 obtain ⟨dB,hm⟩:=Qd hm
 obtain ⟨dC,hm⟩:=Qd hm
 obtain ⟨aT,bZ,hm⟩:=Q7 hm
 obtain ⟨dP,cE,hm⟩:=Q7 hm
 refine Q15 (σ:=Unit) (fun _=>True) (fun _=>[(84,.bool (!(decide (dP < 0)))),(11,.int .i64 j),(10,.int .i64 ((q:Nat):Int)),(9,.int .i64 f),(0,.slice a6 a7 a8),(1,.int .i64 a1),(2,.int .i64 a2),(3,.func (.func 41) #[.slice (some y) z a0] #[])]) (fun _=>[tF]) (fun _=>[.own 45 2 Q8 (.slice a6 a7 a8) a3,.own 3 1 Qh (.slice (some y) z a0) l3]) ?_ ?_
 ·
  refine QV [0,1,2,3,5,6,7,8,11,12] Z Z (fun hok=>(xP hok 0 Z (xP hok 1 Z (xP hok 2 Z (Q1C hok 3 0 j.toNat Z Z Z Zq Z Z Z Z Z (QK dA) (QB bY) QG Qg (fun e7 dD=>?_))))))
  subst dD
  refine xP hok 5 Z (xP hok 6 Z (xP hok 7 Z (Q1g (d:=79) (v':=.int .i64 (j - 1)) (S':=V13 ..) Z Z (i64_in dB) (QS hok 8 0 ((j - 1).toNat) Z Z Z Zq Z Z Z Z Z (QK dC) (QB bZ) QG Qg ?_))))
  refine Q1v hok 4 9 Z Z Z Z Z Z ?_ ?_
  rotate_left
  focus
   refine Qk Qb 0 ((j - 1).toNat) 0 Z Z Z Zq Z Z Z bZ Qg QT (v:=fun aM=>.agg #[.int .i64 (aT.rule),.slice aM.1 aT.ids.length aM.2]) (fun _=>Z) (fun _=>Z) (fun aM _=>(Q2 (Qs [1] [] Z Z (xS hok 4 Z (Qk Qb 0 j.toNat 0 Z Z Z Zq Z Z Z bY Qg QT (v:=fun aN=>.agg #[.int .i64 (aS.rule),.slice aN.1 aS.ids.length aN.2]) (fun _=>Z) (fun _=>Z) (fun aN _=>(Q2 (Qs [1,2] [] Z Z (xS hok 10 Z (Q1Q (args:=[.slice (some y) z a0,.agg #[.int .i64 (aS.rule),.slice aN.1 aS.ids.length aN.2],.agg #[.int .i64 (aT.rule),.slice aM.1 aT.ids.length aM.2]]) [1] [0] Z Z Z Zq Z Z Z Q5o Z Z (QW N y z a0 l3 aS.rule aN.1 aN.2 aS.ids aT.rule aM.1 aM.2 aT.ids _ cE) (asK [0,1,2] Z) Z (H':=[_]) Z ?_))))))))))
  rotate_right
  focus
   refine Qk Qb 0 j.toNat 0 Z Z Z Zq Z Z Z bY Qg QT (v:=fun aN=>.agg #[.int .i64 (aS.rule),.slice aN.1 aS.ids.length aN.2]) (fun _=>Z) (fun _=>Z) (fun aN _=>(Q2 (Qs [1] [] Z Z (xS hok 9 Z (Qk Qb 0 ((j - 1).toNat) 0 Z Z Z Zq Z Z Z bZ Qg QT (v:=fun aM=>.agg #[.int .i64 (aT.rule),.slice aM.1 aT.ids.length aM.2]) (fun _=>Z) (fun _=>Z) (fun aM _=>(Q2 (Qs [1,2] [] Z Z (xS hok 10 Z (Q1Q (args:=[.slice (some y) z a0,.agg #[.int .i64 (aS.rule),.slice aN.1 aS.ids.length aN.2],.agg #[.int .i64 (aT.rule),.slice aM.1 aT.ids.length aM.2]]) [1] [0] Z Z Z Zq Z Z Z Q5o Z Z (QW N y z a0 l3 aS.rule aN.1 aN.2 aS.ids aT.rule aM.1 aM.2 aT.ids _ cE) (asK [1,0,2] Z) Z (H':=[_]) Z ?_))))))))))
  all_goals
   rintro _ _ _ ⟨rfl,rfl,rfl⟩
   refine Q2 (Qs [0,1,2] [] Z Z (xP hok 11 Z (xP hok 12 Z (QI hok Z (Q17 [1,0] Z (H':=[_,_]) Z ?_)))))
   refine Qp () trivial [84,11,10,9,0,1,2,3] Z (asK [2] Z) Z
 rintro _ _
 try dsimp only
 refine Qv Z (fun c0=>?_) (fun c0=>?_)
 replace hm:=Q1m hm c0
 refine Q5 [10,9,0,1,2,3] (S':=V6 ..) Z (Q19 (Qc (Q7a (by decide) (Qc (Qc (Qu ?_))))))
 have hE:=(Zi hm).symm
 replace hE:=QE hLu3 hE
 refine Qp a3 hE [10,9,0,1,2,3] Z (asK [0] Z) Z
 ·
  replace hm:=Q1l hm c0
  refine Q5 [11,10,9,0,1,2,3] (S':=V7 ..) Z (Qt (Q4 ?_))
  obtain ⟨dE,hm⟩:=Qd hm
  obtain ⟨dF,hm⟩:=Qd hm
  obtain ⟨dG,hm⟩:=Qd hm
  obtain ⟨bA,c1,hm⟩:=Q7 hm
  obtain ⟨dH,hm⟩:=Qd hm
  obtain ⟨bB,c2,hm⟩:=Q7 hm
  obtain ⟨cF,hm⟩:=Qd hm
  obtain ⟨e8,bM,hm⟩:=Q7 hm
  obtain ⟨c3,hm⟩:=Qd hm
  obtain ⟨dS,b2,hm⟩:=Q7 hm
  refine QV [0,1,2,3,4,5,6,7,8,10,11,12,14,16] Z Z (fun hok=>(xP hok 0 Z (xP hok 1 Z (xP hok 2 Z (xP hok 3 Z (xP hok 4 Z (Q1g (d:=89) (v':=.int .i64 (j - 1)) (S':=V11 ..) Z Z (i64_in dE) (xP hok 5 Z (xP hok 6 Z (xP hok 7 Z (Q1g (d:=92) (v':=.int .i64 (j - 1)) (S':=V14 ..) Z Z (i64_in dF) (Q1C hok 8 0 ((j - 1).toNat) Z Z Z Zq Z Z Z Z Z (QK dG) (QB c1) QG Qg (fun e9 dI=>?_)))))))))))))
  subst dI
  refine xP hok 10 Z (xP hok 11 Z (QS hok 12 0 j.toNat Z Z Z Zq Z Z Z Z Z (QK dH) (QB c2) QG Qg ?_))
  refine Q1v hok 9 13 Z Z Z Z Z Z ?_ ?_
  rotate_left
  focus
   refine Qk Qb 0 j.toNat 0 Z Z Z Zq Z Z Z c2 Qg QT (v:=fun aW=>.agg #[.int .i64 (bB.rule),.slice aW.1 bB.ids.length aW.2]) (fun _=>Z) (fun _=>Z) (fun aW _=>(Q2 (Qs [1] [] Z Z (xS hok 9 Z (Qk Qb 0 ((j - 1).toNat) 0 Z Z Z Zq Z Z Z c1 Qg QT (v:=fun aX=>.agg #[.int .i64 (bA.rule),.slice aX.1 bA.ids.length aX.2]) (fun _=>Z) (fun _=>Z) (fun aX _=>(Q2 (Qs [1,2] [] Z Z (QS hok 14 0 j.toNat Z Z Z Zq Z Z Z Z Z (QK cF) (QB bM) QG Qg (xS hok 15 Z (Q10 (u:=bA) 0 j.toNat Z Z Z Z Z (QB bM) Z Z Qg Z (fun F w hφ=>⟨(aX.1,aX.2),Z,(Qe (hφ _ (Qo (k:=0) Z)) Ql)⟩) (H':=[_,_]) Z (Q2 (Qs [0,1,2] [] Z Z (QS hok 16 0 ((j - 1).toNat) Z Z Z Zq Z Z Z Z Z (QK c3) (QB b2) QG Qg (xS hok 17 Z ?_)))))))))))))))
   refine Q10 (u:=bB) 0 ((j - 1).toNat) Z Z Z Z Z (QB b2) Z Z Qg Z (fun F w hφ=>⟨(aW.1,aW.2),Z,(Qe (hφ _ (Qo (k:=1) Z)) Ql)⟩) (H':=[_,_]) Z ?_
  rotate_right
  focus
   refine Qk Qb 0 ((j - 1).toNat) 0 Z Z Z Zq Z Z Z c1 Qg QT (v:=fun aX=>.agg #[.int .i64 (bA.rule),.slice aX.1 bA.ids.length aX.2]) (fun _=>Z) (fun _=>Z) (fun aX _=>(Q2 (Qs [1] [] Z Z (xS hok 13 Z (Qk Qb 0 j.toNat 0 Z Z Z Zq Z Z Z c2 Qg QT (v:=fun aW=>.agg #[.int .i64 (bB.rule),.slice aW.1 bB.ids.length aW.2]) (fun _=>Z) (fun _=>Z) (fun aW _=>(Q2 (Qs [1,2] [] Z Z (QS hok 14 0 j.toNat Z Z Z Zq Z Z Z Z Z (QK cF) (QB bM) QG Qg (xS hok 15 Z (Q10 (u:=bA) 0 j.toNat Z Z Z Z Z (QB bM) Z Z Qg Z (fun F w hφ=>⟨(aX.1,aX.2),Z,(Qe (hφ _ (Qo (k:=1) Z)) Ql)⟩) (H':=[_,_]) Z (Q2 (Qs [0,1,2] [] Z Z (QS hok 16 0 ((j - 1).toNat) Z Z Z Zq Z Z Z Z Z (QK c3) (QB b2) QG Qg (xS hok 17 Z ?_)))))))))))))))
   refine Q10 (u:=bB) 0 ((j - 1).toNat) Z Z Z Z Z (QB b2) Z Z Qg Z (fun F w hφ=>⟨(aW.1,aW.2),Z,(Qe (hφ _ (Qo (k:=0) Z)) Ql)⟩) (H':=[_,_]) Z ?_
  all_goals
   refine Q2 (Qs [0,1,2] [] Z Z (QI hok Z (Qi (Q4 (Q5 [11,10,9,0,1,2,3] (S':=V7 ..) Z (Q3 (wP Z (wP Z ?_))))))))
   obtain ⟨dJ,hm⟩:=Qd hm
   refine Qx (d:=71) (v':=.int .i64 (j - 1)) (S':=V8 ..) Z Z (i64_in dJ) (QM (S':=V8 ..) Z Z Z Z Z (Q2 ?_))
   have hE:=(Zi hm).symm
   replace hE:=Q11 hLu3 hE
   refine Q14 (_,j - 1,(a3.set j.toNat bA).set ((j - 1).toNat) bB) (Nat.lt_succ_self _) hE [11,10,9,0,1,2,3] Z (asK [2] Z) Z
 replace hm:=Q1l hm bX
 refine Q5 [10,9,0,1,2,3] (S':=V6 ..) Z (Q19 (Qc (Qc (Qu ?_))))
 have hE:=(Zi hm).symm
 replace hE:=QE hLu3 hE
 refine Qp a3 hE [10,9,0,1,2,3] Z (asK [0] Z) Z
 replace hm:=Q1l hm bW
 refine Q5 [10,9,0,1,2,3] (S':=V6 ..) Z (Qt ?_)
 have hE:=(Zi hm).symm
 refine Qp ((s.set f.toNat b0).set ((f - 1).toNat) b1) hE [10,9,0,1,2,3] Z (asK [0] Z) Z
 rintro a9 hE
 try dsimp only
 have hm:=hLj_6
 try rw [hE] at hm
 refine Q6 (Q3 (wP Z (wP Z (wP Z ?_))))
 obtain ⟨cG,hm⟩:=Qd hm
 refine Qx (d:=103) (v':=.int .i64 (a2 - f)) (S':=V8 ..) Z Z (i64_in cG) (wP Z (Q2 (Q4 (Q5 [104,10,9,0,1,2,3] (S':=V7 ..) Z ?_))))
 refine Qv Z (fun bC=>?_) (fun bC=>?_)
 replace hm:=Q1m hm bC
 refine Q5 [10,9,0,1,2,3] (S':=V6 ..) Z (Q6 (Q3 (wP Z (wP Z ?_))))
 obtain ⟨cH,hm⟩:=Qd hm
 refine Qx (d:=106) (v':=.int .i64 (f + 1)) (S':=V7 ..) Z Z (i64_in cH) (wP Z (Q2 (Q4 (Q5 [12,10,9,0,1,2,3] (S':=V7 ..) Z (Qn (Q1b (σ:=Nat × Int × (List Q1)) (fun (bD,o,a4)=>Q1B (Q2q N a2 l3 f) bD (o,a4) = some c8) (fun (bD,o,a4)=>bD) (fun (bD,o,a4)=>[(12,.int .i64 o),(10,.int .i64 ((q:Nat):Int)),(9,.int .i64 f),(0,.slice a6 a7 a8),(1,.int .i64 a1),(2,.int .i64 a2),(3,.func (.func 41) #[.slice (some y) z a0] #[])]) (fun (bD,o,a4)=>[tF]) (fun (bD,o,a4)=>[.own 45 2 Q8 (.slice a6 a7 a8) a4,.own 3 1 Qh (.slice (some y) z a0) l3]) (N,f + 1,a9) hm [12,10,9,0,1,2,3] Z (asK [0] Z) Z (fun s_ hm=>?_)))))))
 obtain ⟨bD,o,a4⟩:=s_
 try dsimp only at hm ⊢
 obtain ⟨eA,eB,dK,hq,hLu4⟩:=Q18 hm
 clear hm
 subst dK
 replace hm:=hq
 clear hq
 unfold Q2q at hm
 try dsimp only at hm
 refine Q6 (Q6 (Q3 (wP Z (wP Z (wP Z (Q2 (Q4 (Q5 [109,12,10,9,0,1,2,3] (S':=V8 ..) Z ?_))))))))
 refine Qv Z (fun bE=>?_) (fun bE=>?_)
 replace hm:=Q1m hm bE
 refine Q5 [12,10,9,0,1,2,3] (S':=V7 ..) Z (Qt (Q4 (Q6 (Qn (Q6 (Q6 ?_))))))
 obtain ⟨cI,hm⟩:=Qd hm
 obtain ⟨aE,bF,hm⟩:=Q7 hm
 obtain ⟨cJ,hm⟩:=Qd hm
 obtain ⟨cK,hm⟩:=Qd hm
 obtain ⟨aF,bG,hm⟩:=Q7 hm
 obtain ⟨dL,c4,hm⟩:=Q7 hm
 refine Q15 (σ:=Unit) (fun _=>True) (fun _=>[(124,.bool (!(decide (dL < 0)))),(12,.int .i64 o),(10,.int .i64 ((q:Nat):Int)),(9,.int .i64 f),(0,.slice a6 a7 a8),(1,.int .i64 a1),(2,.int .i64 a2),(3,.func (.func 41) #[.slice (some y) z a0] #[])]) (fun _=>[tF]) (fun _=>[.own 45 2 Q8 (.slice a6 a7 a8) a4,.own 3 1 Qh (.slice (some y) z a0) l3]) ?_ ?_
 ·
  refine QV [0,1,2,3,5,6,7,8,11,12] Z Z (fun hok=>(xP hok 0 Z (xP hok 1 Z (xP hok 2 Z (Q1C hok 3 0 o.toNat Z Z Z Zq Z Z Z Z Z (QK cI) (QB bF) QG Qg (fun dT cL=>?_))))))
  subst cL
  refine xP hok 5 Z (xP hok 6 Z (xP hok 7 Z (Q1g (d:=119) (v':=.int .i64 (o - 1)) (S':=V13 ..) Z Z (i64_in cJ) (QS hok 8 0 ((o - 1).toNat) Z Z Z Zq Z Z Z Z Z (QK cK) (QB bG) QG Qg ?_))))
  refine Q1v hok 4 9 Z Z Z Z Z Z ?_ ?_
  rotate_left
  focus
   refine Qk Qb 0 ((o - 1).toNat) 0 Z Z Z Zq Z Z Z bG Qg QT (v:=fun aC=>.agg #[.int .i64 (aF.rule),.slice aC.1 aF.ids.length aC.2]) (fun _=>Z) (fun _=>Z) (fun aC _=>(Q2 (Qs [1] [] Z Z (xS hok 4 Z (Qk Qb 0 o.toNat 0 Z Z Z Zq Z Z Z bF Qg QT (v:=fun aD=>.agg #[.int .i64 (aE.rule),.slice aD.1 aE.ids.length aD.2]) (fun _=>Z) (fun _=>Z) (fun aD _=>(Q2 (Qs [1,2] [] Z Z (xS hok 10 Z (Q1Q (args:=[.slice (some y) z a0,.agg #[.int .i64 (aE.rule),.slice aD.1 aE.ids.length aD.2],.agg #[.int .i64 (aF.rule),.slice aC.1 aF.ids.length aC.2]]) [1] [0] Z Z Z Zq Z Z Z Q5o Z Z (QW N y z a0 l3 aE.rule aD.1 aD.2 aE.ids aF.rule aC.1 aC.2 aF.ids _ c4) (asK [0,1,2] Z) Z (H':=[_]) Z ?_))))))))))
  rotate_right
  focus
   refine Qk Qb 0 o.toNat 0 Z Z Z Zq Z Z Z bF Qg QT (v:=fun aD=>.agg #[.int .i64 (aE.rule),.slice aD.1 aE.ids.length aD.2]) (fun _=>Z) (fun _=>Z) (fun aD _=>(Q2 (Qs [1] [] Z Z (xS hok 9 Z (Qk Qb 0 ((o - 1).toNat) 0 Z Z Z Zq Z Z Z bG Qg QT (v:=fun aC=>.agg #[.int .i64 (aF.rule),.slice aC.1 aF.ids.length aC.2]) (fun _=>Z) (fun _=>Z) (fun aC _=>(Q2 (Qs [1,2] [] Z Z (xS hok 10 Z (Q1Q (args:=[.slice (some y) z a0,.agg #[.int .i64 (aE.rule),.slice aD.1 aE.ids.length aD.2],.agg #[.int .i64 (aF.rule),.slice aC.1 aF.ids.length aC.2]]) [1] [0] Z Z Z Zq Z Z Z Q5o Z Z (QW N y z a0 l3 aE.rule aD.1 aD.2 aE.ids aF.rule aC.1 aC.2 aF.ids _ c4) (asK [1,0,2] Z) Z (H':=[_]) Z ?_))))))))))
  all_goals
   rintro _ _ _ ⟨rfl,rfl,rfl⟩
   refine Q2 (Qs [0,1,2] [] Z Z (xP hok 11 Z (xP hok 12 Z (QI hok Z (Q17 [1,0] Z (H':=[_,_]) Z ?_)))))
   refine Qp () trivial [124,12,10,9,0,1,2,3] Z (asK [2] Z) Z
 rintro _ _
 try dsimp only
 refine Qv Z (fun bH=>?_) (fun bH=>?_)
 replace hm:=Q1m hm bH
 refine Q5 [10,9,0,1,2,3] (S':=V6 ..) Z (Q19 (Qc (Q7a (by decide) (Qc (Qc (Qu (Qi ?_)))))))
 have hE:=(Zi hm).symm
 replace hE:=QE hLu4 hE
 refine Qp (f,a4) hE [10,9,0,1,2,3] Z (asK [0] Z) Z
 ·
  replace hm:=Q1l hm bH
  refine Q5 [12,10,9,0,1,2,3] (S':=V7 ..) Z (Qt (Q4 ?_))
  obtain ⟨cM,hm⟩:=Qd hm
  obtain ⟨cN,hm⟩:=Qd hm
  obtain ⟨cO,hm⟩:=Qd hm
  obtain ⟨aY,bI,hm⟩:=Q7 hm
  obtain ⟨cP,hm⟩:=Qd hm
  obtain ⟨aZ,bJ,hm⟩:=Q7 hm
  obtain ⟨c5,hm⟩:=Qd hm
  obtain ⟨dU,b3,hm⟩:=Q7 hm
  obtain ⟨c6,hm⟩:=Qd hm
  obtain ⟨dV,b4,hm⟩:=Q7 hm
  refine QV [0,1,2,3,4,5,6,7,8,10,11,12,14,16] Z Z (fun hok=>(xP hok 0 Z (xP hok 1 Z (xP hok 2 Z (xP hok 3 Z (xP hok 4 Z (Q1g (d:=129) (v':=.int .i64 (o - 1)) (S':=V11 ..) Z Z (i64_in cM) (xP hok 5 Z (xP hok 6 Z (xP hok 7 Z (Q1g (d:=132) (v':=.int .i64 (o - 1)) (S':=V14 ..) Z Z (i64_in cN) (Q1C hok 8 0 ((o - 1).toNat) Z Z Z Zq Z Z Z Z Z (QK cO) (QB bI) QG Qg (fun dW cQ=>?_)))))))))))))
  subst cQ
  refine xP hok 10 Z (xP hok 11 Z (QS hok 12 0 o.toNat Z Z Z Zq Z Z Z Z Z (QK cP) (QB bJ) QG Qg ?_))
  refine Q1v hok 9 13 Z Z Z Z Z Z ?_ ?_
  rotate_left
  focus
   refine Qk Qb 0 o.toNat 0 Z Z Z Zq Z Z Z bJ Qg QT (v:=fun aG=>.agg #[.int .i64 (aZ.rule),.slice aG.1 aZ.ids.length aG.2]) (fun _=>Z) (fun _=>Z) (fun aG _=>(Q2 (Qs [1] [] Z Z (xS hok 9 Z (Qk Qb 0 ((o - 1).toNat) 0 Z Z Z Zq Z Z Z bI Qg QT (v:=fun aH=>.agg #[.int .i64 (aY.rule),.slice aH.1 aY.ids.length aH.2]) (fun _=>Z) (fun _=>Z) (fun aH _=>(Q2 (Qs [1,2] [] Z Z (QS hok 14 0 o.toNat Z Z Z Zq Z Z Z Z Z (QK c5) (QB b3) QG Qg (xS hok 15 Z (Q10 (u:=aY) 0 o.toNat Z Z Z Z Z (QB b3) Z Z Qg Z (fun F w hφ=>⟨(aH.1,aH.2),Z,(Qe (hφ _ (Qo (k:=0) Z)) Ql)⟩) (H':=[_,_]) Z (Q2 (Qs [0,1,2] [] Z Z (QS hok 16 0 ((o - 1).toNat) Z Z Z Zq Z Z Z Z Z (QK c6) (QB b4) QG Qg (xS hok 17 Z ?_)))))))))))))))
   refine Q10 (u:=aZ) 0 ((o - 1).toNat) Z Z Z Z Z (QB b4) Z Z Qg Z (fun F w hφ=>⟨(aG.1,aG.2),Z,(Qe (hφ _ (Qo (k:=1) Z)) Ql)⟩) (H':=[_,_]) Z ?_
  rotate_right
  focus
   refine Qk Qb 0 ((o - 1).toNat) 0 Z Z Z Zq Z Z Z bI Qg QT (v:=fun aH=>.agg #[.int .i64 (aY.rule),.slice aH.1 aY.ids.length aH.2]) (fun _=>Z) (fun _=>Z) (fun aH _=>(Q2 (Qs [1] [] Z Z (xS hok 13 Z (Qk Qb 0 o.toNat 0 Z Z Z Zq Z Z Z bJ Qg QT (v:=fun aG=>.agg #[.int .i64 (aZ.rule),.slice aG.1 aZ.ids.length aG.2]) (fun _=>Z) (fun _=>Z) (fun aG _=>(Q2 (Qs [1,2] [] Z Z (QS hok 14 0 o.toNat Z Z Z Zq Z Z Z Z Z (QK c5) (QB b3) QG Qg (xS hok 15 Z (Q10 (u:=aY) 0 o.toNat Z Z Z Z Z (QB b3) Z Z Qg Z (fun F w hφ=>⟨(aH.1,aH.2),Z,(Qe (hφ _ (Qo (k:=1) Z)) Ql)⟩) (H':=[_,_]) Z (Q2 (Qs [0,1,2] [] Z Z (QS hok 16 0 ((o - 1).toNat) Z Z Z Zq Z Z Z Z Z (QK c6) (QB b4) QG Qg (xS hok 17 Z ?_)))))))))))))))
   refine Q10 (u:=aZ) 0 ((o - 1).toNat) Z Z Z Z Z (QB b4) Z Z Qg Z (fun F w hφ=>⟨(aG.1,aG.2),Z,(Qe (hφ _ (Qo (k:=0) Z)) Ql)⟩) (H':=[_,_]) Z ?_
  all_goals
   refine Q2 (Qs [0,1,2] [] Z Z (QI hok Z (Qi (Q4 (Q5 [12,10,9,0,1,2,3] (S':=V7 ..) Z (Q3 (wP Z (wP Z ?_))))))))
   obtain ⟨cR,hm⟩:=Qd hm
   refine Qx (d:=111) (v':=.int .i64 (o + 1)) (S':=V8 ..) Z Z (i64_in cR) (QM (S':=V8 ..) Z Z Z Z Z (Q2 ?_))
   have hE:=(Zi hm).symm
   replace hE:=Q11 hLu4 hE
   refine Q14 (_,o + 1,(a4.set o.toNat aY).set ((o - 1).toNat) aZ) (Nat.lt_succ_self _) hE [12,10,9,0,1,2,3] Z (asK [2] Z) Z
 replace hm:=Q1l hm bE
 refine Q5 [10,9,0,1,2,3] (S':=V6 ..) Z (Q19 (Qc (Qc (Qu (Qi ?_)))))
 have hE:=(Zi hm).symm
 replace hE:=QE hLu4 hE
 refine Qp (f,a4) hE [10,9,0,1,2,3] Z (asK [0] Z) Z
 replace hm:=Q1l hm bC
 refine Q5 [10,9,0,1,2,3] (S':=V6 ..) Z (Qt (Qi ?_))
 have hE:=(Zi hm).symm
 refine Qp (f,a9) hE [10,9,0,1,2,3] Z (asK [0] Z) Z
 rintro ⟨aJ,aB⟩ hE
 try dsimp only
 have hm:=Q11 hLj_2 hE
 try dsimp only at hm
 refine Q3 (wP Z (wP Z ?_))
 obtain ⟨dM,hm⟩:=Qd hm
 refine Qx (d:=18) (v':=.int .i64 ((q + 1:Nat):Int)) (S':=V7 ..) Z Z (Q1f (a:=q) (b:=1) dM) (QM (S':=V7 ..) Z Z Z Z Z (Q2 ?_))
 have hE:=(Zi hm).symm
 replace hE:=Q11 hLu1 hE
 refine Q14 (_,q + 1,aJ,aB) (Nat.lt_succ_self _) hE [10,9,0,1,2,3] Z (asK [0] Z) Z
 replace hm:=Q1l hm bN
 refine Q5 [] (S':=[]) Z (Q19 (Qc (Qc (Qu ?_))))
 have hE:=(Zi hm).symm
 replace hE:=QE hLu1 hE
 refine Qp s hE [] Z (asK [0] Z) Z
 rintro aA hE
 try dsimp only
 have hm:=Q11 hLj_1 hE
 refine Q6 (Q3 (wP Z (Q2 (Q4 (QJ ?_)))))
 have hE:=(Zi hm).symm
 obtain ⟨hE0,hE1⟩:=Prod.mk.inj hE
 clear hE
 replace hE0:=hE0.symm
 subst hE0
 replace hE1:=hE1.symm
 subst hE1
 refine QA (Hr:=[_,_]) [0,1] Tryz.results153 (Qy Z) ⟨Z,Z,Z⟩ (asK [] Z) Z Z (.inl Z)
theorem Q76 (N:Nat) (a6:OA) (a7:Nat) (a8:Nat) (l0:List Q1) (a1:Int) (a2:Int) (a3:Int) (q:Addr) (s:Nat) (y:Nat) (l4:List Int) (o0:Int) (o1:List Q1) (hm:Q3i N l0 a1 a2 a3 l4 = some (o0,o1)):Q1z Tryz.prog 154 [.slice a6 a7 a8,.int .i64 a1,.int .i64 a2,.int .i64 a3,.func (.func 41) #[.slice (some q) s y] #[]] [tF] [.own 45 2 Q8 (.slice a6 a7 a8) l0,.own 3 1 Qh (.slice (some q) s y) l4] (fun v Φr Hr=>v = .int .i64 o0 ∧ Φr = [] ∧ Hr = [.own 45 2 Q8 (.slice a6 a7 a8) o1,.own 3 1 Qh (.slice (some q) s y) l4]):=by
 unfold Q3i at hm
 refine Q12 Tryz.func154 Z Tryz.ntmps154 Z (S:=V5 ..) Z (fun C=>(Q6 (Q3 (wP Z (Q2 (Q4 (Q5 [0,1,2,3,4] (S':=V5 ..) Z (Q6 ?_))))))))
 obtain ⟨bQ,hm⟩:=Qd hm
 obtain ⟨aR,b3,hm⟩:=Q7 hm
 obtain ⟨bR,hm⟩:=Qd hm
 obtain ⟨aS,b4,hm⟩:=Q7 hm
 obtain ⟨bG,hm⟩:=Qd hm
 obtain ⟨cI,aY,hm⟩:=Q7 hm
 obtain ⟨bH,hm⟩:=Qd hm
 obtain ⟨cJ,aZ,hm⟩:=Q7 hm
 refine Q15 (σ:=Unit) (fun _=>True) (fun _=>[(0,.slice a6 a7 a8),(1,.int .i64 a1),(2,.int .i64 a2),(4,.func (.func 41) #[.slice (some q) s y] #[])]) (fun _=>[tF]) (fun _=>[.own 45 2 Q8 (.slice a6 a7 a8) ((l0.set a1.toNat aR).set a3.toNat aS),.own 3 1 Qh (.slice (some q) s y) l4]) ?_ ?_
 refine QV [0,1,2,3,4,5,6,8,9,10,12,14] Z Z (fun hok=>(xP hok 0 Z (xP hok 1 Z (xP hok 2 Z (xP hok 3 Z (xP hok 4 Z (xP hok 5 Z (Q1C hok 6 0 a3.toNat Z Z Z Zq Z Z Z Z Z (QK bQ) (QB b3) QG Qg (fun cK bS=>?_)))))))))
 subst bS
 refine xP hok 8 Z (xP hok 9 Z (QS hok 10 0 a1.toNat Z Z Z Zq Z Z Z Z Z (QK bR) (QB b4) QG Qg ?_))
 refine Q1v hok 7 11 Z Z Z Z Z Z ?_ ?_
 refine Qk Qb 0 a3.toNat 0 Z Z Z Zq Z Z Z b3 Qg QT (v:=fun aM=>.agg #[.int .i64 (aR.rule),.slice aM.1 aR.ids.length aM.2]) (fun _=>Z) (fun _=>Z) (fun aM _=>(Q2 (Qs [1] [] Z Z (xS hok 11 Z (Qk Qb 0 a1.toNat 0 Z Z Z Zq Z Z Z b4 Qg QT (v:=fun aN=>.agg #[.int .i64 (aS.rule),.slice aN.1 aS.ids.length aN.2]) (fun _=>Z) (fun _=>Z) (fun aN _=>(Q2 (Qs [1,2] [] Z Z (QS hok 12 0 a1.toNat Z Z Z Zq Z Z Z Z Z (QK bG) (QB aY) QG Qg (xS hok 13 Z (Q10 (u:=aR) 0 a1.toNat Z Z Z Z Z (QB aY) Z Z Qg Z (fun F w hφ=>⟨(aM.1,aM.2),Z,(Qe (hφ _ (Qo (k:=1) Z)) Ql)⟩) (H':=[_,_]) Z (Q2 (Qs [0,1,2] [] Z Z (QS hok 14 0 a3.toNat Z Z Z Zq Z Z Z Z Z (QK bH) (QB aZ) QG Qg (xS hok 15 Z ?_)))))))))))))))
 refine Q10 (u:=aS) 0 a3.toNat Z Z Z Z Z (QB aZ) Z Z Qg Z (fun F w hφ=>⟨(aN.1,aN.2),Z,(Qe (hφ _ (Qo (k:=0) Z)) Ql)⟩) (H':=[_,_]) Z (Q2 (Qs [0,1,2] [] Z Z (QI hok Z ?_)))
 refine Qp () trivial [0,1,2,4] Z (asK [2] Z) Z
 refine Qk Qb 0 a1.toNat 0 Z Z Z Zq Z Z Z b4 Qg QT (v:=fun aN=>.agg #[.int .i64 (aS.rule),.slice aN.1 aS.ids.length aN.2]) (fun _=>Z) (fun _=>Z) (fun aN _=>(Q2 (Qs [1] [] Z Z (xS hok 7 Z (Qk Qb 0 a3.toNat 0 Z Z Z Zq Z Z Z b3 Qg QT (v:=fun aM=>.agg #[.int .i64 (aR.rule),.slice aM.1 aR.ids.length aM.2]) (fun _=>Z) (fun _=>Z) (fun aM _=>(Q2 (Qs [1,2] [] Z Z (QS hok 12 0 a1.toNat Z Z Z Zq Z Z Z Z Z (QK bG) (QB aY) QG Qg (xS hok 13 Z (Q10 (u:=aR) 0 a1.toNat Z Z Z Z Z (QB aY) Z Z Qg Z (fun F w hφ=>⟨(aM.1,aM.2),Z,(Qe (hφ _ (Qo (k:=0) Z)) Ql)⟩) (H':=[_,_]) Z (Q2 (Qs [0,1,2] [] Z Z (QS hok 14 0 a3.toNat Z Z Z Zq Z Z Z Z Z (QK bH) (QB aZ) QG Qg (xS hok 15 Z ?_)))))))))))))))
 refine Q10 (u:=aS) 0 a3.toNat Z Z Z Z Z (QB aZ) Z Z Qg Z (fun F w hφ=>⟨(aN.1,aN.2),Z,(Qe (hφ _ (Qo (k:=1) Z)) Ql)⟩) (H':=[_,_]) Z (Q2 (Qs [0,1,2] [] Z Z (QI hok Z ?_)))
 refine Qp () trivial [0,1,2,4] Z (asK [2] Z) Z
 rintro _ _
 try dsimp only
 refine Q6 (Q3 (wP Z (wP Z ?_)))
 obtain ⟨bT,hm⟩:=Qd hm
 refine Qx (d:=28) (v':=.int .i64 (a1 + 1)) (S':=V5 ..) Z Z (i64_in bT) (wP Z (wP Z ?_))
 obtain ⟨bU,hm⟩:=Qd hm
 refine Qx (d:=30) (v':=.int .i64 (a2 - 1)) (S':=V7 ..) Z Z (i64_in bU) (wP Z (wP Z (Q2 (Q4 (Q5 [12,11,0,1,4] (S':=V5 ..) Z (Q6 ?_))))))
 obtain ⟨bI,hm,hLj_2⟩:=Q7 hm
 refine Q15 (σ:=Int × (List Q1)) (fun (aA,a5)=>bI = (aA,a5)) (fun (aA,a5)=>[(11,.int .i64 aA)]) (fun (aA,a5)=>[tF]) (fun (aA,a5)=>[.own 45 2 Q8 (.slice a6 a7 a8) a5,.own 3 1 Qh (.slice (some q) s y) l4]) ?_ ?_
 refine Qn (Q1b (σ:=Nat × Int × Int × (List Q1)) (fun (aV,a4,a9,j)=>Q1B (Q2N N a1 l4) aV (a4,a9,j) = some bI) (fun (aV,a4,a9,j)=>aV) (fun (aV,a4,a9,j)=>[(12,.int .i64 a4),(11,.int .i64 a9),(0,.slice a6 a7 a8),(1,.int .i64 a1),(4,.func (.func 41) #[.slice (some q) s y] #[])]) (fun (aV,a4,a9,j)=>[tF]) (fun (aV,a4,a9,j)=>[.own 45 2 Q8 (.slice a6 a7 a8) j,.own 3 1 Qh (.slice (some q) s y) l4]) (N,a2 - 1,a1 + 1,(l0.set a1.toNat aR).set a3.toNat aS) hm [12,11,0,1,4] Z (asK [0] Z) Z (fun s_ hm=>?_))
 obtain ⟨aV,a4,a9,j⟩:=s_
 try dsimp only at hm ⊢
 obtain ⟨cL,cM,bV,hq,hLu1⟩:=Q18 hm
 clear hm
 subst bV
 replace hm:=hq
 clear hq
 unfold Q2N at hm
 try dsimp only at hm
 refine Qn (Q6 ?_)
 obtain ⟨bJ,hm,hLj_3⟩:=Q7 hm
 refine Q15 (σ:=Int) (fun f=>bJ = f) (fun f=>[(12,.int .i64 a4),(11,.int .i64 f),(0,.slice a6 a7 a8),(1,.int .i64 a1),(4,.func (.func 41) #[.slice (some q) s y] #[])]) (fun f=>[tF]) (fun f=>[.own 45 2 Q8 (.slice a6 a7 a8) j,.own 3 1 Qh (.slice (some q) s y) l4]) ?_ ?_
 refine Qn (Q1b (σ:=Nat × Int) (fun (aW,z)=>Q1B (Q2O N a4 a1 j l4) aW z = some bJ) (fun (aW,z)=>aW) (fun (aW,z)=>[(12,.int .i64 a4),(11,.int .i64 z),(0,.slice a6 a7 a8),(1,.int .i64 a1),(4,.func (.func 41) #[.slice (some q) s y] #[])]) (fun (aW,z)=>[tF]) (fun (aW,z)=>[.own 45 2 Q8 (.slice a6 a7 a8) j,.own 3 1 Qh (.slice (some q) s y) l4]) (N,a9) hm [12,11,0,1,4] Z (asK [0] Z) Z (fun s_ hm=>?_))
 obtain ⟨aW,z⟩:=s_
 try dsimp only at hm ⊢
 obtain ⟨cN,cO,bW,hq,hLu2⟩:=Q18 hm
 clear hm
 subst bW
 replace hm:=hq
 clear hq
 unfold Q2O at hm
 try dsimp only at hm
 refine Q6 (Q6 ?_)
 obtain ⟨bX,hm,hLj_4⟩:=Q7 hm
 unfold Q48 at hm
 refine Q15 (σ:=Bool) (fun aB=>bX = aB) (fun aB=>[(12,.int .i64 a4),(11,.int .i64 z),(0,.slice a6 a7 a8),(1,.int .i64 a1),(4,.func (.func 41) #[.slice (some q) s y] #[]),(47,.bool aB)]) (fun aB=>[tF]) (fun aB=>[.own 45 2 Q8 (.slice a6 a7 a8) j,.own 3 1 Qh (.slice (some q) s y) l4]) ?_ ?_
 rcases Q2k hm with ⟨b5,hm⟩ | ⟨b5,hm⟩
 ·
  obtain ⟨bY,hm⟩:=Qd hm
  obtain ⟨aI,b6,hm⟩:=Q7 hm
  obtain ⟨bZ,hm⟩:=Qd hm
  obtain ⟨aJ,b7,hm⟩:=Q7 hm
  obtain ⟨cE,bK,hm⟩:=Q7 hm
  refine QV [0,1,2,3,4,5,6,7,9,10,11,14,15,16] Z Z (fun hok=>(xP hok 0 Z (xP hok 1 Z (xP hok 2 Z (xP hok 3 Z (Q1g (d:=34) (v':=.bool true) (S':=V8 ..) Z Z (Q16 b5) (xP hok 4 Z (xP hok 5 Z (xP hok 6 Z (Q1C hok 7 0 a1.toNat Z Z Z Zq Z Z Z Z Z (QK bY) (QB b6) QG Qg (fun cP c0=>?_)))))))))))
  subst c0
  refine xP hok 9 Z (xP hok 10 Z (QS hok 11 0 z.toNat Z Z Z Zq Z Z Z Z Z (QK bZ) (QB b7) QG Qg ?_))
  refine Q1v hok 8 12 Z Z Z Z Z Z ?_ ?_
  rotate_left
  focus
   refine Qk Qb 0 z.toNat 0 Z Z Z Zq Z Z Z b7 Qg QT (v:=fun aE=>.agg #[.int .i64 (aJ.rule),.slice aE.1 aJ.ids.length aE.2]) (fun _=>Z) (fun _=>Z) (fun aE _=>(Q2 (Qs [1] [] Z Z (xS hok 8 Z (Qk Qb 0 a1.toNat 0 Z Z Z Zq Z Z Z b6 Qg QT (v:=fun aF=>.agg #[.int .i64 (aI.rule),.slice aF.1 aI.ids.length aF.2]) (fun _=>Z) (fun _=>Z) (fun aF _=>(Q2 (Qs [1,2] [] Z Z (xS hok 13 Z (Q1Q (args:=[.slice (some q) s y,.agg #[.int .i64 (aI.rule),.slice aF.1 aI.ids.length aF.2],.agg #[.int .i64 (aJ.rule),.slice aE.1 aJ.ids.length aE.2]]) [1] [0] Z Z Z Zq Z Z Z Q5o Z Z (QW N q s y l4 aI.rule aF.1 aF.2 aI.ids aJ.rule aE.1 aE.2 aJ.ids _ bK) (asK [0,1,2] Z) Z (H':=[_]) Z ?_))))))))))
  rotate_right
  focus
   refine Qk Qb 0 a1.toNat 0 Z Z Z Zq Z Z Z b6 Qg QT (v:=fun aF=>.agg #[.int .i64 (aI.rule),.slice aF.1 aI.ids.length aF.2]) (fun _=>Z) (fun _=>Z) (fun aF _=>(Q2 (Qs [1] [] Z Z (xS hok 12 Z (Qk Qb 0 z.toNat 0 Z Z Z Zq Z Z Z b7 Qg QT (v:=fun aE=>.agg #[.int .i64 (aJ.rule),.slice aE.1 aJ.ids.length aE.2]) (fun _=>Z) (fun _=>Z) (fun aE _=>(Q2 (Qs [1,2] [] Z Z (xS hok 13 Z (Q1Q (args:=[.slice (some q) s y,.agg #[.int .i64 (aI.rule),.slice aF.1 aI.ids.length aF.2],.agg #[.int .i64 (aJ.rule),.slice aE.1 aJ.ids.length aE.2]]) [1] [0] Z Z Z Zq Z Z Z Q5o Z Z (QW N q s y l4 aI.rule aF.1 aF.2 aI.ids aJ.rule aE.1 aE.2 aJ.ids _ bK) (asK [1,0,2] Z) Z (H':=[_]) Z ?_))))))))))
  all_goals
   rintro _ _ _ ⟨rfl,rfl,rfl⟩
   refine Q2 (Qs [0,1,2] [] Z Z (xP hok 14 Z (xP hok 15 Z (xP hok 16 Z (QI hok Z ?_)))))
   have hE:=(Zi hm).symm
   refine Q17 [1,0] Z (H':=[_,_]) Z ?_
   refine Qp (!(decide (cE < 0))) hE [12,11,0,1,4,47] Z (asK [2] Z) Z
 ·
  refine QV [0,1,2,3,4,5,6,7,9,10,11,14,15,16] Z Z (fun hok=>(xP hok 0 Z (xP hok 1 Z (xP hok 2 Z (xP hok 3 Z (Q1g (d:=34) (v':=.bool false) (S':=V8 ..) Z Z (Q16 b5) (xO hok 4 Z (xO hok 5 Z (xO hok 6 Z (xO hok 7 Z (xO hok 9 Z (xO hok 10 Z (xO hok 11 Z ?_)))))))))))))
  refine Q1v hok 8 12 Z Z Z Z Z Z ?_ ?_
  rotate_left
  focus
   refine wO Z (Q2 (Qs [0] [] Z Z (xS hok 8 Z ?_)))
  rotate_right
  focus
   refine wO Z (Q2 (Qs [0] [] Z Z (xS hok 12 Z ?_)))
  all_goals
   refine wO Z (Q2 (Qs [0] [] Z Z (xS hok 13 Z (wO Z (Q2 (Qs [0] [] Z Z (xO hok 14 Z (xO hok 15 Z (xP hok 16 Z (QI hok Z ?_))))))))))
   have hE:=(Zi hm).symm
   refine Qp false hE [12,11,0,1,4,47] Z (asK [0] Z) Z
 rintro aB hE
 try dsimp only
 have hm:=hLj_4
 try rw [hE] at hm
 refine Qv Z (fun b8=>?_) (fun b8=>?_)
 replace hm:=Q1m hm b8
 refine Q5 [12,11,0,1,4] (S':=V5 ..) Z (Qt (Q4 (Qn (Q3 (wP Z (wP Z ?_))))))
 obtain ⟨c1,hm⟩:=Qd hm
 refine Qx (d:=49) (v':=.int .i64 (z + 1)) (S':=V6 ..) Z Z (i64_in c1) (QM (S':=V6 ..) Z Z Z Z Z (Q2 (Qi ?_)))
 have hE:=(Zi hm).symm
 replace hE:=Q11 hLu2 hE
 refine Q14 (_,z + 1) (Nat.lt_succ_self _) hE [12,11,0,1,4] Z (asK [0] Z) Z
 replace hm:=Q1l hm b8
 refine Q5 [12,11,0,1,4] (S':=V5 ..) Z (Q19 (Qc (Qc (Qu ?_))))
 have hE:=(Zi hm).symm
 replace hE:=QE hLu2 hE
 refine Qp z hE [12,11,0,1,4] Z (asK [0] Z) Z
 rintro f hE
 try dsimp only
 have hm:=hLj_3
 try rw [hE] at hm
 refine Q6 ?_
 obtain ⟨bL,hm,hLj_5⟩:=Q7 hm
 refine Q15 (σ:=Int) (fun o=>bL = o) (fun o=>[(12,.int .i64 o),(11,.int .i64 f),(0,.slice a6 a7 a8),(1,.int .i64 a1),(4,.func (.func 41) #[.slice (some q) s y] #[])]) (fun o=>[tF]) (fun o=>[.own 45 2 Q8 (.slice a6 a7 a8) j,.own 3 1 Qh (.slice (some q) s y) l4]) ?_ ?_
 refine Qn (Q1b (σ:=Nat × Int) (fun (aX,a0)=>Q1B (Q2P N f a1 j l4) aX a0 = some bL) (fun (aX,a0)=>aX) (fun (aX,a0)=>[(12,.int .i64 a0),(11,.int .i64 f),(0,.slice a6 a7 a8),(1,.int .i64 a1),(4,.func (.func 41) #[.slice (some q) s y] #[])]) (fun (aX,a0)=>[tF]) (fun (aX,a0)=>[.own 45 2 Q8 (.slice a6 a7 a8) j,.own 3 1 Qh (.slice (some q) s y) l4]) (N,a4) hm [12,11,0,1,4] Z (asK [0] Z) Z (fun s_ hm=>?_))
 obtain ⟨aX,a0⟩:=s_
 try dsimp only at hm ⊢
 obtain ⟨cQ,cR,c2,hq,hLu3⟩:=Q18 hm
 clear hm
 subst c2
 replace hm:=hq
 clear hq
 unfold Q2P at hm
 try dsimp only at hm
 refine Q6 (Q6 ?_)
 obtain ⟨c3,hm,hLj_6⟩:=Q7 hm
 unfold Q49 at hm
 refine Q15 (σ:=Bool) (fun aC=>c3 = aC) (fun aC=>[(12,.int .i64 a0),(11,.int .i64 f),(0,.slice a6 a7 a8),(1,.int .i64 a1),(4,.func (.func 41) #[.slice (some q) s y] #[]),(65,.bool aC)]) (fun aC=>[tF]) (fun aC=>[.own 45 2 Q8 (.slice a6 a7 a8) j,.own 3 1 Qh (.slice (some q) s y) l4]) ?_ ?_
 rcases Q2k hm with ⟨b9,hm⟩ | ⟨b9,hm⟩
 ·
  obtain ⟨c4,hm⟩:=Qd hm
  obtain ⟨aK,bA,hm⟩:=Q7 hm
  obtain ⟨c5,hm⟩:=Qd hm
  obtain ⟨aL,bB,hm⟩:=Q7 hm
  obtain ⟨cF,bM,hm⟩:=Q7 hm
  refine QV [0,1,2,3,4,5,6,7,9,10,11,14,15] Z Z (fun hok=>(xP hok 0 Z (xP hok 1 Z (xP hok 2 Z (xP hok 3 Z (Q1g (d:=53) (v':=.bool true) (S':=V8 ..) Z Z (Q16 b9) (xP hok 4 Z (xP hok 5 Z (xP hok 6 Z (Q1C hok 7 0 a1.toNat Z Z Z Zq Z Z Z Z Z (QK c4) (QB bA) QG Qg (fun cS c6=>?_)))))))))))
  subst c6
  refine xP hok 9 Z (xP hok 10 Z (QS hok 11 0 a0.toNat Z Z Z Zq Z Z Z Z Z (QK c5) (QB bB) QG Qg ?_))
  refine Q1v hok 8 12 Z Z Z Z Z Z ?_ ?_
  rotate_left
  focus
   refine Qk Qb 0 a0.toNat 0 Z Z Z Zq Z Z Z bB Qg QT (v:=fun aG=>.agg #[.int .i64 (aL.rule),.slice aG.1 aL.ids.length aG.2]) (fun _=>Z) (fun _=>Z) (fun aG _=>(Q2 (Qs [1] [] Z Z (xS hok 8 Z (Qk Qb 0 a1.toNat 0 Z Z Z Zq Z Z Z bA Qg QT (v:=fun aH=>.agg #[.int .i64 (aK.rule),.slice aH.1 aK.ids.length aH.2]) (fun _=>Z) (fun _=>Z) (fun aH _=>(Q2 (Qs [1,2] [] Z Z (xS hok 13 Z (Q1Q (args:=[.slice (some q) s y,.agg #[.int .i64 (aK.rule),.slice aH.1 aK.ids.length aH.2],.agg #[.int .i64 (aL.rule),.slice aG.1 aL.ids.length aG.2]]) [1] [0] Z Z Z Zq Z Z Z Q5o Z Z (QW N q s y l4 aK.rule aH.1 aH.2 aK.ids aL.rule aG.1 aG.2 aL.ids _ bM) (asK [0,1,2] Z) Z (H':=[_]) Z ?_))))))))))
  rotate_right
  focus
   refine Qk Qb 0 a1.toNat 0 Z Z Z Zq Z Z Z bA Qg QT (v:=fun aH=>.agg #[.int .i64 (aK.rule),.slice aH.1 aK.ids.length aH.2]) (fun _=>Z) (fun _=>Z) (fun aH _=>(Q2 (Qs [1] [] Z Z (xS hok 12 Z (Qk Qb 0 a0.toNat 0 Z Z Z Zq Z Z Z bB Qg QT (v:=fun aG=>.agg #[.int .i64 (aL.rule),.slice aG.1 aL.ids.length aG.2]) (fun _=>Z) (fun _=>Z) (fun aG _=>(Q2 (Qs [1,2] [] Z Z (xS hok 13 Z (Q1Q (args:=[.slice (some q) s y,.agg #[.int .i64 (aK.rule),.slice aH.1 aK.ids.length aH.2],.agg #[.int .i64 (aL.rule),.slice aG.1 aL.ids.length aG.2]]) [1] [0] Z Z Z Zq Z Z Z Q5o Z Z (QW N q s y l4 aK.rule aH.1 aH.2 aK.ids aL.rule aG.1 aG.2 aL.ids _ bM) (asK [1,0,2] Z) Z (H':=[_]) Z ?_))))))))))
  all_goals
   rintro _ _ _ ⟨rfl,rfl,rfl⟩
   refine Q2 (Qs [0,1,2] [] Z Z (xP hok 14 Z (xP hok 15 Z (QI hok Z ?_))))
   have hE:=(Zi hm).symm
   refine Q17 [1,0] Z (H':=[_,_]) Z ?_
   refine Qp (decide (cF < 0)) hE [12,11,0,1,4,65] Z (asK [2] Z) Z
 ·
  refine QV [0,1,2,3,4,5,6,7,9,10,11,14,15] Z Z (fun hok=>(xP hok 0 Z (xP hok 1 Z (xP hok 2 Z (xP hok 3 Z (Q1g (d:=53) (v':=.bool false) (S':=V8 ..) Z Z (Q16 b9) (xO hok 4 Z (xO hok 5 Z (xO hok 6 Z (xO hok 7 Z (xO hok 9 Z (xO hok 10 Z (xO hok 11 Z ?_)))))))))))))
  refine Q1v hok 8 12 Z Z Z Z Z Z ?_ ?_
  rotate_left
  focus
   refine wO Z (Q2 (Qs [0] [] Z Z (xS hok 8 Z ?_)))
  rotate_right
  focus
   refine wO Z (Q2 (Qs [0] [] Z Z (xS hok 12 Z ?_)))
  all_goals
   refine wO Z (Q2 (Qs [0] [] Z Z (xS hok 13 Z (wO Z (Q2 (Qs [0] [] Z Z (xO hok 14 Z (xP hok 15 Z (QI hok Z ?_)))))))))
   have hE:=(Zi hm).symm
   refine Qp false hE [12,11,0,1,4,65] Z (asK [0] Z) Z
 rintro aC hE
 try dsimp only
 have hm:=hLj_6
 try rw [hE] at hm
 refine Qv Z (fun bC=>?_) (fun bC=>?_)
 replace hm:=Q1m hm bC
 refine Q5 [12,11,0,1,4] (S':=V5 ..) Z (Qt (Q4 (Qn (Q3 (wP Z (wP Z ?_))))))
 obtain ⟨c7,hm⟩:=Qd hm
 refine Qx (d:=67) (v':=.int .i64 (a0 - 1)) (S':=V6 ..) Z Z (i64_in c7) (QM (S':=V6 ..) Z Z Z Z Z (Q2 (Qi ?_)))
 have hE:=(Zi hm).symm
 replace hE:=Q11 hLu3 hE
 refine Q14 (_,a0 - 1) (Nat.lt_succ_self _) hE [12,11,0,1,4] Z (asK [0] Z) Z
 replace hm:=Q1l hm bC
 refine Q5 [12,11,0,1,4] (S':=V5 ..) Z (Q19 (Qc (Qc (Qu ?_))))
 have hE:=(Zi hm).symm
 replace hE:=QE hLu3 hE
 refine Qp a0 hE [12,11,0,1,4] Z (asK [0] Z) Z
 rintro o hE
 try dsimp only
 have hm:=hLj_5
 try rw [hE] at hm
 refine Q6 (Q6 (Q3 (wP Z (wP Z (wP Z (Q2 (Q4 (Q5 [70,12,11,0,1,4] (S':=V6 ..) Z ?_))))))))
 refine Qv Z (fun bD=>?_) (fun bD=>?_)
 replace hm:=Q1m hm bD
 refine Q5 [11] (S':=[_]) Z (Q19 (Qc (Q7a (by decide) (Qc (Qu ?_)))))
 have hE:=(Zi hm).symm
 replace hE:=QE hLu1 hE
 refine Qp (f,j) hE [11] Z (asK [0] Z) Z
 replace hm:=Q1l hm bD
 refine Q5 [12,11,0,1,4] (S':=V5 ..) Z (Qt (Q4 (Q6 ?_)))
 obtain ⟨c8,hm⟩:=Qd hm
 obtain ⟨aT,bE,hm⟩:=Q7 hm
 obtain ⟨c9,hm⟩:=Qd hm
 obtain ⟨aU,bF,hm⟩:=Q7 hm
 obtain ⟨bN,hm⟩:=Qd hm
 obtain ⟨cT,b0,hm⟩:=Q7 hm
 obtain ⟨bO,hm⟩:=Qd hm
 obtain ⟨cU,b1,hm⟩:=Q7 hm
 refine Q15 (σ:=Unit) (fun _=>True) (fun _=>[(12,.int .i64 o),(11,.int .i64 f),(0,.slice a6 a7 a8),(1,.int .i64 a1),(4,.func (.func 41) #[.slice (some q) s y] #[])]) (fun _=>[tF]) (fun _=>[.own 45 2 Q8 (.slice a6 a7 a8) ((j.set f.toNat aT).set o.toNat aU),.own 3 1 Qh (.slice (some q) s y) l4]) ?_ ?_
 refine QV [0,1,2,3,4,5,6,8,9,10,12,14] Z Z (fun hok=>(xP hok 0 Z (xP hok 1 Z (xP hok 2 Z (xP hok 3 Z (xP hok 4 Z (xP hok 5 Z (Q1C hok 6 0 o.toNat Z Z Z Zq Z Z Z Z Z (QK c8) (QB bE) QG Qg (fun cV cA=>?_)))))))))
 subst cA
 refine xP hok 8 Z (xP hok 9 Z (QS hok 10 0 f.toNat Z Z Z Zq Z Z Z Z Z (QK c9) (QB bF) QG Qg ?_))
 refine Q1v hok 7 11 Z Z Z Z Z Z ?_ ?_
 refine Qk Qb 0 o.toNat 0 Z Z Z Zq Z Z Z bE Qg QT (v:=fun aO=>.agg #[.int .i64 (aT.rule),.slice aO.1 aT.ids.length aO.2]) (fun _=>Z) (fun _=>Z) (fun aO _=>(Q2 (Qs [1] [] Z Z (xS hok 11 Z (Qk Qb 0 f.toNat 0 Z Z Z Zq Z Z Z bF Qg QT (v:=fun aP=>.agg #[.int .i64 (aU.rule),.slice aP.1 aU.ids.length aP.2]) (fun _=>Z) (fun _=>Z) (fun aP _=>(Q2 (Qs [1,2] [] Z Z (QS hok 12 0 f.toNat Z Z Z Zq Z Z Z Z Z (QK bN) (QB b0) QG Qg (xS hok 13 Z (Q10 (u:=aT) 0 f.toNat Z Z Z Z Z (QB b0) Z Z Qg Z (fun F w hφ=>⟨(aO.1,aO.2),Z,(Qe (hφ _ (Qo (k:=1) Z)) Ql)⟩) (H':=[_,_]) Z (Q2 (Qs [0,1,2] [] Z Z (QS hok 14 0 o.toNat Z Z Z Zq Z Z Z Z Z (QK bO) (QB b1) QG Qg (xS hok 15 Z ?_)))))))))))))))
 refine Q10 (u:=aU) 0 o.toNat Z Z Z Z Z (QB b1) Z Z Qg Z (fun F w hφ=>⟨(aP.1,aP.2),Z,(Qe (hφ _ (Qo (k:=0) Z)) Ql)⟩) (H':=[_,_]) Z (Q2 (Qs [0,1,2] [] Z Z (QI hok Z ?_)))
 refine Qp () trivial [12,11,0,1,4] Z (asK [2] Z) Z
 refine Qk Qb 0 f.toNat 0 Z Z Z Zq Z Z Z bF Qg QT (v:=fun aP=>.agg #[.int .i64 (aU.rule),.slice aP.1 aU.ids.length aP.2]) (fun _=>Z) (fun _=>Z) (fun aP _=>(Q2 (Qs [1] [] Z Z (xS hok 7 Z (Qk Qb 0 o.toNat 0 Z Z Z Zq Z Z Z bE Qg QT (v:=fun aO=>.agg #[.int .i64 (aT.rule),.slice aO.1 aT.ids.length aO.2]) (fun _=>Z) (fun _=>Z) (fun aO _=>(Q2 (Qs [1,2] [] Z Z (QS hok 12 0 f.toNat Z Z Z Zq Z Z Z Z Z (QK bN) (QB b0) QG Qg (xS hok 13 Z (Q10 (u:=aT) 0 f.toNat Z Z Z Z Z (QB b0) Z Z Qg Z (fun F w hφ=>⟨(aO.1,aO.2),Z,(Qe (hφ _ (Qo (k:=0) Z)) Ql)⟩) (H':=[_,_]) Z (Q2 (Qs [0,1,2] [] Z Z (QS hok 14 0 o.toNat Z Z Z Zq Z Z Z Z Z (QK bO) (QB b1) QG Qg (xS hok 15 Z ?_)))))))))))))))
 refine Q10 (u:=aU) 0 o.toNat Z Z Z Z Z (QB b1) Z Z Qg Z (fun F w hφ=>⟨(aP.1,aP.2),Z,(Qe (hφ _ (Qo (k:=1) Z)) Ql)⟩) (H':=[_,_]) Z (Q2 (Qs [0,1,2] [] Z Z (QI hok Z ?_)))
 refine Qp () trivial [12,11,0,1,4] Z (asK [2] Z) Z
 rintro _ _
 try dsimp only
 refine Q6 (Q3 (wP Z (wP Z ?_)))
 obtain ⟨cB,hm⟩:=Qd hm
 refine Qx (d:=86) (v':=.int .i64 (f + 1)) (S':=V6 ..) Z Z (i64_in cB) (QM (S':=V6 ..) Z Z Z Z Z (Q2 (Q4 (Q5 [11,12,0,1,4] (S':=V5 ..) Z (Q3 (wP Z (wP Z ?_)))))))
 obtain ⟨cC,hm⟩:=Qd hm
 refine Qx (d:=88) (v':=.int .i64 (o - 1)) (S':=V6 ..) Z Z (i64_in cC) (QM (S':=V6 ..) Z Z Z Z Z (Q2 (Qi ?_)))
 have hE:=(Zi hm).symm
 replace hE:=Q11 hLu1 hE
 refine Q14 (_,o - 1,f + 1,(j.set f.toNat aT).set o.toNat aU) (Nat.lt_succ_self _) hE [12,11,0,1,4] Z (asK [0] Z) Z
 rintro ⟨aA,a5⟩ hE
 try dsimp only
 have hm:=hLj_2
 try rw [hE] at hm
 try dsimp only at hm
 refine Q6 (Q3 (wP Z (wP Z (Q2 (Q4 (Q5 [10] (S':=[_]) Z (QJ ?_)))))))
 have hE:=(Zi hm).symm
 obtain ⟨hE0,hE1⟩:=Prod.mk.inj hE
 clear hE
 replace hE0:=hE0.symm
 subst hE0
 replace hE1:=hE1.symm
 subst hE1
 refine QA (Hr:=[_,_]) [0,1] Tryz.results154 (Qy Z) ⟨Z,Z,Z⟩ (asK [] Z) Z Z (.inl Z)
theorem Q7J (N:Nat) (a4:OA) (a5:Nat) (a6:Nat) (l0:List Q1) (a1:Int) (a2:Int) (a3:Int) (s:Addr) (y:Nat) (z:Nat) (l4:List Int) (o0:Int) (o1:Bool) (o2:List Q1) (hm:Q3Q N l0 a1 a2 a3 l4 = some (o0,o1,o2)):Q1z Tryz.prog 155 [.slice a4 a5 a6,.int .i64 a1,.int .i64 a2,.int .i64 a3,.func (.func 41) #[.slice (some s) y z] #[]] [tF] [.own 45 2 Q8 (.slice a4 a5 a6) l0,.own 3 1 Qh (.slice (some s) y z) l4] (fun v Φr Hr=>v = .tuple #[.int .i64 o0,.bool o1] ∧ Φr = [] ∧ Hr = [.own 45 2 Q8 (.slice a4 a5 a6) o2,.own 3 1 Qh (.slice (some s) y z) l4]):=by
 unfold Q3Q at hm
 refine Q12 Tryz.func155 Z Tryz.ntmps155 Z (S:=V5 ..) Z (fun C=>(Q6 (Q3 (wP Z (wP Z (Q2 (Q4 (Q5 [0,1,2,3,4] (S':=V5 ..) Z (Q6 ?_)))))))))
 obtain ⟨dY,hm⟩:=Qd hm
 obtain ⟨aP,cF,hm⟩:=Q7 hm
 obtain ⟨dZ,hm⟩:=Qd hm
 obtain ⟨aQ,cG,hm⟩:=Q7 hm
 obtain ⟨d3,hm⟩:=Qd hm
 obtain ⟨f4,cA,hm⟩:=Q7 hm
 obtain ⟨d4,hm⟩:=Qd hm
 obtain ⟨f5,cB,hm⟩:=Q7 hm
 refine Q15 (σ:=Unit) (fun _=>True) (fun _=>[(0,.slice a4 a5 a6),(1,.int .i64 a1),(2,.int .i64 a2),(4,.func (.func 41) #[.slice (some s) y z] #[])]) (fun _=>[tF]) (fun _=>[.own 45 2 Q8 (.slice a4 a5 a6) ((l0.set a1.toNat aP).set a3.toNat aQ),.own 3 1 Qh (.slice (some s) y z) l4]) ?_ ?_
 refine QV [0,1,2,3,4,5,6,8,9,10,12,14] Z Z (fun hok=>(xP hok 0 Z (xP hok 1 Z (xP hok 2 Z (xP hok 3 Z (xP hok 4 Z (xP hok 5 Z (Q1C hok 6 0 a3.toNat Z Z Z Zq Z Z Z Z Z (QK dY) (QB cF) QG Qg (fun f6 e0=>?_)))))))))
 subst e0
 refine xP hok 8 Z (xP hok 9 Z (QS hok 10 0 a1.toNat Z Z Z Zq Z Z Z Z Z (QK dZ) (QB cG) QG Qg ?_))
 refine Q1v hok 7 11 Z Z Z Z Z Z ?_ ?_
 refine Qk Qb 0 a3.toNat 0 Z Z Z Zq Z Z Z cF Qg QT (v:=fun b9=>.agg #[.int .i64 (aP.rule),.slice b9.1 aP.ids.length b9.2]) (fun _=>Z) (fun _=>Z) (fun b9 _=>(Q2 (Qs [1] [] Z Z (xS hok 11 Z (Qk Qb 0 a1.toNat 0 Z Z Z Zq Z Z Z cG Qg QT (v:=fun bA=>.agg #[.int .i64 (aQ.rule),.slice bA.1 aQ.ids.length bA.2]) (fun _=>Z) (fun _=>Z) (fun bA _=>(Q2 (Qs [1,2] [] Z Z (QS hok 12 0 a1.toNat Z Z Z Zq Z Z Z Z Z (QK d3) (QB cA) QG Qg (xS hok 13 Z (Q10 (u:=aP) 0 a1.toNat Z Z Z Z Z (QB cA) Z Z Qg Z (fun F w hφ=>⟨(b9.1,b9.2),Z,(Qe (hφ _ (Qo (k:=1) Z)) Ql)⟩) (H':=[_,_]) Z (Q2 (Qs [0,1,2] [] Z Z (QS hok 14 0 a3.toNat Z Z Z Zq Z Z Z Z Z (QK d4) (QB cB) QG Qg (xS hok 15 Z ?_)))))))))))))))
 refine Q10 (u:=aQ) 0 a3.toNat Z Z Z Z Z (QB cB) Z Z Qg Z (fun F w hφ=>⟨(bA.1,bA.2),Z,(Qe (hφ _ (Qo (k:=0) Z)) Ql)⟩) (H':=[_,_]) Z (Q2 (Qs [0,1,2] [] Z Z (QI hok Z ?_)))
 refine Qp () trivial [0,1,2,4] Z (asK [2] Z) Z
 refine Qk Qb 0 a1.toNat 0 Z Z Z Zq Z Z Z cG Qg QT (v:=fun bA=>.agg #[.int .i64 (aQ.rule),.slice bA.1 aQ.ids.length bA.2]) (fun _=>Z) (fun _=>Z) (fun bA _=>(Q2 (Qs [1] [] Z Z (xS hok 7 Z (Qk Qb 0 a3.toNat 0 Z Z Z Zq Z Z Z cF Qg QT (v:=fun b9=>.agg #[.int .i64 (aP.rule),.slice b9.1 aP.ids.length b9.2]) (fun _=>Z) (fun _=>Z) (fun b9 _=>(Q2 (Qs [1,2] [] Z Z (QS hok 12 0 a1.toNat Z Z Z Zq Z Z Z Z Z (QK d3) (QB cA) QG Qg (xS hok 13 Z (Q10 (u:=aP) 0 a1.toNat Z Z Z Z Z (QB cA) Z Z Qg Z (fun F w hφ=>⟨(b9.1,b9.2),Z,(Qe (hφ _ (Qo (k:=0) Z)) Ql)⟩) (H':=[_,_]) Z (Q2 (Qs [0,1,2] [] Z Z (QS hok 14 0 a3.toNat Z Z Z Zq Z Z Z Z Z (QK d4) (QB cB) QG Qg (xS hok 15 Z ?_)))))))))))))))
 refine Q10 (u:=aQ) 0 a3.toNat Z Z Z Z Z (QB cB) Z Z Qg Z (fun F w hφ=>⟨(bA.1,bA.2),Z,(Qe (hφ _ (Qo (k:=1) Z)) Ql)⟩) (H':=[_,_]) Z (Q2 (Qs [0,1,2] [] Z Z (QI hok Z ?_)))
 refine Qp () trivial [0,1,2,4] Z (asK [2] Z) Z
 rintro _ _
 try dsimp only
 refine Q6 (Q3 (wP Z (wP Z ?_)))
 obtain ⟨e1,hm⟩:=Qd hm
 refine Qx (d:=29) (v':=.int .i64 (a1 + 1)) (S':=V5 ..) Z Z (i64_in e1) (wP Z (wP Z ?_))
 obtain ⟨e2,hm⟩:=Qd hm
 refine Qx (d:=31) (v':=.int .i64 (a2 - 1)) (S':=V7 ..) Z Z (i64_in e2) (wP Z (wP Z (Q2 (Q4 (Q5 [13,12,0,1,4] (S':=V5 ..) Z (Q6 ?_))))))
 obtain ⟨d5,hm,hLj_2⟩:=Q7 hm
 refine Q15 (σ:=Int) (fun o=>d5 = o) (fun o=>[(13,.int .i64 (a2 - 1)),(12,.int .i64 o),(0,.slice a4 a5 a6),(1,.int .i64 a1),(4,.func (.func 41) #[.slice (some s) y z] #[])]) (fun o=>[tF]) (fun o=>[.own 45 2 Q8 (.slice a4 a5 a6) ((l0.set a1.toNat aP).set a3.toNat aQ),.own 3 1 Qh (.slice (some s) y z) l4]) ?_ ?_
 refine Qn (Q1b (σ:=Nat × Int) (fun (bP,a9)=>Q1B (Q3t N a2 l0 a1 aP a3 aQ l4) bP a9 = some d5) (fun (bP,a9)=>bP) (fun (bP,a9)=>[(13,.int .i64 (a2 - 1)),(12,.int .i64 a9),(0,.slice a4 a5 a6),(1,.int .i64 a1),(4,.func (.func 41) #[.slice (some s) y z] #[])]) (fun (bP,a9)=>[tF]) (fun (bP,a9)=>[.own 45 2 Q8 (.slice a4 a5 a6) ((l0.set a1.toNat aP).set a3.toNat aQ),.own 3 1 Qh (.slice (some s) y z) l4]) (N,a1 + 1) hm [13,12,0,1,4] Z (asK [0] Z) Z (fun s_ hm=>?_))
 obtain ⟨bP,a9⟩:=s_
 try dsimp only at hm ⊢
 obtain ⟨f7,f8,e3,hq,hLu1⟩:=Q18 hm
 clear hm
 subst e3
 replace hm:=hq
 clear hq
 unfold Q3t at hm
 try dsimp only at hm
 refine Q6 (Q6 ?_)
 obtain ⟨e4,hm,hLj_3⟩:=Q7 hm
 unfold Q4W at hm
 refine Q15 (σ:=Bool) (fun aX=>e4 = aX) (fun aX=>[(13,.int .i64 (a2 - 1)),(12,.int .i64 a9),(0,.slice a4 a5 a6),(1,.int .i64 a1),(4,.func (.func 41) #[.slice (some s) y z] #[]),(47,.bool aX)]) (fun aX=>[tF]) (fun aX=>[.own 45 2 Q8 (.slice a4 a5 a6) ((l0.set a1.toNat aP).set a3.toNat aQ),.own 3 1 Qh (.slice (some s) y z) l4]) ?_ ?_
 rcases Q2k hm with ⟨cH,hm⟩ | ⟨cH,hm⟩
 ·
  obtain ⟨e5,hm⟩:=Qd hm
  obtain ⟨b5,cI,hm⟩:=Q7 hm
  obtain ⟨e6,hm⟩:=Qd hm
  obtain ⟨b6,cJ,hm⟩:=Q7 hm
  obtain ⟨eQ,d6,hm⟩:=Q7 hm
  refine QV [0,1,2,3,4,5,6,7,9,10,11,14,15] Z Z (fun hok=>(xP hok 0 Z (xP hok 1 Z (xP hok 2 Z (xP hok 3 Z (Q1g (d:=35) (v':=.bool true) (S':=V8 ..) Z Z (Q16 cH) (xP hok 4 Z (xP hok 5 Z (xP hok 6 Z (Q1C hok 7 0 a9.toNat Z Z Z Zq Z Z Z Z Z (QK e5) (QB cI) QG Qg (fun f9 e7=>?_)))))))))))
  subst e7
  refine xP hok 9 Z (xP hok 10 Z (QS hok 11 0 a1.toNat Z Z Z Zq Z Z Z Z Z (QK e6) (QB cJ) QG Qg ?_))
  refine Q1v hok 8 12 Z Z Z Z Z Z ?_ ?_
  rotate_left
  focus
   refine Qk Qb 0 a1.toNat 0 Z Z Z Zq Z Z Z cJ Qg QT (v:=fun aZ=>.agg #[.int .i64 (b6.rule),.slice aZ.1 b6.ids.length aZ.2]) (fun _=>Z) (fun _=>Z) (fun aZ _=>(Q2 (Qs [1] [] Z Z (xS hok 8 Z (Qk Qb 0 a9.toNat 0 Z Z Z Zq Z Z Z cI Qg QT (v:=fun b0=>.agg #[.int .i64 (b5.rule),.slice b0.1 b5.ids.length b0.2]) (fun _=>Z) (fun _=>Z) (fun b0 _=>(Q2 (Qs [1,2] [] Z Z (xS hok 13 Z (Q1Q (args:=[.slice (some s) y z,.agg #[.int .i64 (b5.rule),.slice b0.1 b5.ids.length b0.2],.agg #[.int .i64 (b6.rule),.slice aZ.1 b6.ids.length aZ.2]]) [1] [0] Z Z Z Zq Z Z Z Q5o Z Z (QW N s y z l4 b5.rule b0.1 b0.2 b5.ids b6.rule aZ.1 aZ.2 b6.ids _ d6) (asK [0,1,2] Z) Z (H':=[_]) Z ?_))))))))))
  rotate_right
  focus
   refine Qk Qb 0 a9.toNat 0 Z Z Z Zq Z Z Z cI Qg QT (v:=fun b0=>.agg #[.int .i64 (b5.rule),.slice b0.1 b5.ids.length b0.2]) (fun _=>Z) (fun _=>Z) (fun b0 _=>(Q2 (Qs [1] [] Z Z (xS hok 12 Z (Qk Qb 0 a1.toNat 0 Z Z Z Zq Z Z Z cJ Qg QT (v:=fun aZ=>.agg #[.int .i64 (b6.rule),.slice aZ.1 b6.ids.length aZ.2]) (fun _=>Z) (fun _=>Z) (fun aZ _=>(Q2 (Qs [1,2] [] Z Z (xS hok 13 Z (Q1Q (args:=[.slice (some s) y z,.agg #[.int .i64 (b5.rule),.slice b0.1 b5.ids.length b0.2],.agg #[.int .i64 (b6.rule),.slice aZ.1 b6.ids.length aZ.2]]) [1] [0] Z Z Z Zq Z Z Z Q5o Z Z (QW N s y z l4 b5.rule b0.1 b0.2 b5.ids b6.rule aZ.1 aZ.2 b6.ids _ d6) (asK [1,0,2] Z) Z (H':=[_]) Z ?_))))))))))
  all_goals
   rintro _ _ _ ⟨rfl,rfl,rfl⟩
   refine Q2 (Qs [0,1,2] [] Z Z (xP hok 14 Z (xP hok 15 Z (QI hok Z ?_))))
   have hE:=(Zi hm).symm
   refine Q17 [1,0] Z (H':=[_,_]) Z ?_
   refine Qp (decide (eQ < 0)) hE [13,12,0,1,4,47] Z (asK [2] Z) Z
 ·
  refine QV [0,1,2,3,4,5,6,7,9,10,11,14,15] Z Z (fun hok=>(xP hok 0 Z (xP hok 1 Z (xP hok 2 Z (xP hok 3 Z (Q1g (d:=35) (v':=.bool false) (S':=V8 ..) Z Z (Q16 cH) (xO hok 4 Z (xO hok 5 Z (xO hok 6 Z (xO hok 7 Z (xO hok 9 Z (xO hok 10 Z (xO hok 11 Z ?_)))))))))))))
  refine Q1v hok 8 12 Z Z Z Z Z Z ?_ ?_
  rotate_left
  focus
   refine wO Z (Q2 (Qs [0] [] Z Z (xS hok 8 Z ?_)))
  rotate_right
  focus
   refine wO Z (Q2 (Qs [0] [] Z Z (xS hok 12 Z ?_)))
  all_goals
   refine wO Z (Q2 (Qs [0] [] Z Z (xS hok 13 Z (wO Z (Q2 (Qs [0] [] Z Z (xO hok 14 Z (xP hok 15 Z (QI hok Z ?_)))))))))
   have hE:=(Zi hm).symm
   refine Qp false hE [13,12,0,1,4,47] Z (asK [0] Z) Z
 rintro aX hE
 try dsimp only
 have hm:=hLj_3
 try rw [hE] at hm
 refine Qv Z (fun cK=>?_) (fun cK=>?_)
 replace hm:=Q1m hm cK
 refine Q5 [13,12,0,1,4] (S':=V5 ..) Z (Qt (Q4 (Qn (Q3 (wP Z (wP Z ?_))))))
 obtain ⟨e8,hm⟩:=Qd hm
 refine Qx (d:=49) (v':=.int .i64 (a9 + 1)) (S':=V6 ..) Z Z (i64_in e8) (QM (S':=V6 ..) Z Z Z Z Z (Q2 (Qi ?_)))
 have hE:=(Zi hm).symm
 replace hE:=Q11 hLu1 hE
 refine Q14 (_,a9 + 1) (Nat.lt_succ_self _) hE [13,12,0,1,4] Z (asK [0] Z) Z
 replace hm:=Q1l hm cK
 refine Q5 [13,12,0,1,4] (S':=V5 ..) Z (Q19 (Qc (Qc (Qu ?_))))
 have hE:=(Zi hm).symm
 replace hE:=QE hLu1 hE
 refine Qp a9 hE [13,12,0,1,4] Z (asK [0] Z) Z
 rintro o hE
 try dsimp only
 have hm:=hLj_2
 try rw [hE] at hm
 refine Q6 ?_
 obtain ⟨d7,hm,hLj_4⟩:=Q7 hm
 refine Q15 (σ:=Int) (fun f=>d7 = f) (fun f=>[(13,.int .i64 f),(12,.int .i64 o),(0,.slice a4 a5 a6),(1,.int .i64 a1),(4,.func (.func 41) #[.slice (some s) y z] #[])]) (fun f=>[tF]) (fun f=>[.own 45 2 Q8 (.slice a4 a5 a6) ((l0.set a1.toNat aP).set a3.toNat aQ),.own 3 1 Qh (.slice (some s) y z) l4]) ?_ ?_
 refine Qn (Q1b (σ:=Nat × Int) (fun (bQ,aA)=>Q1B (Q3u N o l0 a1 aP a3 aQ l4) bQ aA = some d7) (fun (bQ,aA)=>bQ) (fun (bQ,aA)=>[(13,.int .i64 aA),(12,.int .i64 o),(0,.slice a4 a5 a6),(1,.int .i64 a1),(4,.func (.func 41) #[.slice (some s) y z] #[])]) (fun (bQ,aA)=>[tF]) (fun (bQ,aA)=>[.own 45 2 Q8 (.slice a4 a5 a6) ((l0.set a1.toNat aP).set a3.toNat aQ),.own 3 1 Qh (.slice (some s) y z) l4]) (N,a2 - 1) hm [13,12,0,1,4] Z (asK [0] Z) Z (fun s_ hm=>?_))
 obtain ⟨bQ,aA⟩:=s_
 try dsimp only at hm ⊢
 obtain ⟨fA,fB,e9,hq,hLu2⟩:=Q18 hm
 clear hm
 subst e9
 replace hm:=hq
 clear hq
 unfold Q3u at hm
 try dsimp only at hm
 refine Q6 (Q6 ?_)
 obtain ⟨eA,hm,hLj_5⟩:=Q7 hm
 unfold Q4X at hm
 refine Q15 (σ:=Bool) (fun aY=>eA = aY) (fun aY=>[(13,.int .i64 aA),(12,.int .i64 o),(0,.slice a4 a5 a6),(1,.int .i64 a1),(4,.func (.func 41) #[.slice (some s) y z] #[]),(66,.bool aY)]) (fun aY=>[tF]) (fun aY=>[.own 45 2 Q8 (.slice a4 a5 a6) ((l0.set a1.toNat aP).set a3.toNat aQ),.own 3 1 Qh (.slice (some s) y z) l4]) ?_ ?_
 rcases Q2k hm with ⟨cL,hm⟩ | ⟨cL,hm⟩
 ·
  obtain ⟨eB,hm⟩:=Qd hm
  obtain ⟨b7,cM,hm⟩:=Q7 hm
  obtain ⟨eC,hm⟩:=Qd hm
  obtain ⟨b8,cN,hm⟩:=Q7 hm
  obtain ⟨eR,d8,hm⟩:=Q7 hm
  refine QV [0,1,2,3,4,5,6,7,9,10,11,14,15,16] Z Z (fun hok=>(xP hok 0 Z (xP hok 1 Z (xP hok 2 Z (xP hok 3 Z (Q1g (d:=53) (v':=.bool true) (S':=V8 ..) Z Z (Q16 cL) (xP hok 4 Z (xP hok 5 Z (xP hok 6 Z (Q1C hok 7 0 aA.toNat Z Z Z Zq Z Z Z Z Z (QK eB) (QB cM) QG Qg (fun fC eD=>?_)))))))))))
  subst eD
  refine xP hok 9 Z (xP hok 10 Z (QS hok 11 0 a1.toNat Z Z Z Zq Z Z Z Z Z (QK eC) (QB cN) QG Qg ?_))
  refine Q1v hok 8 12 Z Z Z Z Z Z ?_ ?_
  rotate_left
  focus
   refine Qk Qb 0 a1.toNat 0 Z Z Z Zq Z Z Z cN Qg QT (v:=fun b1=>.agg #[.int .i64 (b8.rule),.slice b1.1 b8.ids.length b1.2]) (fun _=>Z) (fun _=>Z) (fun b1 _=>(Q2 (Qs [1] [] Z Z (xS hok 8 Z (Qk Qb 0 aA.toNat 0 Z Z Z Zq Z Z Z cM Qg QT (v:=fun b2=>.agg #[.int .i64 (b7.rule),.slice b2.1 b7.ids.length b2.2]) (fun _=>Z) (fun _=>Z) (fun b2 _=>(Q2 (Qs [1,2] [] Z Z (xS hok 13 Z (Q1Q (args:=[.slice (some s) y z,.agg #[.int .i64 (b7.rule),.slice b2.1 b7.ids.length b2.2],.agg #[.int .i64 (b8.rule),.slice b1.1 b8.ids.length b1.2]]) [1] [0] Z Z Z Zq Z Z Z Q5o Z Z (QW N s y z l4 b7.rule b2.1 b2.2 b7.ids b8.rule b1.1 b1.2 b8.ids _ d8) (asK [0,1,2] Z) Z (H':=[_]) Z ?_))))))))))
  rotate_right
  focus
   refine Qk Qb 0 aA.toNat 0 Z Z Z Zq Z Z Z cM Qg QT (v:=fun b2=>.agg #[.int .i64 (b7.rule),.slice b2.1 b7.ids.length b2.2]) (fun _=>Z) (fun _=>Z) (fun b2 _=>(Q2 (Qs [1] [] Z Z (xS hok 12 Z (Qk Qb 0 a1.toNat 0 Z Z Z Zq Z Z Z cN Qg QT (v:=fun b1=>.agg #[.int .i64 (b8.rule),.slice b1.1 b8.ids.length b1.2]) (fun _=>Z) (fun _=>Z) (fun b1 _=>(Q2 (Qs [1,2] [] Z Z (xS hok 13 Z (Q1Q (args:=[.slice (some s) y z,.agg #[.int .i64 (b7.rule),.slice b2.1 b7.ids.length b2.2],.agg #[.int .i64 (b8.rule),.slice b1.1 b8.ids.length b1.2]]) [1] [0] Z Z Z Zq Z Z Z Q5o Z Z (QW N s y z l4 b7.rule b2.1 b2.2 b7.ids b8.rule b1.1 b1.2 b8.ids _ d8) (asK [1,0,2] Z) Z (H':=[_]) Z ?_))))))))))
  all_goals
   rintro _ _ _ ⟨rfl,rfl,rfl⟩
   refine Q2 (Qs [0,1,2] [] Z Z (xP hok 14 Z (xP hok 15 Z (xP hok 16 Z (QI hok Z ?_)))))
   have hE:=(Zi hm).symm
   refine Q17 [1,0] Z (H':=[_,_]) Z ?_
   refine Qp (!(decide (eR < 0))) hE [13,12,0,1,4,66] Z (asK [2] Z) Z
 ·
  refine QV [0,1,2,3,4,5,6,7,9,10,11,14,15,16] Z Z (fun hok=>(xP hok 0 Z (xP hok 1 Z (xP hok 2 Z (xP hok 3 Z (Q1g (d:=53) (v':=.bool false) (S':=V8 ..) Z Z (Q16 cL) (xO hok 4 Z (xO hok 5 Z (xO hok 6 Z (xO hok 7 Z (xO hok 9 Z (xO hok 10 Z (xO hok 11 Z ?_)))))))))))))
  refine Q1v hok 8 12 Z Z Z Z Z Z ?_ ?_
  rotate_left
  focus
   refine wO Z (Q2 (Qs [0] [] Z Z (xS hok 8 Z ?_)))
  rotate_right
  focus
   refine wO Z (Q2 (Qs [0] [] Z Z (xS hok 12 Z ?_)))
  all_goals
   refine wO Z (Q2 (Qs [0] [] Z Z (xS hok 13 Z (wO Z (Q2 (Qs [0] [] Z Z (xO hok 14 Z (xO hok 15 Z (xP hok 16 Z (QI hok Z ?_))))))))))
   have hE:=(Zi hm).symm
   refine Qp false hE [13,12,0,1,4,66] Z (asK [0] Z) Z
 rintro aY hE
 try dsimp only
 have hm:=hLj_5
 try rw [hE] at hm
 refine Qv Z (fun cO=>?_) (fun cO=>?_)
 replace hm:=Q1m hm cO
 refine Q5 [13,12,0,1,4] (S':=V5 ..) Z (Qt (Q4 (Qn (Q3 (wP Z (wP Z ?_))))))
 obtain ⟨eE,hm⟩:=Qd hm
 refine Qx (d:=68) (v':=.int .i64 (aA - 1)) (S':=V6 ..) Z Z (i64_in eE) (QM (S':=V6 ..) Z Z Z Z Z (Q2 (Qi ?_)))
 have hE:=(Zi hm).symm
 replace hE:=Q11 hLu2 hE
 refine Q14 (_,aA - 1) (Nat.lt_succ_self _) hE [13,12,0,1,4] Z (asK [0] Z) Z
 replace hm:=Q1l hm cO
 refine Q5 [13,12,0,1,4] (S':=V5 ..) Z (Q19 (Qc (Qc (Qu ?_))))
 have hE:=(Zi hm).symm
 replace hE:=QE hLu2 hE
 refine Qp aA hE [13,12,0,1,4] Z (asK [0] Z) Z
 rintro f hE
 try dsimp only
 have hm:=hLj_4
 try rw [hE] at hm
 refine Q6 (Q6 (Q3 (wP Z (wP Z (wP Z (Q2 (Q4 (Q5 [71,13,12,0,1,4] (S':=V6 ..) Z ?_))))))))
 refine Qv Z (fun cP=>?_) (fun cP=>?_)
 replace hm:=Q1m hm cP
 refine Q5 [13,0,1] (S':=V3 ..) Z (Q6 ?_)
 obtain ⟨eF,hm⟩:=Qd hm
 obtain ⟨bR,cQ,hm⟩:=Q7 hm
 obtain ⟨eG,hm⟩:=Qd hm
 obtain ⟨bS,cR,hm⟩:=Q7 hm
 obtain ⟨d9,hm⟩:=Qd hm
 obtain ⟨fD,cC,hm⟩:=Q7 hm
 obtain ⟨dA,hm⟩:=Qd hm
 obtain ⟨fE,cD,hm⟩:=Q7 hm
 refine Q15 (σ:=Unit) (fun _=>True) (fun _=>[(13,.int .i64 f)]) (fun _=>[tF]) (fun _=>[.own 45 2 Q8 (.slice a4 a5 a6) ((((l0.set a1.toNat aP).set a3.toNat aQ).set f.toNat bR).set a1.toNat bS),.own 3 1 Qh (.slice (some s) y z) l4]) ?_ ?_
 refine QV [0,1,2,3,4,5,6,8,9,10,12,14] Z Z (fun hok=>(xP hok 0 Z (xP hok 1 Z (xP hok 2 Z (xP hok 3 Z (xP hok 4 Z (xP hok 5 Z (Q1C hok 6 0 a1.toNat Z Z Z Zq Z Z Z Z Z (QK eF) (QB cQ) QG Qg (fun fF eH=>?_)))))))))
 subst eH
 refine xP hok 8 Z (xP hok 9 Z (QS hok 10 0 f.toNat Z Z Z Zq Z Z Z Z Z (QK eG) (QB cR) QG Qg ?_))
 refine Q1v hok 7 11 Z Z Z Z Z Z ?_ ?_
 refine Qk Qb 0 a1.toNat 0 Z Z Z Zq Z Z Z cQ Qg QT (v:=fun bB=>.agg #[.int .i64 (bR.rule),.slice bB.1 bR.ids.length bB.2]) (fun _=>Z) (fun _=>Z) (fun bB _=>(Q2 (Qs [1] [] Z Z (xS hok 11 Z (Qk Qb 0 f.toNat 0 Z Z Z Zq Z Z Z cR Qg QT (v:=fun bC=>.agg #[.int .i64 (bS.rule),.slice bC.1 bS.ids.length bC.2]) (fun _=>Z) (fun _=>Z) (fun bC _=>(Q2 (Qs [1,2] [] Z Z (QS hok 12 0 f.toNat Z Z Z Zq Z Z Z Z Z (QK d9) (QB cC) QG Qg (xS hok 13 Z (Q10 (u:=bR) 0 f.toNat Z Z Z Z Z (QB cC) Z Z Qg Z (fun F w hφ=>⟨(bB.1,bB.2),Z,(Qe (hφ _ (Qo (k:=1) Z)) Ql)⟩) (H':=[_,_]) Z (Q2 (Qs [0,1,2] [] Z Z (QS hok 14 0 a1.toNat Z Z Z Zq Z Z Z Z Z (QK dA) (QB cD) QG Qg (xS hok 15 Z ?_)))))))))))))))
 refine Q10 (u:=bS) 0 a1.toNat Z Z Z Z Z (QB cD) Z Z Qg Z (fun F w hφ=>⟨(bC.1,bC.2),Z,(Qe (hφ _ (Qo (k:=0) Z)) Ql)⟩) (H':=[_,_]) Z (Q2 (Qs [0,1,2] [] Z Z (QI hok Z ?_)))
 refine Qp () trivial [13] Z (asK [2] Z) Z
 refine Qk Qb 0 f.toNat 0 Z Z Z Zq Z Z Z cR Qg QT (v:=fun bC=>.agg #[.int .i64 (bS.rule),.slice bC.1 bS.ids.length bC.2]) (fun _=>Z) (fun _=>Z) (fun bC _=>(Q2 (Qs [1] [] Z Z (xS hok 7 Z (Qk Qb 0 a1.toNat 0 Z Z Z Zq Z Z Z cQ Qg QT (v:=fun bB=>.agg #[.int .i64 (bR.rule),.slice bB.1 bR.ids.length bB.2]) (fun _=>Z) (fun _=>Z) (fun bB _=>(Q2 (Qs [1,2] [] Z Z (QS hok 12 0 f.toNat Z Z Z Zq Z Z Z Z Z (QK d9) (QB cC) QG Qg (xS hok 13 Z (Q10 (u:=bR) 0 f.toNat Z Z Z Z Z (QB cC) Z Z Qg Z (fun F w hφ=>⟨(bB.1,bB.2),Z,(Qe (hφ _ (Qo (k:=0) Z)) Ql)⟩) (H':=[_,_]) Z (Q2 (Qs [0,1,2] [] Z Z (QS hok 14 0 a1.toNat Z Z Z Zq Z Z Z Z Z (QK dA) (QB cD) QG Qg (xS hok 15 Z ?_)))))))))))))))
 refine Q10 (u:=bS) 0 a1.toNat Z Z Z Z Z (QB cD) Z Z Qg Z (fun F w hφ=>⟨(bC.1,bC.2),Z,(Qe (hφ _ (Qo (k:=1) Z)) Ql)⟩) (H':=[_,_]) Z (Q2 (Qs [0,1,2] [] Z Z (QI hok Z ?_)))
 refine Qp () trivial [13] Z (asK [2] Z) Z
 rintro _ _
 try dsimp only
 refine Q6 (Q3 (wP Z (wP Z (wP Z (Q2 (Q4 (Q5 [11,10] (S':=[_,_]) Z (QJ (Qj ?_)))))))))
 have hE:=(Zi hm).symm
 obtain ⟨hE0,hF1⟩:=Prod.mk.inj hE
 obtain ⟨hE1,hE2⟩:=Prod.mk.inj hF1
 clear hE hF1
 replace hE0:=hE0.symm
 subst hE0
 replace hE1:=hE1.symm
 subst hE1
 replace hE2:=hE2.symm
 subst hE2
 refine Q7w (Hr:=[_,_]) [0,1] Tryz.results155 (Qy Z) (Qy Z) ⟨Z,Z,Z⟩ (asK [] Z) Z Z (.inl Z)
 replace hm:=Q1l hm cP
 refine Q5 [13,12,0,1,4] (S':=V5 ..) Z (Qt (Q4 (Q6 ?_)))
 obtain ⟨eI,hm⟩:=Qd hm
 obtain ⟨bN,cS,hm⟩:=Q7 hm
 obtain ⟨eJ,hm⟩:=Qd hm
 obtain ⟨bO,cT,hm⟩:=Q7 hm
 obtain ⟨dB,hm⟩:=Qd hm
 obtain ⟨fG,cE,hm⟩:=Q7 hm
 obtain ⟨cU,hm⟩:=Qd hm
 obtain ⟨eV,bI,hm⟩:=Q7 hm
 refine Q15 (σ:=Unit) (fun _=>True) (fun _=>[(13,.int .i64 f),(12,.int .i64 o),(0,.slice a4 a5 a6),(1,.int .i64 a1),(4,.func (.func 41) #[.slice (some s) y z] #[])]) (fun _=>[tF]) (fun _=>[.own 45 2 Q8 (.slice a4 a5 a6) ((((l0.set a1.toNat aP).set a3.toNat aQ).set o.toNat bN).set f.toNat bO),.own 3 1 Qh (.slice (some s) y z) l4]) ?_ ?_
 refine QV [0,1,2,3,4,5,6,8,9,10,12,14] Z Z (fun hok=>(xP hok 0 Z (xP hok 1 Z (xP hok 2 Z (xP hok 3 Z (xP hok 4 Z (xP hok 5 Z (Q1C hok 6 0 f.toNat Z Z Z Zq Z Z Z Z Z (QK eI) (QB cS) QG Qg (fun fI eK=>?_)))))))))
 subst eK
 refine xP hok 8 Z (xP hok 9 Z (QS hok 10 0 o.toNat Z Z Z Zq Z Z Z Z Z (QK eJ) (QB cT) QG Qg ?_))
 refine Q1v hok 7 11 Z Z Z Z Z Z ?_ ?_
 refine Qk Qb 0 f.toNat 0 Z Z Z Zq Z Z Z cS Qg QT (v:=fun bD=>.agg #[.int .i64 (bN.rule),.slice bD.1 bN.ids.length bD.2]) (fun _=>Z) (fun _=>Z) (fun bD _=>(Q2 (Qs [1] [] Z Z (xS hok 11 Z (Qk Qb 0 o.toNat 0 Z Z Z Zq Z Z Z cT Qg QT (v:=fun bE=>.agg #[.int .i64 (bO.rule),.slice bE.1 bO.ids.length bE.2]) (fun _=>Z) (fun _=>Z) (fun bE _=>(Q2 (Qs [1,2] [] Z Z (QS hok 12 0 o.toNat Z Z Z Zq Z Z Z Z Z (QK dB) (QB cE) QG Qg (xS hok 13 Z (Q10 (u:=bN) 0 o.toNat Z Z Z Z Z (QB cE) Z Z Qg Z (fun F w hφ=>⟨(bD.1,bD.2),Z,(Qe (hφ _ (Qo (k:=1) Z)) Ql)⟩) (H':=[_,_]) Z (Q2 (Qs [0,1,2] [] Z Z (QS hok 14 0 f.toNat Z Z Z Zq Z Z Z Z Z (QK cU) (QB bI) QG Qg (xS hok 15 Z ?_)))))))))))))))
 refine Q10 (u:=bO) 0 f.toNat Z Z Z Z Z (QB bI) Z Z Qg Z (fun F w hφ=>⟨(bE.1,bE.2),Z,(Qe (hφ _ (Qo (k:=0) Z)) Ql)⟩) (H':=[_,_]) Z (Q2 (Qs [0,1,2] [] Z Z (QI hok Z ?_)))
 refine Qp () trivial [13,12,0,1,4] Z (asK [2] Z) Z
 refine Qk Qb 0 o.toNat 0 Z Z Z Zq Z Z Z cT Qg QT (v:=fun bE=>.agg #[.int .i64 (bO.rule),.slice bE.1 bO.ids.length bE.2]) (fun _=>Z) (fun _=>Z) (fun bE _=>(Q2 (Qs [1] [] Z Z (xS hok 7 Z (Qk Qb 0 f.toNat 0 Z Z Z Zq Z Z Z cS Qg QT (v:=fun bD=>.agg #[.int .i64 (bN.rule),.slice bD.1 bN.ids.length bD.2]) (fun _=>Z) (fun _=>Z) (fun bD _=>(Q2 (Qs [1,2] [] Z Z (QS hok 12 0 o.toNat Z Z Z Zq Z Z Z Z Z (QK dB) (QB cE) QG Qg (xS hok 13 Z (Q10 (u:=bN) 0 o.toNat Z Z Z Z Z (QB cE) Z Z Qg Z (fun F w hφ=>⟨(bD.1,bD.2),Z,(Qe (hφ _ (Qo (k:=0) Z)) Ql)⟩) (H':=[_,_]) Z (Q2 (Qs [0,1,2] [] Z Z (QS hok 14 0 f.toNat Z Z Z Zq Z Z Z Z Z (QK cU) (QB bI) QG Qg (xS hok 15 Z ?_)))))))))))))))
 refine Q10 (u:=bO) 0 f.toNat Z Z Z Z Z (QB bI) Z Z Qg Z (fun F w hφ=>⟨(bE.1,bE.2),Z,(Qe (hφ _ (Qo (k:=1) Z)) Ql)⟩) (H':=[_,_]) Z (Q2 (Qs [0,1,2] [] Z Z (QI hok Z ?_)))
 refine Qp () trivial [13,12,0,1,4] Z (asK [2] Z) Z
 rintro _ _
 try dsimp only
 refine Q6 (Q3 (wP Z (wP Z ?_)))
 obtain ⟨dE,hm⟩:=Qd hm
 refine Qx (d:=102) (v':=.int .i64 (o + 1)) (S':=V6 ..) Z Z (i64_in dE) (QM (S':=V6 ..) Z Z Z Z Z (Q2 (Q4 (Q5 [12,13,0,1,4] (S':=V5 ..) Z (Q6 (Q3 (wP Z (wP Z ?_))))))))
 obtain ⟨dF,hm⟩:=Qd hm
 refine Qx (d:=104) (v':=.int .i64 (f - 1)) (S':=V6 ..) Z Z (i64_in dF) (QM (S':=V6 ..) Z Z Z Z Z (Q2 (Q4 (Q5 [13,12,0,1,4] (S':=V5 ..) Z (Q6 ?_)))))
 obtain ⟨dC,hm,hLj_8⟩:=Q7 hm
 refine Q15 (σ:=Int × (List Q1)) (fun (a7,aG)=>dC = (a7,aG)) (fun (a7,aG)=>[(13,.int .i64 a7),(0,.slice a4 a5 a6),(1,.int .i64 a1)]) (fun (a7,aG)=>[tF]) (fun (a7,aG)=>[.own 45 2 Q8 (.slice a4 a5 a6) aG,.own 3 1 Qh (.slice (some s) y z) l4]) ?_ ?_
 refine Qn (Q1b (σ:=Nat × Int × Int × (List Q1)) (fun (bT,aD,aS,a0)=>Q1B (Q3v N a1 l4) bT (aD,aS,a0) = some dC) (fun (bT,aD,aS,a0)=>bT) (fun (bT,aD,aS,a0)=>[(13,.int .i64 aD),(12,.int .i64 aS),(0,.slice a4 a5 a6),(1,.int .i64 a1),(4,.func (.func 41) #[.slice (some s) y z] #[])]) (fun (bT,aD,aS,a0)=>[tF]) (fun (bT,aD,aS,a0)=>[.own 45 2 Q8 (.slice a4 a5 a6) a0,.own 3 1 Qh (.slice (some s) y z) l4]) (N,f - 1,o + 1,(((l0.set a1.toNat aP).set a3.toNat aQ).set o.toNat bN).set f.toNat bO) hm [13,12,0,1,4] Z (asK [0] Z) Z (fun s_ hm=>?_))
 obtain ⟨bT,aD,aS,a0⟩:=s_
 try dsimp only at hm ⊢
 obtain ⟨fJ,fK,eL,hq,hLu3⟩:=Q18 hm
 clear hm
 subst eL
 replace hm:=hq
 clear hq
 unfold Q3v at hm
 try dsimp only at hm
 refine Qn (Q6 ?_)
 obtain ⟨dD,hm,hLj_9⟩:=Q7 hm
 refine Q15 (σ:=Int) (fun q=>dD = q) (fun q=>[(13,.int .i64 aD),(12,.int .i64 q),(0,.slice a4 a5 a6),(1,.int .i64 a1),(4,.func (.func 41) #[.slice (some s) y z] #[])]) (fun q=>[tF]) (fun q=>[.own 45 2 Q8 (.slice a4 a5 a6) a0,.own 3 1 Qh (.slice (some s) y z) l4]) ?_ ?_
 refine Qn (Q1b (σ:=Nat × Int) (fun (bU,aB)=>Q1B (Q3w N aD a0 a1 l4) bU aB = some dD) (fun (bU,aB)=>bU) (fun (bU,aB)=>[(13,.int .i64 aD),(12,.int .i64 aB),(0,.slice a4 a5 a6),(1,.int .i64 a1),(4,.func (.func 41) #[.slice (some s) y z] #[])]) (fun (bU,aB)=>[tF]) (fun (bU,aB)=>[.own 45 2 Q8 (.slice a4 a5 a6) a0,.own 3 1 Qh (.slice (some s) y z) l4]) (N,aS) hm [13,12,0,1,4] Z (asK [0] Z) Z (fun s_ hm=>?_))
 obtain ⟨bU,aB⟩:=s_
 try dsimp only at hm ⊢
 obtain ⟨fL,fM,eM,hq,hLu4⟩:=Q18 hm
 clear hm
 subst eM
 replace hm:=hq
 clear hq
 unfold Q3w at hm
 try dsimp only at hm
 refine Q6 (Q6 ?_)
 obtain ⟨dG,hm,hLj_10⟩:=Q7 hm
 unfold Q4M at hm
 refine Q15 (σ:=Bool) (fun aE=>dG = aE) (fun aE=>[(13,.int .i64 aD),(12,.int .i64 aB),(0,.slice a4 a5 a6),(1,.int .i64 a1),(4,.func (.func 41) #[.slice (some s) y z] #[]),(120,.bool aE)]) (fun aE=>[tF]) (fun aE=>[.own 45 2 Q8 (.slice a4 a5 a6) a0,.own 3 1 Qh (.slice (some s) y z) l4]) ?_ ?_
 rcases Q2k hm with ⟨bV,hm⟩ | ⟨bV,hm⟩
 ·
  obtain ⟨dH,hm⟩:=Qd hm
  obtain ⟨aL,bW,hm⟩:=Q7 hm
  obtain ⟨dI,hm⟩:=Qd hm
  obtain ⟨aM,bX,hm⟩:=Q7 hm
  obtain ⟨eN,cV,hm⟩:=Q7 hm
  refine QV [0,1,2,3,4,5,6,7,9,10,11,14,15] Z Z (fun hok=>(xP hok 0 Z (xP hok 1 Z (xP hok 2 Z (xP hok 3 Z (Q1g (d:=108) (v':=.bool true) (S':=V8 ..) Z Z (Q16 bV) (xP hok 4 Z (xP hok 5 Z (xP hok 6 Z (Q1C hok 7 0 aB.toNat Z Z Z Zq Z Z Z Z Z (QK dH) (QB bW) QG Qg (fun eW dJ=>?_)))))))))))
  subst dJ
  refine xP hok 9 Z (xP hok 10 Z (QS hok 11 0 a1.toNat Z Z Z Zq Z Z Z Z Z (QK dI) (QB bX) QG Qg ?_))
  refine Q1v hok 8 12 Z Z Z Z Z Z ?_ ?_
  rotate_left
  focus
   refine Qk Qb 0 a1.toNat 0 Z Z Z Zq Z Z Z bX Qg QT (v:=fun aH=>.agg #[.int .i64 (aM.rule),.slice aH.1 aM.ids.length aH.2]) (fun _=>Z) (fun _=>Z) (fun aH _=>(Q2 (Qs [1] [] Z Z (xS hok 8 Z (Qk Qb 0 aB.toNat 0 Z Z Z Zq Z Z Z bW Qg QT (v:=fun aI=>.agg #[.int .i64 (aL.rule),.slice aI.1 aL.ids.length aI.2]) (fun _=>Z) (fun _=>Z) (fun aI _=>(Q2 (Qs [1,2] [] Z Z (xS hok 13 Z (Q1Q (args:=[.slice (some s) y z,.agg #[.int .i64 (aL.rule),.slice aI.1 aL.ids.length aI.2],.agg #[.int .i64 (aM.rule),.slice aH.1 aM.ids.length aH.2]]) [1] [0] Z Z Z Zq Z Z Z Q5o Z Z (QW N s y z l4 aL.rule aI.1 aI.2 aL.ids aM.rule aH.1 aH.2 aM.ids _ cV) (asK [0,1,2] Z) Z (H':=[_]) Z ?_))))))))))
  rotate_right
  focus
   refine Qk Qb 0 aB.toNat 0 Z Z Z Zq Z Z Z bW Qg QT (v:=fun aI=>.agg #[.int .i64 (aL.rule),.slice aI.1 aL.ids.length aI.2]) (fun _=>Z) (fun _=>Z) (fun aI _=>(Q2 (Qs [1] [] Z Z (xS hok 12 Z (Qk Qb 0 a1.toNat 0 Z Z Z Zq Z Z Z bX Qg QT (v:=fun aH=>.agg #[.int .i64 (aM.rule),.slice aH.1 aM.ids.length aH.2]) (fun _=>Z) (fun _=>Z) (fun aH _=>(Q2 (Qs [1,2] [] Z Z (xS hok 13 Z (Q1Q (args:=[.slice (some s) y z,.agg #[.int .i64 (aL.rule),.slice aI.1 aL.ids.length aI.2],.agg #[.int .i64 (aM.rule),.slice aH.1 aM.ids.length aH.2]]) [1] [0] Z Z Z Zq Z Z Z Q5o Z Z (QW N s y z l4 aL.rule aI.1 aI.2 aL.ids aM.rule aH.1 aH.2 aM.ids _ cV) (asK [1,0,2] Z) Z (H':=[_]) Z ?_))))))))))
  all_goals
   rintro _ _ _ ⟨rfl,rfl,rfl⟩
   refine Q2 (Qs [0,1,2] [] Z Z (xP hok 14 Z (xP hok 15 Z (QI hok Z ?_))))
   have hE:=(Zi hm).symm
   refine Q17 [1,0] Z (H':=[_,_]) Z ?_
   refine Qp (decide (eN < 0)) hE [13,12,0,1,4,120] Z (asK [2] Z) Z
 ·
  refine QV [0,1,2,3,4,5,6,7,9,10,11,14,15] Z Z (fun hok=>(xP hok 0 Z (xP hok 1 Z (xP hok 2 Z (xP hok 3 Z (Q1g (d:=108) (v':=.bool false) (S':=V8 ..) Z Z (Q16 bV) (xO hok 4 Z (xO hok 5 Z (xO hok 6 Z (xO hok 7 Z (xO hok 9 Z (xO hok 10 Z (xO hok 11 Z ?_)))))))))))))
  refine Q1v hok 8 12 Z Z Z Z Z Z ?_ ?_
  rotate_left
  focus
   refine wO Z (Q2 (Qs [0] [] Z Z (xS hok 8 Z ?_)))
  rotate_right
  focus
   refine wO Z (Q2 (Qs [0] [] Z Z (xS hok 12 Z ?_)))
  all_goals
   refine wO Z (Q2 (Qs [0] [] Z Z (xS hok 13 Z (wO Z (Q2 (Qs [0] [] Z Z (xO hok 14 Z (xP hok 15 Z (QI hok Z ?_)))))))))
   have hE:=(Zi hm).symm
   refine Qp false hE [13,12,0,1,4,120] Z (asK [0] Z) Z
 rintro aE hE
 try dsimp only
 have hm:=hLj_10
 try rw [hE] at hm
 refine Qv Z (fun bY=>?_) (fun bY=>?_)
 replace hm:=Q1m hm bY
 refine Q5 [13,12,0,1,4] (S':=V5 ..) Z (Qt (Q4 (Qn (Q3 (wP Z (wP Z ?_))))))
 obtain ⟨dK,hm⟩:=Qd hm
 refine Qx (d:=122) (v':=.int .i64 (aB + 1)) (S':=V6 ..) Z Z (i64_in dK) (QM (S':=V6 ..) Z Z Z Z Z (Q2 (Qi ?_)))
 have hE:=(Zi hm).symm
 replace hE:=Q11 hLu4 hE
 refine Q14 (_,aB + 1) (Nat.lt_succ_self _) hE [13,12,0,1,4] Z (asK [0] Z) Z
 replace hm:=Q1l hm bY
 refine Q5 [13,12,0,1,4] (S':=V5 ..) Z (Q19 (Qc (Qc (Qu ?_))))
 have hE:=(Zi hm).symm
 replace hE:=QE hLu4 hE
 refine Qp aB hE [13,12,0,1,4] Z (asK [0] Z) Z
 rintro q hE
 try dsimp only
 have hm:=hLj_9
 try rw [hE] at hm
 refine Q6 ?_
 obtain ⟨cW,hm,hLj_11⟩:=Q7 hm
 refine Q15 (σ:=Int) (fun j=>cW = j) (fun j=>[(13,.int .i64 j),(12,.int .i64 q),(0,.slice a4 a5 a6),(1,.int .i64 a1),(4,.func (.func 41) #[.slice (some s) y z] #[])]) (fun j=>[tF]) (fun j=>[.own 45 2 Q8 (.slice a4 a5 a6) a0,.own 3 1 Qh (.slice (some s) y z) l4]) ?_ ?_
 refine Qn (Q1b (σ:=Nat × Int) (fun (bZ,aC)=>Q1B (Q3x N q a0 a1 l4) bZ aC = some cW) (fun (bZ,aC)=>bZ) (fun (bZ,aC)=>[(13,.int .i64 aC),(12,.int .i64 q),(0,.slice a4 a5 a6),(1,.int .i64 a1),(4,.func (.func 41) #[.slice (some s) y z] #[])]) (fun (bZ,aC)=>[tF]) (fun (bZ,aC)=>[.own 45 2 Q8 (.slice a4 a5 a6) a0,.own 3 1 Qh (.slice (some s) y z) l4]) (N,aD) hm [13,12,0,1,4] Z (asK [0] Z) Z (fun s_ hm=>?_))
 obtain ⟨bZ,aC⟩:=s_
 try dsimp only at hm ⊢
 obtain ⟨fN,fO,eO,hq,hLu5⟩:=Q18 hm
 clear hm
 subst eO
 replace hm:=hq
 clear hq
 unfold Q3x at hm
 try dsimp only at hm
 refine Q6 (Q6 ?_)
 obtain ⟨dL,hm,hLj_12⟩:=Q7 hm
 unfold Q4N at hm
 refine Q15 (σ:=Bool) (fun aF=>dL = aF) (fun aF=>[(13,.int .i64 aC),(12,.int .i64 q),(0,.slice a4 a5 a6),(1,.int .i64 a1),(4,.func (.func 41) #[.slice (some s) y z] #[]),(139,.bool aF)]) (fun aF=>[tF]) (fun aF=>[.own 45 2 Q8 (.slice a4 a5 a6) a0,.own 3 1 Qh (.slice (some s) y z) l4]) ?_ ?_
 rcases Q2k hm with ⟨c0,hm⟩ | ⟨c0,hm⟩
 ·
  obtain ⟨dM,hm⟩:=Qd hm
  obtain ⟨aN,c1,hm⟩:=Q7 hm
  obtain ⟨dN,hm⟩:=Qd hm
  obtain ⟨aO,c2,hm⟩:=Q7 hm
  obtain ⟨eP,cX,hm⟩:=Q7 hm
  refine QV [0,1,2,3,4,5,6,7,9,10,11,14,15,16] Z Z (fun hok=>(xP hok 0 Z (xP hok 1 Z (xP hok 2 Z (xP hok 3 Z (Q1g (d:=126) (v':=.bool true) (S':=V8 ..) Z Z (Q16 c0) (xP hok 4 Z (xP hok 5 Z (xP hok 6 Z (Q1C hok 7 0 aC.toNat Z Z Z Zq Z Z Z Z Z (QK dM) (QB c1) QG Qg (fun eX dO=>?_)))))))))))
  subst dO
  refine xP hok 9 Z (xP hok 10 Z (QS hok 11 0 a1.toNat Z Z Z Zq Z Z Z Z Z (QK dN) (QB c2) QG Qg ?_))
  refine Q1v hok 8 12 Z Z Z Z Z Z ?_ ?_
  rotate_left
  focus
   refine Qk Qb 0 a1.toNat 0 Z Z Z Zq Z Z Z c2 Qg QT (v:=fun aJ=>.agg #[.int .i64 (aO.rule),.slice aJ.1 aO.ids.length aJ.2]) (fun _=>Z) (fun _=>Z) (fun aJ _=>(Q2 (Qs [1] [] Z Z (xS hok 8 Z (Qk Qb 0 aC.toNat 0 Z Z Z Zq Z Z Z c1 Qg QT (v:=fun aK=>.agg #[.int .i64 (aN.rule),.slice aK.1 aN.ids.length aK.2]) (fun _=>Z) (fun _=>Z) (fun aK _=>(Q2 (Qs [1,2] [] Z Z (xS hok 13 Z (Q1Q (args:=[.slice (some s) y z,.agg #[.int .i64 (aN.rule),.slice aK.1 aN.ids.length aK.2],.agg #[.int .i64 (aO.rule),.slice aJ.1 aO.ids.length aJ.2]]) [1] [0] Z Z Z Zq Z Z Z Q5o Z Z (QW N s y z l4 aN.rule aK.1 aK.2 aN.ids aO.rule aJ.1 aJ.2 aO.ids _ cX) (asK [0,1,2] Z) Z (H':=[_]) Z ?_))))))))))
  rotate_right
  focus
   refine Qk Qb 0 aC.toNat 0 Z Z Z Zq Z Z Z c1 Qg QT (v:=fun aK=>.agg #[.int .i64 (aN.rule),.slice aK.1 aN.ids.length aK.2]) (fun _=>Z) (fun _=>Z) (fun aK _=>(Q2 (Qs [1] [] Z Z (xS hok 12 Z (Qk Qb 0 a1.toNat 0 Z Z Z Zq Z Z Z c2 Qg QT (v:=fun aJ=>.agg #[.int .i64 (aO.rule),.slice aJ.1 aO.ids.length aJ.2]) (fun _=>Z) (fun _=>Z) (fun aJ _=>(Q2 (Qs [1,2] [] Z Z (xS hok 13 Z (Q1Q (args:=[.slice (some s) y z,.agg #[.int .i64 (aN.rule),.slice aK.1 aN.ids.length aK.2],.agg #[.int .i64 (aO.rule),.slice aJ.1 aO.ids.length aJ.2]]) [1] [0] Z Z Z Zq Z Z Z Q5o Z Z (QW N s y z l4 aN.rule aK.1 aK.2 aN.ids aO.rule aJ.1 aJ.2 aO.ids _ cX) (asK [1,0,2] Z) Z (H':=[_]) Z ?_))))))))))
  all_goals
   rintro _ _ _ ⟨rfl,rfl,rfl⟩
   refine Q2 (Qs [0,1,2] [] Z Z (xP hok 14 Z (xP hok 15 Z (xP hok 16 Z (QI hok Z ?_)))))
   have hE:=(Zi hm).symm
   refine Q17 [1,0] Z (H':=[_,_]) Z ?_
   refine Qp (!(decide (eP < 0))) hE [13,12,0,1,4,139] Z (asK [2] Z) Z
 ·
  refine QV [0,1,2,3,4,5,6,7,9,10,11,14,15,16] Z Z (fun hok=>(xP hok 0 Z (xP hok 1 Z (xP hok 2 Z (xP hok 3 Z (Q1g (d:=126) (v':=.bool false) (S':=V8 ..) Z Z (Q16 c0) (xO hok 4 Z (xO hok 5 Z (xO hok 6 Z (xO hok 7 Z (xO hok 9 Z (xO hok 10 Z (xO hok 11 Z ?_)))))))))))))
  refine Q1v hok 8 12 Z Z Z Z Z Z ?_ ?_
  rotate_left
  focus
   refine wO Z (Q2 (Qs [0] [] Z Z (xS hok 8 Z ?_)))
  rotate_right
  focus
   refine wO Z (Q2 (Qs [0] [] Z Z (xS hok 12 Z ?_)))
  all_goals
   refine wO Z (Q2 (Qs [0] [] Z Z (xS hok 13 Z (wO Z (Q2 (Qs [0] [] Z Z (xO hok 14 Z (xO hok 15 Z (xP hok 16 Z (QI hok Z ?_))))))))))
   have hE:=(Zi hm).symm
   refine Qp false hE [13,12,0,1,4,139] Z (asK [0] Z) Z
 rintro aF hE
 try dsimp only
 have hm:=hLj_12
 try rw [hE] at hm
 refine Qv Z (fun c3=>?_) (fun c3=>?_)
 replace hm:=Q1m hm c3
 refine Q5 [13,12,0,1,4] (S':=V5 ..) Z (Qt (Q4 (Qn (Q3 (wP Z (wP Z ?_))))))
 obtain ⟨dP,hm⟩:=Qd hm
 refine Qx (d:=141) (v':=.int .i64 (aC - 1)) (S':=V6 ..) Z Z (i64_in dP) (QM (S':=V6 ..) Z Z Z Z Z (Q2 (Qi ?_)))
 have hE:=(Zi hm).symm
 replace hE:=Q11 hLu5 hE
 refine Q14 (_,aC - 1) (Nat.lt_succ_self _) hE [13,12,0,1,4] Z (asK [0] Z) Z
 replace hm:=Q1l hm c3
 refine Q5 [13,12,0,1,4] (S':=V5 ..) Z (Q19 (Qc (Qc (Qu ?_))))
 have hE:=(Zi hm).symm
 replace hE:=QE hLu5 hE
 refine Qp aC hE [13,12,0,1,4] Z (asK [0] Z) Z
 rintro j hE
 try dsimp only
 have hm:=hLj_11
 try rw [hE] at hm
 refine Q6 (Q6 (Q3 (wP Z (wP Z (wP Z (Q2 (Q4 (Q5 [144,13,12,0,1,4] (S':=V6 ..) Z ?_))))))))
 refine Qv Z (fun c4=>?_) (fun c4=>?_)
 replace hm:=Q1m hm c4
 refine Q5 [13,0,1] (S':=V3 ..) Z (Q19 (Qc (Q7a (by decide) (Qc (Qu ?_)))))
 have hE:=(Zi hm).symm
 replace hE:=QE hLu3 hE
 refine Qp (j,a0) hE [13,0,1] Z (asK [0] Z) Z
 replace hm:=Q1l hm c4
 refine Q5 [13,12,0,1,4] (S':=V5 ..) Z (Qt (Q4 (Q6 ?_)))
 obtain ⟨dQ,hm⟩:=Qd hm
 obtain ⟨b3,c5,hm⟩:=Q7 hm
 obtain ⟨dR,hm⟩:=Qd hm
 obtain ⟨b4,c6,hm⟩:=Q7 hm
 obtain ⟨cY,hm⟩:=Qd hm
 obtain ⟨eY,bJ,hm⟩:=Q7 hm
 obtain ⟨cZ,hm⟩:=Qd hm
 obtain ⟨eZ,bK,hm⟩:=Q7 hm
 refine Q15 (σ:=Unit) (fun _=>True) (fun _=>[(13,.int .i64 j),(12,.int .i64 q),(0,.slice a4 a5 a6),(1,.int .i64 a1),(4,.func (.func 41) #[.slice (some s) y z] #[])]) (fun _=>[tF]) (fun _=>[.own 45 2 Q8 (.slice a4 a5 a6) ((a0.set q.toNat b3).set j.toNat b4),.own 3 1 Qh (.slice (some s) y z) l4]) ?_ ?_
 refine QV [0,1,2,3,4,5,6,8,9,10,12,14] Z Z (fun hok=>(xP hok 0 Z (xP hok 1 Z (xP hok 2 Z (xP hok 3 Z (xP hok 4 Z (xP hok 5 Z (Q1C hok 6 0 j.toNat Z Z Z Zq Z Z Z Z Z (QK dQ) (QB c5) QG Qg (fun f0 dS=>?_)))))))))
 subst dS
 refine xP hok 8 Z (xP hok 9 Z (QS hok 10 0 q.toNat Z Z Z Zq Z Z Z Z Z (QK dR) (QB c6) QG Qg ?_))
 refine Q1v hok 7 11 Z Z Z Z Z Z ?_ ?_
 refine Qk Qb 0 j.toNat 0 Z Z Z Zq Z Z Z c5 Qg QT (v:=fun aT=>.agg #[.int .i64 (b3.rule),.slice aT.1 b3.ids.length aT.2]) (fun _=>Z) (fun _=>Z) (fun aT _=>(Q2 (Qs [1] [] Z Z (xS hok 11 Z (Qk Qb 0 q.toNat 0 Z Z Z Zq Z Z Z c6 Qg QT (v:=fun aU=>.agg #[.int .i64 (b4.rule),.slice aU.1 b4.ids.length aU.2]) (fun _=>Z) (fun _=>Z) (fun aU _=>(Q2 (Qs [1,2] [] Z Z (QS hok 12 0 q.toNat Z Z Z Zq Z Z Z Z Z (QK cY) (QB bJ) QG Qg (xS hok 13 Z (Q10 (u:=b3) 0 q.toNat Z Z Z Z Z (QB bJ) Z Z Qg Z (fun F w hφ=>⟨(aT.1,aT.2),Z,(Qe (hφ _ (Qo (k:=1) Z)) Ql)⟩) (H':=[_,_]) Z (Q2 (Qs [0,1,2] [] Z Z (QS hok 14 0 j.toNat Z Z Z Zq Z Z Z Z Z (QK cZ) (QB bK) QG Qg (xS hok 15 Z ?_)))))))))))))))
 refine Q10 (u:=b4) 0 j.toNat Z Z Z Z Z (QB bK) Z Z Qg Z (fun F w hφ=>⟨(aU.1,aU.2),Z,(Qe (hφ _ (Qo (k:=0) Z)) Ql)⟩) (H':=[_,_]) Z (Q2 (Qs [0,1,2] [] Z Z (QI hok Z ?_)))
 refine Qp () trivial [13,12,0,1,4] Z (asK [2] Z) Z
 refine Qk Qb 0 q.toNat 0 Z Z Z Zq Z Z Z c6 Qg QT (v:=fun aU=>.agg #[.int .i64 (b4.rule),.slice aU.1 b4.ids.length aU.2]) (fun _=>Z) (fun _=>Z) (fun aU _=>(Q2 (Qs [1] [] Z Z (xS hok 7 Z (Qk Qb 0 j.toNat 0 Z Z Z Zq Z Z Z c5 Qg QT (v:=fun aT=>.agg #[.int .i64 (b3.rule),.slice aT.1 b3.ids.length aT.2]) (fun _=>Z) (fun _=>Z) (fun aT _=>(Q2 (Qs [1,2] [] Z Z (QS hok 12 0 q.toNat Z Z Z Zq Z Z Z Z Z (QK cY) (QB bJ) QG Qg (xS hok 13 Z (Q10 (u:=b3) 0 q.toNat Z Z Z Z Z (QB bJ) Z Z Qg Z (fun F w hφ=>⟨(aT.1,aT.2),Z,(Qe (hφ _ (Qo (k:=0) Z)) Ql)⟩) (H':=[_,_]) Z (Q2 (Qs [0,1,2] [] Z Z (QS hok 14 0 j.toNat Z Z Z Zq Z Z Z Z Z (QK cZ) (QB bK) QG Qg (xS hok 15 Z ?_)))))))))))))))
 refine Q10 (u:=b4) 0 j.toNat Z Z Z Z Z (QB bK) Z Z Qg Z (fun F w hφ=>⟨(aU.1,aU.2),Z,(Qe (hφ _ (Qo (k:=1) Z)) Ql)⟩) (H':=[_,_]) Z (Q2 (Qs [0,1,2] [] Z Z (QI hok Z ?_)))
 refine Qp () trivial [13,12,0,1,4] Z (asK [2] Z) Z
 rintro _ _
 try dsimp only
 refine Q6 (Q3 (wP Z (wP Z ?_)))
 obtain ⟨dT,hm⟩:=Qd hm
 refine Qx (d:=160) (v':=.int .i64 (q + 1)) (S':=V6 ..) Z Z (i64_in dT) (QM (S':=V6 ..) Z Z Z Z Z (Q2 (Q4 (Q5 [12,13,0,1,4] (S':=V5 ..) Z (Q3 (wP Z (wP Z ?_)))))))
 obtain ⟨dU,hm⟩:=Qd hm
 refine Qx (d:=162) (v':=.int .i64 (j - 1)) (S':=V6 ..) Z Z (i64_in dU) (QM (S':=V6 ..) Z Z Z Z Z (Q2 (Qi ?_)))
 have hE:=(Zi hm).symm
 replace hE:=Q11 hLu3 hE
 refine Q14 (_,j - 1,q + 1,(a0.set q.toNat b3).set j.toNat b4) (Nat.lt_succ_self _) hE [13,12,0,1,4] Z (asK [0] Z) Z
 rintro ⟨a7,aG⟩ hE
 try dsimp only
 have hm:=hLj_8
 try rw [hE] at hm
 try dsimp only at hm
 refine Q6 ?_
 obtain ⟨dV,hm⟩:=Qd hm
 obtain ⟨bF,c7,hm⟩:=Q7 hm
 obtain ⟨dW,hm⟩:=Qd hm
 obtain ⟨bG,c8,hm⟩:=Q7 hm
 obtain ⟨d0,hm⟩:=Qd hm
 obtain ⟨f1,bL,hm⟩:=Q7 hm
 obtain ⟨d1,hm⟩:=Qd hm
 obtain ⟨f2,bM,hm⟩:=Q7 hm
 refine Q15 (σ:=Unit) (fun _=>True) (fun _=>[(13,.int .i64 a7)]) (fun _=>[tF]) (fun _=>[.own 45 2 Q8 (.slice a4 a5 a6) ((aG.set a7.toNat bF).set a1.toNat bG),.own 3 1 Qh (.slice (some s) y z) l4]) ?_ ?_
 refine QV [0,1,2,3,4,5,6,8,9,10,12,14] Z Z (fun hok=>(xP hok 0 Z (xP hok 1 Z (xP hok 2 Z (xP hok 3 Z (xP hok 4 Z (xP hok 5 Z (Q1C hok 6 0 a1.toNat Z Z Z Zq Z Z Z Z Z (QK dV) (QB c7) QG Qg (fun f3 dX=>?_)))))))))
 subst dX
 refine xP hok 8 Z (xP hok 9 Z (QS hok 10 0 a7.toNat Z Z Z Zq Z Z Z Z Z (QK dW) (QB c8) QG Qg ?_))
 refine Q1v hok 7 11 Z Z Z Z Z Z ?_ ?_
 refine Qk Qb 0 a1.toNat 0 Z Z Z Zq Z Z Z c7 Qg QT (v:=fun aV=>.agg #[.int .i64 (bF.rule),.slice aV.1 bF.ids.length aV.2]) (fun _=>Z) (fun _=>Z) (fun aV _=>(Q2 (Qs [1] [] Z Z (xS hok 11 Z (Qk Qb 0 a7.toNat 0 Z Z Z Zq Z Z Z c8 Qg QT (v:=fun aW=>.agg #[.int .i64 (bG.rule),.slice aW.1 bG.ids.length aW.2]) (fun _=>Z) (fun _=>Z) (fun aW _=>(Q2 (Qs [1,2] [] Z Z (QS hok 12 0 a7.toNat Z Z Z Zq Z Z Z Z Z (QK d0) (QB bL) QG Qg (xS hok 13 Z (Q10 (u:=bF) 0 a7.toNat Z Z Z Z Z (QB bL) Z Z Qg Z (fun F w hφ=>⟨(aV.1,aV.2),Z,(Qe (hφ _ (Qo (k:=1) Z)) Ql)⟩) (H':=[_,_]) Z (Q2 (Qs [0,1,2] [] Z Z (QS hok 14 0 a1.toNat Z Z Z Zq Z Z Z Z Z (QK d1) (QB bM) QG Qg (xS hok 15 Z ?_)))))))))))))))
 refine Q10 (u:=bG) 0 a1.toNat Z Z Z Z Z (QB bM) Z Z Qg Z (fun F w hφ=>⟨(aW.1,aW.2),Z,(Qe (hφ _ (Qo (k:=0) Z)) Ql)⟩) (H':=[_,_]) Z (Q2 (Qs [0,1,2] [] Z Z (QI hok Z ?_)))
 refine Qp () trivial [13] Z (asK [2] Z) Z
 refine Qk Qb 0 a7.toNat 0 Z Z Z Zq Z Z Z c8 Qg QT (v:=fun aW=>.agg #[.int .i64 (bG.rule),.slice aW.1 bG.ids.length aW.2]) (fun _=>Z) (fun _=>Z) (fun aW _=>(Q2 (Qs [1] [] Z Z (xS hok 7 Z (Qk Qb 0 a1.toNat 0 Z Z Z Zq Z Z Z c7 Qg QT (v:=fun aV=>.agg #[.int .i64 (bF.rule),.slice aV.1 bF.ids.length aV.2]) (fun _=>Z) (fun _=>Z) (fun aV _=>(Q2 (Qs [1,2] [] Z Z (QS hok 12 0 a7.toNat Z Z Z Zq Z Z Z Z Z (QK d0) (QB bL) QG Qg (xS hok 13 Z (Q10 (u:=bF) 0 a7.toNat Z Z Z Z Z (QB bL) Z Z Qg Z (fun F w hφ=>⟨(aV.1,aV.2),Z,(Qe (hφ _ (Qo (k:=0) Z)) Ql)⟩) (H':=[_,_]) Z (Q2 (Qs [0,1,2] [] Z Z (QS hok 14 0 a1.toNat Z Z Z Zq Z Z Z Z Z (QK d1) (QB bM) QG Qg (xS hok 15 Z ?_)))))))))))))))
 refine Q10 (u:=bG) 0 a1.toNat Z Z Z Z Z (QB bM) Z Z Qg Z (fun F w hφ=>⟨(aW.1,aW.2),Z,(Qe (hφ _ (Qo (k:=1) Z)) Ql)⟩) (H':=[_,_]) Z (Q2 (Qs [0,1,2] [] Z Z (QI hok Z ?_)))
 refine Qp () trivial [13] Z (asK [2] Z) Z
 rintro _ _
 try dsimp only
 refine Q6 (Q3 (wP Z (wP Z (wP Z (Q2 (Q4 (Q5 [11,10] (S':=[_,_]) Z (QJ ?_))))))))
 have hE:=(Zi hm).symm
 obtain ⟨hE0,hF1⟩:=Prod.mk.inj hE
 obtain ⟨hE1,hE2⟩:=Prod.mk.inj hF1
 clear hE hF1
 replace hE0:=hE0.symm
 subst hE0
 replace hE1:=hE1.symm
 subst hE1
 replace hE2:=hE2.symm
 subst hE2
 refine Q7w (Hr:=[_,_]) [0,1] Tryz.results155 (Qy Z) (Qy Z) ⟨Z,Z,Z⟩ (asK [] Z) Z Z (.inl Z)
theorem Q9G (N:Nat) (a0:Int) (o0:Int) (hm:Q6x N a0 = some o0):Q1z Tryz.prog 174 [.int .i64 a0] [tF] [] (fun v Φr Hr=>v = .int .u64 o0 ∧ Φr = [] ∧ Hr = []):=by
 unfold Q6x at hm
 refine Q12 Tryz.func174 Z Tryz.ntmps174 Z (S:=[_]) Z (fun C=>(Q6 (Q3 (wP Z (Q2 (Q4 (Q5 [0] (S':=[_]) Z (Q6 (Q3 (wP Z (Qao Z Z Z Zq (rk_conv Z Z tI_3 tI_157) ?_)))))))))))
 obtain ⟨v5,hc5,hm⟩:=Q7 hm
 refine wC [] [] Z fn_97 Z (w_bits_Len_s N (IntKind.wrap .u64 a0) _ hc5) (asK [0] Z) Z (H':=[]) Z ?_
 rintro _ _ _ ⟨rfl,rfl,rfl⟩
 obtain ⟨hg6,hm⟩:=Qd hm
 refine Q4l Z Z Z Zq Z Z Z (run_shl hg6) (wP Z (Q2 (Q4 (Q5 [2] (S':=[_]) Z (QJ ?_)))))
 have hE:=(Zi hm).symm
 replace hE:=hE.symm
 subst hE
 refine QA (Hr:=[]) [] Tryz.results174 (Qy Z) ⟨Z,Z,Z⟩ (asK [] Z) Z Z (.inl Z)
end Go.Proofs.YtgangmegcejllaaGreatDoor
