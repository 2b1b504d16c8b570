import Derived.Test.YtgangmegcejllaaGreatDoorXW5
namespace Go.Proofs.YtgangmegcejllaaGreatDoor
open Go.RowKit
set_option maxRecDepth 100000
set_option maxHeartbeats 4000000
theorem Q7H (N:Nat) (b3:Nat) (aX:Addr) (aY:Nat) (aZ:Nat) (l0:List Int) (b4:OA) (b5:Nat) (b6:Nat) (l1:List Q1) (b7:OA) (b8:Nat) (b9:Nat) (l2:List Q1) (aK:Nat) (e3:List (ByteArray × Bool)) (bD:OA) (b1:Nat) (aL:Nat) (l4:List Qo) (k5:Nat) (o0:Nat) (o1:List Int) (o4:List Q1) (o8:List Q1) (d8:List (ByteArray × Bool)) (hm:Q44 N l0 l1 l2 e3 l4 k5 = some (o0,o1,o4,o8,d8)):Q1R Tryz.prog 21 [.pointer (some ⟨b3,0,none⟩),.slice bD k5 aL] [tF] [.blk b3 [.slice (some aX) aY aZ,.slice b4 b5 b6,.slice b7 b8 b9,.map (some aK)] 66,.own 3 1 Qi (.slice (some aX) aY aZ) l0,.own 45 2 Q9 (.slice b4 b5 b6) l1,.own 45 2 Q9 (.slice b7 b8 b9) l2,Q2s (Q1g (QQ Q2t)) false QW aK e3,Q1l Qx 45 2 (.slice bD b1 aL) l4] (fun v Φr Hr=>∃ (o2:OA) (o3:Nat) (o5:Nat) (o6:OA) (o7:Nat) (o9:Nat) (d9:Nat),v = .int .i64 ((o0:Nat):Int) ∧ Φr = [] ∧ Hr = [.blk b3 [.slice (some aX) aY aZ,.slice o2 o5 o3,.slice o6 o9 o7,.map (some d9)] 66,.own 3 1 Qi (.slice (some aX) aY aZ) o1,.own 45 2 Q9 (.slice o2 o5 o3) o4,.own 45 2 Q9 (.slice o6 o9 o7) o8,Q2s (Q1g (QQ Q2t)) false QW d9 d8,Q1l Qx 45 2 (.slice bD b1 aL) l4]):=by
 unfold Q44 at hm
 refine QZ Tryz.func21 Z Tryz.ntmps21 Z (S:=[_,_]) Z (fun C=>(Q6 (Q2 (wP Z (Q3 (Q4 (Q5 [0,1] (S':=[_,_]) Z (Q6 (Q6 (Q2 (wP Z ?_)))))))))))
 obtain ⟨_,dA,hm⟩:=Q7 hm
 try dsimp only at hm
 refine wC [0,1,2,3,4] [5] Z fn_32 Z (Q3B N b3 aX aY aZ l0 b4 b5 b6 l1 b7 b8 b9 l2 aK e3 dA) (asK [0] Z) Z (H':=[_]) Z ?_
 rintro _ _ _ ⟨rfl,rfl,rfl⟩
 refine wP Z (Q3 (Q4 (Q5 [14,0,1] (S':=V3 ..) Z (Q4q Z (Q5 [0,1] (S':=[_,_]) Z (Qs (Q4 (Q6 (Q2 (Q7I (Q1g (QQ Q2t)) false QW Z Z Z Zq Z (fun c7=>(wP Z (Q3 (Q4 ?_))))))))))))))
 refine Q5 [5,0,1] (S':=V3 ..) Z (Q6 ?_)
 obtain ⟨d1,hm,hLj_1⟩:=Q35 hm
 refine Q18 (σ:=Unit) (fun _=>d1 = .inl ()) (fun _=>[(0,.pointer (some ⟨b3,0,none⟩)),(1,.slice bD k5 aL)]) (fun _=>[tF]) (fun _=>[.blk b3 [.slice (some aX) aY aZ,.slice b4 b5 b6,.slice b7 b8 b9,.map (some aK)] 66,.own 3 1 Qi (.slice (some aX) aY aZ) l0,.own 45 2 Q9 (.slice b4 b5 b6) l1,.own 45 2 Q9 (.slice b7 b8 b9) l2,Q2s (Q1g (QQ Q2t)) false QW aK e3,Q1l Qx 45 2 (.slice bD b1 aL) l4]) ?_ ?_
 refine Q6 (Q2 (wP Z (wN Z QB (wP Z (Q3 (Q4 (Qm (Q6L [6,0,1,2,3,4,5] Z (H':=V7 ..) Z (Q1f (σ:=Nat × Nat × (List (ByteArray × Bool))) (fun (c8,aJ,b0)=>Q1o (Q29 N k5 l4 l0 l1 l2 e3) c8 (aJ,b0) = some d1) (fun (c8,aJ,b0)=>c8) (fun (c8,aJ,b0)=>[(18,.int .i64 ((aJ:Nat):Int)),(17,.int .i64 ((k5:Nat):Int)),(16,.slice bD k5 aL),(5,.map (some c7)),(0,.pointer (some ⟨b3,0,none⟩)),(1,.slice bD k5 aL)]) (fun (c8,aJ,b0)=>[tF]) (fun (c8,aJ,b0)=>[Q1l Qx 45 2 (.slice bD b1 aL) l4,Q2s (Q1g (QQ Q2t)) false QW c7 b0,.blk b3 [.slice (some aX) aY aZ,.slice b4 b5 b6,.slice b7 b8 b9,.map (some aK)] 66,.own 3 1 Qi (.slice (some aX) aY aZ) l0,.own 45 2 Q9 (.slice b4 b5 b6) l1,.own 45 2 Q9 (.slice b7 b8 b9) l2,Q2s (Q1g (QQ Q2t)) false QW aK e3]) (N,0,([] : List (ByteArray × Bool))) hm [18,17,16,5,0,1] Z (asK [0] Z) Z (fun s_ hm=>?_))))))))))
 obtain ⟨c8,aJ,b0⟩:=s_
 try dsimp only at hm ⊢
 obtain ⟨e9,eA,dB,hq,hLu1⟩:=Q1d hm
 clear hm
 subst dB
 replace hm:=hq
 clear hq
 unfold Q29 at hm
 try dsimp only at hm
 refine Q6 (Q2 (wP Z (Qz (d:=19) (v':=.bool (decide (aJ < k5))) (S':=V6 ..) Z Z (Q3f (a:=aJ) (b:=k5)) (Q3 (Q4 (Q6 ?_))))))
 refine QA Z (fun cK=>?_) (fun cK=>?_)
 replace hm:=Q1z hm cK
 refine Q5 [18,17,16,5,0,1] (S':=V6 ..) Z (Qs (Q4 (Q6 (Qm (Q6 (Q2 (Q46 0 Z (fun bA c9=>?_))))))))
 obtain ⟨a3,dC,hm⟩:=Q7 hm
 obtain ⟨a4,bP⟩:=zip_at c9 dC
 obtain ⟨dD,hm⟩:=Qd hm
 refine Q9u 1 aJ Z Z Z Zq Z Z Z Z Z dD (Qw bP) QB Qe (fun c0 dE=>?_)
 subst dE
 refine Q2x [.own 3 1 Qi (.slice a4.1 ((a3.ids ++ a3.idsT).length) a4.2) (a3.ids ++ a3.idsT),Q2j Qx bA (some aJ),_,_,_,_,_,_,_] (fun _ h=>h.bagOpen 0 aJ Z bP) (Qk Q7z 2 aJ 0 Z Z Z Zq Z Z Z bP Qe QS (v:=fun _=>.agg #[.int .i64 (a3.rule),.slice a4.1 a3.ids.length a4.2]) (fun _=>Z) (fun _=>Z) (fun _ _=>(Q25 Z Z Z Zq Z Q42 Z (fun g7=>(wS 0 0 Z Qe (all':=[_,_]) Z (H':=V10 ..) Z (Q3 (Q4 (Q5 [7,18,17,16,5,0,1] (S':=V7 ..) Z (Q6 (Q6 ?_))))))))))
 obtain ⟨dF,hm,hLj_2⟩:=Q7 hm
 unfold Q5r at hm
 refine Q18 (σ:=Bool) (fun bJ=>dF = bJ) (fun bJ=>[(7,.pointer (some ⟨g7,0,none⟩)),(18,.int .i64 ((aJ:Nat):Int)),(17,.int .i64 ((k5:Nat):Int)),(16,.slice (some ⟨c0,0,none⟩) k5 aL),(5,.map (some c7)),(0,.pointer (some ⟨b3,0,none⟩)),(1,.slice (some ⟨c0,0,none⟩) k5 aL),(40,.bool bJ)]) (fun bJ=>[tF]) (fun bJ=>[.blk g7 [.int .i64 (a3.rule),.slice a4.1 a3.ids.length a4.2] 45,.own 3 1 Qi (.slice a4.1 ((a3.ids ++ a3.idsT).length) a4.2) (a3.ids ++ a3.idsT),.own 45 2 Qx.pair (.slice (some ⟨c0,0,none⟩) b1 aL) bA,Q2s (Q1g (QQ Q2t)) false QW c7 b0,.blk b3 [.slice (some aX) aY aZ,.slice b4 b5 b6,.slice b7 b8 b9,.map (some aK)] 66,.own 3 1 Qi (.slice (some aX) aY aZ) l0,.own 45 2 Q9 (.slice b4 b5 b6) l1,.own 45 2 Q9 (.slice b7 b8 b9) l2,Q2s (Q1g (QQ Q2t)) false QW aK e3,Q2j Qx bA (some aJ)]) ?_ ?_
 rcases Q32 hm with ⟨c1,hm⟩ | ⟨c1,hm⟩
 refine QV [0,1,2,3,4,5,6,7,8,9,10,11,12,13,14,15,18] Z Z (fun hok=>(Ql hok 0 Z Z Z Zq Z Z Z Q2L (Qq hok 1 0 0 Z Z Z Zq Z Z Z Z (cs:=[_]) Z Q1w Q3z Z Z (xP hok 2 Z (xP hok 3 Z (Q1e (d:=25) (v':=.bool true) (S':=V10 ..) Z Z (Q16 c1) (xO hok 4 Z (xO hok 5 Z (xO hok 6 Z (xO hok 7 Z (xO hok 8 Z (xO hok 9 Z (xO hok 10 Z (xO hok 11 Z ?_))))))))))))))
 refine xP hok 12 Z (xP hok 13 Z (xO hok 14 Z (xO hok 15 Z (xS hok 16 Z (wO Z (Q3 (Qy [0] [0] Z Z (xS hok 17 Z (wO Z (Q3 (Qy [0] [0] Z Z (xP hok 18 Z (QL hok Z ?_)))))))))))))
 have hE:=(Zi hm).symm
 refine Q1m [0,1,3,4,5,6,7,8,9,2] Z (H':=V10 ..) Z ?_
 refine Qp true hE [7,18,17,16,5,0,1,40] Z (asK [0] Z) Z
 rcases Q32 hm with ⟨cF,hm⟩ | ⟨cF,hm⟩
 refine QV [0,1,2,3,4,5,6,7,8,9,10,11,12,13,14,15,18] Z Z (fun hok=>(Ql hok 0 Z Z Z Zq Z Z Z Q2L (Qq hok 1 0 0 Z Z Z Zq Z Z Z Z (cs:=[_]) Z Q1w Q3z Z Z (xP hok 2 Z (xP hok 3 Z (Q1e (d:=25) (v':=.bool false) (S':=V10 ..) Z Z (Q16 c1) (Ql hok 4 Z Z Z Zq Z Z Z Q2L (Qq hok 5 0 0 Z Z Z Zq Z Z Z Z (cs:=[_]) Z Q1w Q3z Z Z (xP hok 6 Z (xP hok 7 Z (Ql hok 8 Z Z Z Zq Z Z Z Q6j (Qq hok 9 5 0 Z Z Z Zq Z Z Z Z (cs:=[_]) Z Q8d Q8c Z Z (Q6D 6 Z (fun c2 _=>(Q4r hok 10 Z Z Z Zq Z Z Z tE_62 ?_)))))))))))))))
 refine Q1e (d:=32) (v':=.int .i64 ((l0.length:Nat):Int)) (S':=V17 ..) Z Z (Q4A c2) (xP hok 11 Z (xP hok 12 Z (xP hok 13 Z (Q1e (d:=35) (v':=.bool true) (S':=V20 ..) Z Z (Q16 cF) (xO hok 14 Z (xO hok 15 Z (xS hok 16 Z (wO Z (Q3 (Qy [0] [5,0,0] Z Z (xS hok 17 Z (wO Z (Q3 ?_)))))))))))))
 refine Qy [0] [5,0,0] Z Z (xP hok 18 Z (QL hok Z ?_))
 have hE:=(Zi hm).symm
 refine Q1m [0,1,3,4,5,6,7,8,9,2] Z (H':=V10 ..) Z ?_
 refine Qp true hE [7,18,17,16,5,0,1,40] Z (asK [0] Z) Z
 obtain ⟨b2,hm⟩:=Qd hm
 obtain ⟨dG,d2,hm⟩:=Q7 hm
 rcases Qab hm with ⟨cM,hm⟩ | ⟨cV,cM,hm⟩
 refine QV [0,1,2,3,4,5,6,7,8,9,10,11,12,13,14,15,18] Z Z (fun hok=>(Ql hok 0 Z Z Z Zq Z Z Z Q2L (Qq hok 1 0 0 Z Z Z Zq Z Z Z Z (cs:=[_]) Z Q1w Q3z Z Z (xP hok 2 Z (xP hok 3 Z (Q1e (d:=25) (v':=.bool false) (S':=V10 ..) Z Z (Q16 c1) (Ql hok 4 Z Z Z Zq Z Z Z Q2L (Qq hok 5 0 0 Z Z Z Zq Z Z Z Z (cs:=[_]) Z Q1w Q3z Z Z (xP hok 6 Z (xP hok 7 Z (Ql hok 8 Z Z Z Zq Z Z Z Q6j (Qq hok 9 5 0 Z Z Z Zq Z Z Z Z (cs:=[_]) Z Q8d Q8c Z Z (Q6D 6 Z (fun c2 _=>(Q4r hok 10 Z Z Z Zq Z Z Z tE_62 ?_)))))))))))))))
 refine Q1e (d:=32) (v':=.int .i64 ((l0.length:Nat):Int)) (S':=V17 ..) Z Z (Q4A c2) (xP hok 11 Z (xP hok 12 Z (xP hok 13 Z (Q1e (d:=35) (v':=.bool false) (S':=V20 ..) Z Z (Q16 cF) (xP hok 14 Z (Qq hok 15 0 0 Z Z Z Zq Z Z Z Z (cs:=[_,_]) Z Qe QS Z Z (xS hok 16 Z (Q4F 0 (v':=.agg #[.int .i64 (a3.rule),.slice a4.1 (((a3.ids ++ a3.idsT).take a3.ids.length).length) a4.2]) Z (by rw [Q3p b2]) (Q28 0 (φ':=.blk g7 [.int .i64 (a3.rule),.slice a4.1 (((a3.ids ++ a3.idsT).take a3.ids.length).length) a4.2] 45) Z (by rw [Q3p b2]) (H':=V10 ..) Z (Q2k [] [0,1,2,3,4,5,6,7,8,9] [1] Z Z Z Zq Z Z fn_42 Z (Q3U N a3.rule a4.1 a4.2 ((a3.ids ++ a3.idsT).take a3.ids.length) _ d2) (fun F w hφ hh=>(Qh (Q9o (Q1n (hh _ (Qu (k:=0) Z))) a3.ids.length) (Qh (hφ _ (Qu (k:=0) Z)) Qv))) (fun _ _ _ hR=>by obtain ⟨rfl,rfl,rfl⟩:=hR; exact ⟨Z,(fun _ h=>Q1O h)⟩) Z Z (H':=V10 ..) Z ?_))))))))))
 rintro _ _ _ ⟨rfl,rfl,rfl⟩
 refine Q4F 1 (v':=.agg #[.int .i64 (a3.rule),.slice a4.1 a3.ids.length a4.2]) Z (by rw [Q3p b2]) (Q28 0 (φ':=.blk g7 [.int .i64 (a3.rule),.slice a4.1 a3.ids.length a4.2] 45) Z (by rw [Q3p b2]) (H':=V10 ..) Z (Q3 (Qy [0] [5,0,0] Z Z (xS hok 17 Z (Q9L (i:=dG) 4 Z Z Z Zq Z Z Z Z tZ_4 Q8I trivial cM (v:=.bool false) Z (Q3 (Qy [0] [0,5,0,0] Z Z (xP hok 18 Z (QL hok Z ?_)))))))))
 have hE:=(Zi hm).symm
 refine Q1m [0,1,3,4,5,6,7,8,9,2] Z (H':=V10 ..) Z ?_
 refine Qp false hE [7,18,17,16,5,0,1,40] Z (asK [0] Z) Z
 refine QV [0,1,2,3,4,5,6,7,8,9,10,11,12,13,14,15,18] Z Z (fun hok=>(Ql hok 0 Z Z Z Zq Z Z Z Q2L (Qq hok 1 0 0 Z Z Z Zq Z Z Z Z (cs:=[_]) Z Q1w Q3z Z Z (xP hok 2 Z (xP hok 3 Z (Q1e (d:=25) (v':=.bool false) (S':=V10 ..) Z Z (Q16 c1) (Ql hok 4 Z Z Z Zq Z Z Z Q2L (Qq hok 5 0 0 Z Z Z Zq Z Z Z Z (cs:=[_]) Z Q1w Q3z Z Z (xP hok 6 Z (xP hok 7 Z (Ql hok 8 Z Z Z Zq Z Z Z Q6j (Qq hok 9 5 0 Z Z Z Zq Z Z Z Z (cs:=[_]) Z Q8d Q8c Z Z (Q6D 6 Z (fun c2 _=>(Q4r hok 10 Z Z Z Zq Z Z Z tE_62 ?_)))))))))))))))
 refine Q1e (d:=32) (v':=.int .i64 ((l0.length:Nat):Int)) (S':=V17 ..) Z Z (Q4A c2) (xP hok 11 Z (xP hok 12 Z (xP hok 13 Z (Q1e (d:=35) (v':=.bool false) (S':=V20 ..) Z Z (Q16 cF) (xP hok 14 Z (Qq hok 15 0 0 Z Z Z Zq Z Z Z Z (cs:=[_,_]) Z Qe QS Z Z (xS hok 16 Z (Q4F 0 (v':=.agg #[.int .i64 (a3.rule),.slice a4.1 (((a3.ids ++ a3.idsT).take a3.ids.length).length) a4.2]) Z (by rw [Q3p b2]) (Q28 0 (φ':=.blk g7 [.int .i64 (a3.rule),.slice a4.1 (((a3.ids ++ a3.idsT).take a3.ids.length).length) a4.2] 45) Z (by rw [Q3p b2]) (H':=V10 ..) Z (Q2k [] [0,1,2,3,4,5,6,7,8,9] [1] Z Z Z Zq Z Z fn_42 Z (Q3U N a3.rule a4.1 a4.2 ((a3.ids ++ a3.idsT).take a3.ids.length) _ d2) (fun F w hφ hh=>(Qh (Q9o (Q1n (hh _ (Qu (k:=0) Z))) a3.ids.length) (Qh (hφ _ (Qu (k:=0) Z)) Qv))) (fun _ _ _ hR=>by obtain ⟨rfl,rfl,rfl⟩:=hR; exact ⟨Z,(fun _ h=>Q1O h)⟩) Z Z (H':=V10 ..) Z ?_))))))))))
 rintro _ _ _ ⟨rfl,rfl,rfl⟩
 refine Q4F 1 (v':=.agg #[.int .i64 (a3.rule),.slice a4.1 a3.ids.length a4.2]) Z (by rw [Q3p b2]) (Q28 0 (φ':=.blk g7 [.int .i64 (a3.rule),.slice a4.1 a3.ids.length a4.2] 45) Z (by rw [Q3p b2]) (H':=V10 ..) Z (Q3 (Qy [0] [5,0,0] Z Z (xS hok 17 Z (Q98 (i:=dG) (a:=cV) Q56 4 Z Z Z Zq Z Z Z Z Q8I trivial cM (u:=fun _=>.bool cV) (fun _=>Z) (v:=fun _=>.bool cV) (fun _=>Z) (fun _ _=>(Q3 (Qy [0] [0,5,0,0] Z Z (xP hok 18 Z (QL hok Z ?_))))))))))
 have hE:=(Zi hm).symm
 refine Q1m [0,1,3,4,5,6,7,8,9,2] Z (H':=V10 ..) Z ?_
 refine Qp cV hE [7,18,17,16,5,0,1,40] Z (asK [0] Z) Z
 rintro bJ hE
 try dsimp only
 have hm:=hLj_2
 try rw [hE] at hm
 refine QA Z (fun cN=>?_) (fun cN=>?_)
 replace hm:=Q1z hm cN
 refine Q5 [] (S':=[]) Z (Q6 (Q2 (wP Z (Q3 (Q4 (QP (Qn (Q11 (Qn (Qn (Q11 (Qn ?_))))))))))))
 have hE:=(Zi hm).symm
 replace hE:=QO hLu1 hE
 replace hE:=QO hLj_1 hE
 obtain ⟨hE0,hF1⟩:=Prod.mk.inj hE
 obtain ⟨hE1,hF2⟩:=Prod.mk.inj hF1
 obtain ⟨hE2,hF3⟩:=Prod.mk.inj hF2
 obtain ⟨hE3,hE4⟩:=Prod.mk.inj hF3
 clear hE hF1 hF2 hF3
 replace hE0:=hE0.symm
 subst hE0
 replace hE1:=hE1.symm
 subst hE1
 replace hE2:=hE2.symm
 subst hE2
 replace hE3:=hE3.symm
 subst hE3
 replace hE4:=hE4.symm
 subst hE4
 refine Q1m [1,0,2,3,4,5,6,7,8,9] Z (H':=V10 ..) Z (Q6F [_,_,_,_,_,_,_,_,Q2j Qx (bA.set aJ (a3,a4)) none] (fun _ h=>QY.bagClose (T:=Qx) (x:=a3) (r:=a4) (i:=aJ) (zs:=bA) (H:=V9 ..) h 8 Z) (Q9k 8 (φ':=Q2j Qx bA none) Z (by rw [Q8a bP]) (H':=[.blk g7 [.int .i64 (a3.rule),.slice a4.1 a3.ids.length a4.2] 45,.own 45 2 Qx.pair (.slice (some ⟨c0,0,none⟩) b1 aL) bA,Q2s (Q1g (QQ Q2t)) false QW c7 b0,.blk b3 [.slice (some aX) aY aZ,.slice b4 b5 b6,.slice b7 b8 b9,.map (some aK)] 66,.own 3 1 Qi (.slice (some aX) aY aZ) l0,.own 45 2 Q9 (.slice b4 b5 b6) l1,.own 45 2 Q9 (.slice b7 b8 b9) l2,Q2s (Q1g (QQ Q2t)) false QW aK e3,Q2j Qx bA none]) Z (Q6F [_,Q1l Qx 45 2 (.slice (some ⟨c0,0,none⟩) b1 aL) l4,_,_,_,_,_,_] (fun _ h=>h.treeIn 1 8 Z Z Z c9) ?_)))
 refine QH (Hr:=V6 ..) [3,4,5,6,7,1] Tryz.results21 (QD Z) ⟨b4,b6,b5,b7,b9,b8,aK,Z,Z,Z⟩ (asK [] Z) Z Z (.inl Z)
 replace hm:=Q1y hm cN
 refine Q5 [7,18,17,16,5,0,1] (S':=V7 ..) Z (Qs (Q4 (Q2 (wP Z (Q1V 0 0 Z Z Z Zq Z Z Z (cs:=[_,_]) Z Qe QS Z Z ?_)))))
 obtain ⟨b2,hm⟩:=Qd hm
 refine Q4F 0 (v':=.agg #[.int .i64 (a3.rule),.slice a4.1 (((a3.ids ++ a3.idsT).take a3.ids.length).length) a4.2]) Z (by rw [Q3p b2]) (Q28 0 (φ':=.blk g7 [.int .i64 (a3.rule),.slice a4.1 (((a3.ids ++ a3.idsT).take a3.ids.length).length) a4.2] 45) Z (by rw [Q3p b2]) (H':=V10 ..) Z ?_)
 obtain ⟨cW,dH,hm⟩:=Q7 hm
 refine Q2k [] [0,1,2,3,4,5,6,7,8,9] [1] Z Z Z Zq Z Z fn_42 Z (Q3U N a3.rule a4.1 a4.2 ((a3.ids ++ a3.idsT).take a3.ids.length) _ dH) (fun F w hφ hh=>(Qh (Q9o (Q1n (hh _ (Qu (k:=0) Z))) a3.ids.length) (Qh (hφ _ (Qu (k:=0) Z)) Qv))) (fun _ _ _ hR=>by obtain ⟨rfl,rfl,rfl⟩:=hR; exact ⟨Z,(fun _ h=>Q1O h)⟩) Z Z (H':=V10 ..) Z ?_
 rintro _ _ _ ⟨rfl,rfl,rfl⟩
 refine Q4F 1 (v':=.agg #[.int .i64 (a3.rule),.slice a4.1 a3.ids.length a4.2]) Z (by rw [Q3p b2]) (Q28 0 (φ':=.blk g7 [.int .i64 (a3.rule),.slice a4.1 a3.ids.length a4.2] 45) Z (by rw [Q3p b2]) (H':=V10 ..) Z (Q7C (i:=cW) (u:=true) (cs:=[.bool true]) ltB 3 Z Z (.inl Z) Z Z Z Z Q8I trivial Z (fun F w hφ=>⟨(),Z,Qv⟩) (H':=[.blk g7 [.int .i64 (a3.rule),.slice a4.1 a3.ids.length a4.2] 45,.own 3 1 Qi (.slice a4.1 ((a3.ids ++ a3.idsT).length) a4.2) (a3.ids ++ a3.idsT),.own 45 2 Qx.pair (.slice (some ⟨c0,0,none⟩) b1 aL) bA,Q2s (Q1g (QQ Q2t)) false QW c7 (Q61 ltB cW true b0),.blk b3 [.slice (some aX) aY aZ,.slice b4 b5 b6,.slice b7 b8 b9,.map (some aK)] 66,.own 3 1 Qi (.slice (some aX) aY aZ) l0,.own 45 2 Q9 (.slice b4 b5 b6) l1,.own 45 2 Q9 (.slice b7 b8 b9) l2,Q2s (Q1g (QQ Q2t)) false QW aK e3,Q2j Qx bA (some aJ)]) Z (Q3 (Qj (Q4 (Q5 [18,17,16,5,0,1] (S':=V6 ..) Z (Q2 (wP Z ?_))))))))
 obtain ⟨dI,hm⟩:=Qd hm
 refine Qz (d:=44) (v':=.int .i64 ((aJ + 1:Nat):Int)) (S':=V6 ..) Z Z (Q1i (a:=aJ) (b:=1) dI) (QI (S':=V6 ..) Z Z Z Z Z (Q3 ?_))
 have hE:=(Zi hm).symm
 replace hE:=Q14 hLu1 hE
 refine Q1m [1,0,2,3,4,5,6,7,8,9] Z (H':=V10 ..) Z (Q6F [_,_,_,_,_,_,_,_,Q2j Qx (bA.set aJ (a3,a4)) none] (fun _ h=>QY.bagClose (T:=Qx) (x:=a3) (r:=a4) (i:=aJ) (zs:=bA) (H:=V9 ..) h 8 Z) (Q9k 8 (φ':=Q2j Qx bA none) Z (by rw [Q8a bP]) (H':=[.blk g7 [.int .i64 (a3.rule),.slice a4.1 a3.ids.length a4.2] 45,.own 45 2 Qx.pair (.slice (some ⟨c0,0,none⟩) b1 aL) bA,Q2s (Q1g (QQ Q2t)) false QW c7 (Q61 ltB cW true b0),.blk b3 [.slice (some aX) aY aZ,.slice b4 b5 b6,.slice b7 b8 b9,.map (some aK)] 66,.own 3 1 Qi (.slice (some aX) aY aZ) l0,.own 45 2 Q9 (.slice b4 b5 b6) l1,.own 45 2 Q9 (.slice b7 b8 b9) l2,Q2s (Q1g (QQ Q2t)) false QW aK e3,Q2j Qx bA none]) Z (Q6F [_,Q1l Qx 45 2 (.slice (some ⟨c0,0,none⟩) b1 aL) l4,_,_,_,_,_,_] (fun _ h=>h.treeIn 1 8 Z Z Z c9) (Q1m [1,2,3,4,5,6,7] Z (H':=V7 ..) Z ?_))))
 refine Q1a (_,aJ + 1,Q61 ltB cW true b0) (Nat.lt_succ_self _) hE [18,17,16,5,0,1] Z (asK [0] Z) Z
 replace hm:=Q1y hm cK
 refine Q5 [0,1] (S':=[_,_]) Z (Q19 (Qc (Qc (Qt ?_))))
 have hE:=(Zi hm).symm
 replace hE:=QO hLu1 hE
 refine Q1m [2,3,4,5,6,0] Z (H':=V6 ..) Z ?_
 refine Qp () hE [0,1] Z (asK [0] Z) Z
 rintro _ hE
 try dsimp only
 have hm:=Q14 hLj_1 hE
 try dsimp only at hm
 refine Q6 (Q2 (wP Z (wP Z (wP Z (wF Z Q5W (wS 0 1 Z Q1X (all':=V4 ..) Z (H':=V6 ..) Z (wP Z (wF Z Q6b (wS 0 2 Z Q1X (all':=V4 ..) Z (H':=V6 ..) Z (Q3 (Q4 (Q5 [0,1] (S':=[_,_]) Z (Q6 ?_)))))))))))))
 refine Q2 (Q7I (Q1g (QQ Q2t)) false QW Z Z Z Zq Z (fun bL=>(wP Z (Q3 (Q4 (Q5 [8,0,1] (S':=V3 ..) Z (Q6 ?_)))))))
 obtain ⟨d3,hm,hLj_3⟩:=Q7 hm
 refine Q18 (σ:=(List (ByteArray × Bool)) × (List Q1) × (List Q1) × OA × Nat × Nat × OA × Nat × Nat) (fun (bE,aC,aD,aF,aG,aN,aH,aI,aO)=>d3 = (bE,aC,aD)) (fun (bE,aC,aD,aF,aG,aN,aH,aI,aO)=>[(8,.map (some bL)),(0,.pointer (some ⟨b3,0,none⟩))]) (fun (bE,aC,aD,aF,aG,aN,aH,aI,aO)=>[tF]) (fun (bE,aC,aD,aF,aG,aN,aH,aI,aO)=>[Q2s (Q1g (QQ Q2t)) false QW bL bE,.blk b3 [.slice (some aX) aY aZ,.slice aF aN aG,.slice aH aO aI,.map (some aK)] 66,.own 3 1 Qi (.slice (some aX) aY aZ) l0,Q1l Qb 45 2 (.slice aF aN aG) aC,Q1l Qb 45 2 (.slice aH aO aI) aD,Q2s (Q1g (QQ Q2t)) false QW aK e3,.own 45 2 Q9 (.slice b4 b5 b6) l1,.own 45 2 Q9 (.slice b7 b8 b9) l2,Q1l Qx 45 2 (.slice bD b1 aL) l4]) ?_ ?_
 refine Q6 (Q2 (wP Z (wN Z QB (wP Z (Q3 (Q4 (Q5 [54,53,52,8,0] (S':=V5 ..) Z (Qm (wc_sh [Q1l Qb 45 2 (V1) [],_,_,_,_,_,_,_] (fun _ h=>h.treeNil Qb 45 2) (wc_sh [Q1l Qb 45 2 (V1) [],_,_,_,_,_,_,_,_] (fun _ h=>h.treeNil Qb 45 2) (Q6L [8,2,3,4,1,0,7,5,6] Z (H':=V9 ..) Z (Q1f (σ:=Nat × Nat × (List (ByteArray × Bool)) × (List Q1) × (List Q1) × OA × Nat × Nat × OA × Nat × Nat) (fun (cA,aE,aM,a1,a2,a6,a7,a8,a9,aA,aB)=>Q1o (Q2a N k5 l4 e3) cA (aE,aM,a1,a2) = some d3) (fun (cA,aE,aM,a1,a2,a6,a7,a8,a9,aA,aB)=>cA) (fun (cA,aE,aM,a1,a2,a6,a7,a8,a9,aA,aB)=>[(54,.int .i64 ((aE:Nat):Int)),(53,.int .i64 ((k5:Nat):Int)),(52,.slice bD k5 aL),(8,.map (some bL)),(0,.pointer (some ⟨b3,0,none⟩))]) (fun (cA,aE,aM,a1,a2,a6,a7,a8,a9,aA,aB)=>[tF]) (fun (cA,aE,aM,a1,a2,a6,a7,a8,a9,aA,aB)=>[Q1l Qx 45 2 (.slice bD b1 aL) l4,Q2s (Q1g (QQ Q2t)) false QW bL aM,.blk b3 [.slice (some aX) aY aZ,.slice a6 a8 a7,.slice a9 aB aA,.map (some aK)] 66,.own 3 1 Qi (.slice (some aX) aY aZ) l0,Q1l Qb 45 2 (.slice a6 a8 a7) a1,Q1l Qb 45 2 (.slice a9 aB aA) a2,Q2s (Q1g (QQ Q2t)) false QW aK e3,.own 45 2 Q9 (.slice b4 b5 b6) l1,.own 45 2 Q9 (.slice b7 b8 b9) l2]) (N,0,([] : List (ByteArray × Bool)),[],[],none,0,0,none,0,0) hm [54,53,52,8,0] Z (asK [0] Z) Z (fun s_ hm=>?_)))))))))))))
 obtain ⟨cA,aE,aM,a1,a2,a6,a7,a8,a9,aA,aB⟩:=s_
 try dsimp only at hm ⊢
 obtain ⟨eB,eC,dJ,hq,hLu2⟩:=Q1d hm
 clear hm
 subst dJ
 replace hm:=hq
 clear hq
 unfold Q2a at hm
 try dsimp only at hm
 refine Q6 (Q2 (wP Z (Qz (d:=55) (v':=.bool (decide (aE < k5))) (S':=V5 ..) Z Z (Q3f (a:=aE) (b:=k5)) (Q3 (Q4 (Q6 ?_))))))
 refine QA Z (fun cO=>?_) (fun cO=>?_)
 replace hm:=Q1z hm cO
 refine Q5 [54,53,52,8,0] (S':=V5 ..) Z (Qs (Q4 (Q6 ?_)))
 obtain ⟨dK,hm,hLj_4⟩:=Q7 hm
 unfold Q5s at hm
 refine Q18 (σ:=(List (ByteArray × Bool)) × (List Q1) × (List Q1) × OA × Nat × Nat × OA × Nat × Nat) (fun (bB,aP,aQ,aR,aS,aT,aU,aV,aW)=>dK = (bB,aP,aQ)) (fun (bB,aP,aQ,aR,aS,aT,aU,aV,aW)=>[(54,.int .i64 ((aE:Nat):Int)),(53,.int .i64 ((k5:Nat):Int)),(52,.slice bD k5 aL),(8,.map (some bL)),(0,.pointer (some ⟨b3,0,none⟩))]) (fun (bB,aP,aQ,aR,aS,aT,aU,aV,aW)=>[tF]) (fun (bB,aP,aQ,aR,aS,aT,aU,aV,aW)=>[Q1l Qx 45 2 (.slice bD b1 aL) l4,Q2s (Q1g (QQ Q2t)) false QW bL bB,.blk b3 [.slice (some aX) aY aZ,.slice aR aT aS,.slice aU aW aV,.map (some aK)] 66,.own 3 1 Qi (.slice (some aX) aY aZ) l0,Q1l Qb 45 2 (.slice aR aT aS) aP,Q1l Qb 45 2 (.slice aU aW aV) aQ,Q2s (Q1g (QQ Q2t)) false QW aK e3,.own 45 2 Q9 (.slice b4 b5 b6) l1,.own 45 2 Q9 (.slice b7 b8 b9) l2]) ?_ ?_
 refine Qm (Q6 (Q2 (Q46 0 Z (fun bC cB=>?_))))
 obtain ⟨a0,dL,hm⟩:=Q7 hm
 obtain ⟨a5,bQ⟩:=zip_at cB dL
 obtain ⟨dM,hm⟩:=Qd hm
 refine Q9u 1 aE Z Z Z Zq Z Z Z Z Z dM (Qw bQ) QB Qe (fun cC dN=>?_)
 subst dN
 refine Q2x [.own 3 1 Qi (.slice a5.1 ((a0.ids ++ a0.idsT).length) a5.2) (a0.ids ++ a0.idsT),Q2j Qx bC (some aE),_,_,_,_,_,_,_,_,_] (fun _ h=>h.bagOpen 0 aE Z bQ) (Qk Q7z 2 aE 0 Z Z Z Zq Z Z Z bQ Qe QS (v:=fun _=>.agg #[.int .i64 (a0.rule),.slice a5.1 a0.ids.length a5.2]) (fun _=>Z) (fun _=>Z) (fun _ _=>(Q25 Z Z Z Zq Z Q42 Z (fun bR=>(wS 0 0 Z Qe (all':=[_,_]) Z (H':=V12 ..) Z (Q3 (Q4 (Q5 [10,54,53,52,8,0] (S':=V6 ..) Z (Q6 (Q6 (Q2 (Q1V 0 0 Z Z Z Zq Z Z Z (cs:=[_,_]) Z Qe QS Z Z ?_))))))))))))
 obtain ⟨bM,hm⟩:=Qd hm
 refine Q4F 0 (v':=.agg #[.int .i64 (a0.rule),.slice a5.1 (((a0.ids ++ a0.idsT).take a0.ids.length).length) a5.2]) Z (by rw [Q3p bM]) (Q28 0 (φ':=.blk bR [.int .i64 (a0.rule),.slice a5.1 (((a0.ids ++ a0.idsT).take a0.ids.length).length) a5.2] 45) Z (by rw [Q3p bM]) (H':=V12 ..) Z ?_)
 obtain ⟨cD,dO,hm⟩:=Q7 hm
 refine Q2k [] [0,1,2,3,4,5,6,7,8,9,10,11] [1] Z Z Z Zq Z Z fn_42 Z (Q3U N a0.rule a5.1 a5.2 ((a0.ids ++ a0.idsT).take a0.ids.length) _ dO) (fun F w hφ hh=>(Qh (Q9o (Q1n (hh _ (Qu (k:=0) Z))) a0.ids.length) (Qh (hφ _ (Qu (k:=0) Z)) Qv))) (fun _ _ _ hR=>by obtain ⟨rfl,rfl,rfl⟩:=hR; exact ⟨Z,(fun _ h=>Q1O h)⟩) Z Z (H':=V12 ..) Z ?_
 rintro _ _ _ ⟨rfl,rfl,rfl⟩
 refine Q4F 1 (v':=.agg #[.int .i64 (a0.rule),.slice a5.1 a0.ids.length a5.2]) Z (by rw [Q3p bM]) (Q28 0 (φ':=.blk bR [.int .i64 (a0.rule),.slice a5.1 a0.ids.length a5.2] 45) Z (by rw [Q3p bM]) (H':=V12 ..) Z (wP Z (Q3 (Q4 (Q5 [11,10,54,53,52,8,0] (S':=V7 ..) Z (Q6 ?_))))))
 obtain ⟨dP,hm,hLj_5⟩:=Q7 hm
 refine Q18 (σ:=Bool) (fun bK=>dP = bK) (fun bK=>[(11,.string cD),(10,.pointer (some ⟨bR,0,none⟩)),(54,.int .i64 ((aE:Nat):Int)),(53,.int .i64 ((k5:Nat):Int)),(52,.slice (some ⟨cC,0,none⟩) k5 aL),(8,.map (some bL)),(0,.pointer (some ⟨b3,0,none⟩)),(65,.bool bK)]) (fun bK=>[tF]) (fun bK=>[.blk bR [.int .i64 (a0.rule),.slice a5.1 a0.ids.length a5.2] 45,.own 3 1 Qi (.slice a5.1 ((a0.ids ++ a0.idsT).length) a5.2) (a0.ids ++ a0.idsT),.own 45 2 Qx.pair (.slice (some ⟨cC,0,none⟩) b1 aL) bC,Q2s (Q1g (QQ Q2t)) false QW bL aM,.blk b3 [.slice (some aX) aY aZ,.slice a6 a8 a7,.slice a9 aB aA,.map (some aK)] 66,.own 3 1 Qi (.slice (some aX) aY aZ) l0,Q1l Qb 45 2 (.slice a6 a8 a7) a1,Q1l Qb 45 2 (.slice a9 aB aA) a2,Q2s (Q1g (QQ Q2t)) false QW aK e3,Q2j Qx bC (some aE),.own 45 2 Q9 (.slice b4 b5 b6) l1,.own 45 2 Q9 (.slice b7 b8 b9) l2]) ?_ ?_
 refine Q2 (wP Z (wP Z (wF Z Q9H (wD 5 3 Z tS_64 tA_64 Z (wP Z ?_)))))
 rcases Qab hm with ⟨cP,hm⟩ | ⟨cX,cP,hm⟩
 refine Q9L (i:=cD) 9 Z Z Z Zq Z Z Z Z tZ_4 Q8I trivial cP (v:=.bool false) Z (Q3 ?_)
 have hE:=(Zi hm).symm
 refine Q1m [0,1,3,4,5,6,7,8,9,2,10,11] Z (H':=V12 ..) Z ?_
 refine Qp false hE [11,10,54,53,52,8,0,65] Z (asK [0] Z) Z
 refine Q98 (i:=cD) (a:=cX) Q56 9 Z Z Z Zq Z Z Z Z Q8I trivial cP (u:=fun _=>.bool cX) (fun _=>Z) (v:=fun _=>.bool cX) (fun _=>Z) (fun _ _=>(Q3 ?_))
 have hE:=(Zi hm).symm
 refine Q1m [0,1,3,4,5,6,7,8,9,2,10,11] Z (H':=V12 ..) Z ?_
 refine Qp cX hE [11,10,54,53,52,8,0,65] Z (asK [0] Z) Z
 rintro bK hE
 try dsimp only
 have hm:=hLj_5
 try rw [hE] at hm
 refine QA Z (fun cQ=>?_) (fun cQ=>?_)
 replace hm:=Q1z hm cQ
 refine Q5 [11,10,54,53,52,8,0] (S':=V7 ..) Z (Q6 (Q2 (wP Z (wP Z (Q7C (i:=cD) (u:=true) (cs:=[.bool true]) ltB 3 Z Z (.inl Z) Z Z Z Z Q8I trivial Z (fun F w hφ=>⟨(),Z,Qv⟩) (H':=[.blk bR [.int .i64 (a0.rule),.slice a5.1 a0.ids.length a5.2] 45,.own 3 1 Qi (.slice a5.1 ((a0.ids ++ a0.idsT).length) a5.2) (a0.ids ++ a0.idsT),.own 45 2 Qx.pair (.slice (some ⟨cC,0,none⟩) b1 aL) bC,Q2s (Q1g (QQ Q2t)) false QW bL (Q61 ltB cD true aM),.blk b3 [.slice (some aX) aY aZ,.slice a6 a8 a7,.slice a9 aB aA,.map (some aK)] 66,.own 3 1 Qi (.slice (some aX) aY aZ) l0,Q1l Qb 45 2 (.slice a6 a8 a7) a1,Q1l Qb 45 2 (.slice a9 aB aA) a2,Q2s (Q1g (QQ Q2t)) false QW aK e3,Q2j Qx bC (some aE),.own 45 2 Q9 (.slice b4 b5 b6) l1,.own 45 2 Q9 (.slice b7 b8 b9) l2]) Z (Q3 (Q4 (Q5 [10,54,53,52,8,0] (S':=V6 ..) Z (Q6 ?_)))))))))
 obtain ⟨bN,hm⟩:=Qd hm
 obtain ⟨_,dQ,hm⟩:=Q7 hm
 try dsimp only at hm
 obtain ⟨dR,hm⟩:=Qd hm
 refine QV [0,1,2,3,4,5,9,10] Z Z (fun hok=>(xP hok 0 Z (xP hok 1 Z (xP hok 2 Z (Ql hok 3 Z Z Z Zq Z Z Z Q6b (Qq hok 4 4 2 Z Z Z Zq Z Z Z Z (cs:=[_]) Z Q1X Q3D Z Z (Qq hok 5 0 0 Z Z Z Zq Z Z Z Z (cs:=[_,_]) Z Qe QS Z Z (xS hok 6 Z (Q4F 0 (v':=.agg #[.int .i64 (a0.rule),.slice a5.1 (((a0.ids ++ a0.idsT).take a0.ids.length).length) a5.2]) Z (by rw [Q3p bN]) (Q28 0 (φ':=.blk bR [.int .i64 (a0.rule),.slice a5.1 (((a0.ids ++ a0.idsT).take a0.ids.length).length) a5.2] 45) Z (by rw [Q3p bN]) (H':=V12 ..) Z (Q2k [] [0,1,2,3,4,5,6,7,8,9,10,11] [1] Z Z Z Zq Z Z fn_33 Z (Q5d N a0.rule a5.1 a5.2 ((a0.ids ++ a0.idsT).take a0.ids.length) dQ) (fun F w hφ hh=>(Qh (Q9o (Q1n (hh _ (Qu (k:=0) Z))) a0.ids.length) (Qh (hφ _ (Qu (k:=0) Z)) Qv))) (fun _ _ _ hR=>by obtain ⟨_,_,rfl,rfl,rfl⟩:=hR; exact ⟨Z,(Q7d (Q7N Q6I) (fun _ h=>Q1O h))⟩) Z Z (H':=V12 ..) Z ?_)))))))))))
 rintro _ _ _ ⟨bF,bG,rfl,rfl,rfl⟩
 refine Q4F 1 (v':=.agg #[.int .i64 (a0.rule),.slice a5.1 a0.ids.length a5.2]) Z (by rw [Q3p bN]) (Q28 1 (φ':=.blk bR [.int .i64 (a0.rule),.slice a5.1 a0.ids.length a5.2] 45) Z (by rw [Q3p bN]) (H':=V13 ..) Z (Q3 (Qy [0] [5] Z Z (xS hok 7 Z (QE Z Z Z Zq Z QB Qe Q42 Z (zs:=[.int .i64 0,V1]) (by kernel_rfl) Z (out:=[_,_]) Z (fun eD=>(Q3 (Qy [0] [2,6] Z Z (xS hok 8 Z (Q2o 9 Z (fun d4 _=>?_)))))))))))
 subst d4
 refine Q46 9 Z (fun bS cR=>?_)
 have bY:List.map (fun x:Q1 × (OA × Nat)=>x.1) (bS ++ [((⟨a0.rule,(a0.ids ++ a0.idsT).take a0.ids.length⟩ : Q1),(bF,bG))]) = a2 ++ [(⟨a0.rule,(a0.ids ++ a0.idsT).take a0.ids.length⟩ : Q1)]:=Q88 cR (us:=[(⟨a0.rule,(a0.ids ++ a0.idsT).take a0.ids.length⟩ : Q1)]) rfl
 have cS:bS.length + ([((⟨a0.rule,(a0.ids ++ a0.idsT).take a0.ids.length⟩ : Q1),(bF,bG))] : List (Q1 × (OA × Nat))).length ≤ 4398046511104:=by rw [Q3g cR]; exact dR
 refine Q2w (R:=Qb.pair) ([((⟨a0.rule,(a0.ids ++ a0.idsT).take a0.ids.length⟩ : Q1),(bF,bG))]) 10 1 Z Z Z Zq Z Z Z Z Z (fun F w hφ=>⟨[.int .i64 (a0.rule),.slice bF (((a0.ids ++ a0.idsT).take a0.ids.length).length) bG],[],Z,Z,Z,Z⟩) QB Q7P Z Z (Nat.le_trans cS (by decide)) (Nat.le_trans (Nat.mul_le_mul_right _ cS) (by decide)) (H2:=fun c3 c4=>[_,_,_,_,_,_,_,_,_,_,.own 45 2 Qb.pair (.slice c3 ((bS ++ [((⟨a0.rule,(a0.ids ++ a0.idsT).take a0.ids.length⟩ : Q1),(bF,bG))]).length) c4) (bS ++ [((⟨a0.rule,(a0.ids ++ a0.idsT).take a0.ids.length⟩ : Q1),(bF,bG))]),_,_,_,_]) (fun _ _=>Z) (fun c3 c4=>(Q3E 1 Z (H':=V14 ..) Z (Qz (d:=76) (v':=.slice c3 ((a2 ++ [(⟨a0.rule,(a0.ids ++ a0.idsT).take a0.ids.length⟩ : Q1)]).length) c4) (S':=V14 ..) Z Z (by rw [Q3g bY]) (Q28 9 (φ':=.own 45 2 Qb.pair (.slice c3 ((a2 ++ [(⟨a0.rule,(a0.ids ++ a0.idsT).take a0.ids.length⟩ : Q1)]).length) c4) (bS ++ [((⟨a0.rule,(a0.ids ++ a0.idsT).take a0.ids.length⟩ : Q1),(bF,bG))])) Z (by rw [Q3g bY]) (H':=V14 ..) Z (Q55 [1,0,2,3,4,5,6,7,8,9,10,11,12,13] Z (H':=V14 ..) Z (Q2x [Q2j Qb (bS ++ [((⟨a0.rule,(a0.ids ++ a0.idsT).take a0.ids.length⟩ : Q1),(bF,bG))]) none,_,_,_,_,_,_,_,_,_,_,_,_] (fun _ h=>QY.bagPush (T:=Qb) (x:=(⟨a0.rule,(a0.ids ++ a0.idsT).take a0.ids.length⟩ : Q1)) (r:=(bF,bG)) (zs:=bS) (H:=V13 ..) h 0 Z) (Q2x [_,_,_,_,_,_,_,Q1l Qb 45 2 (.slice c3 ((a2 ++ [(⟨a0.rule,(a0.ids ++ a0.idsT).take a0.ids.length⟩ : Q1)]).length) c4) (a2 ++ [(⟨a0.rule,(a0.ids ++ a0.idsT).take a0.ids.length⟩ : Q1)]),_,_,_,_] (fun _ h=>h.treeIn 8 0 Z Z Z bY) (Q3 (Qy [0] [0] Z Z (xP hok 9 Z (Ql hok 10 Z Z Z Zq Z Z Z Q6b (xS hok 11 Z (wS 4 2 Z Q1X (all':=V4 ..) Z (H':=V12 ..) Z (Q3 ?_))))))))))))))
 refine Qy [0] [] Z Z (QL hok Z (Q4 (Q5 [54,53,52,8,0] (S':=V5 ..) Z (Q19 (Qc (Qt ?_))))))
 have hE:=(Zi hm).symm
 refine Q1m [1,0,2,3,4,5,6,7,8,9,10,11] Z (H':=V12 ..) Z (Q6F [_,_,_,_,_,_,_,_,Q2j Qx (bC.set aE (a0,a5)) none,_,_] (fun _ h=>QY.bagClose (T:=Qx) (x:=a0) (r:=a5) (i:=aE) (zs:=bC) (H:=V11 ..) h 8 Z) (Q9k 8 (φ':=Q2j Qx bC none) Z (by rw [Q8a bQ]) (H':=[.blk bR [.int .i64 (a0.rule),.slice a5.1 a0.ids.length a5.2] 45,.own 45 2 Qx.pair (.slice (some ⟨cC,0,none⟩) b1 aL) bC,Q2s (Q1g (QQ Q2t)) false QW bL (Q61 ltB cD true aM),.blk b3 [.slice (some aX) aY aZ,.slice a6 a8 a7,.slice c3 ((a2 ++ [(⟨a0.rule,(a0.ids ++ a0.idsT).take a0.ids.length⟩ : Q1)]).length) c4,.map (some aK)] 66,.own 3 1 Qi (.slice (some aX) aY aZ) l0,Q1l Qb 45 2 (.slice a6 a8 a7) a1,Q1l Qb 45 2 (.slice c3 ((a2 ++ [(⟨a0.rule,(a0.ids ++ a0.idsT).take a0.ids.length⟩ : Q1)]).length) c4) (a2 ++ [(⟨a0.rule,(a0.ids ++ a0.idsT).take a0.ids.length⟩ : Q1)]),Q2s (Q1g (QQ Q2t)) false QW aK e3,Q2j Qx bC none,.own 45 2 Q9 (.slice b4 b5 b6) l1,.own 45 2 Q9 (.slice b7 b8 b9) l2]) Z (Q6F [_,Q1l Qx 45 2 (.slice (some ⟨cC,0,none⟩) b1 aL) l4,_,_,_,_,_,_,_,_] (fun _ h=>h.treeIn 1 8 Z Z Z cB) (Q1m [1,2,3,4,5,6,7,8,9] Z (H':=V9 ..) Z ?_))))
 refine Qp (Q61 ltB cD true aM,a1,(a2 ++ [(⟨a0.rule,(a0.ids ++ a0.idsT).take a0.ids.length⟩ : Q1)]),a6,a7,a8,c3,c4,((a2 ++ [(⟨a0.rule,(a0.ids ++ a0.idsT).take a0.ids.length⟩ : Q1)]).length)) hE [54,53,52,8,0] Z (asK [0] Z) Z
 replace hm:=Q1y hm cQ
 refine Q5 [10,54,53,52,8,0] (S':=V6 ..) Z (Qs (Q4 ?_))
 obtain ⟨bO,hm⟩:=Qd hm
 obtain ⟨_,dS,hm⟩:=Q7 hm
 try dsimp only at hm
 obtain ⟨dT,hm⟩:=Qd hm
 refine QV [0,1,2,3,4,5,9,10] Z Z (fun hok=>(xP hok 0 Z (xP hok 1 Z (xP hok 2 Z (Ql hok 3 Z Z Z Zq Z Z Z Q5W (Qq hok 4 4 1 Z Z Z Zq Z Z Z Z (cs:=[_]) Z Q1X Q3D Z Z (Qq hok 5 0 0 Z Z Z Zq Z Z Z Z (cs:=[_,_]) Z Qe QS Z Z (xS hok 6 Z (Q4F 0 (v':=.agg #[.int .i64 (a0.rule),.slice a5.1 (((a0.ids ++ a0.idsT).take a0.ids.length).length) a5.2]) Z (by rw [Q3p bO]) (Q28 0 (φ':=.blk bR [.int .i64 (a0.rule),.slice a5.1 (((a0.ids ++ a0.idsT).take a0.ids.length).length) a5.2] 45) Z (by rw [Q3p bO]) (H':=V12 ..) Z (Q2k [] [0,1,2,3,4,5,6,7,8,9,10,11] [1] Z Z Z Zq Z Z fn_33 Z (Q5d N a0.rule a5.1 a5.2 ((a0.ids ++ a0.idsT).take a0.ids.length) dS) (fun F w hφ hh=>(Qh (Q9o (Q1n (hh _ (Qu (k:=0) Z))) a0.ids.length) (Qh (hφ _ (Qu (k:=0) Z)) Qv))) (fun _ _ _ hR=>by obtain ⟨_,_,rfl,rfl,rfl⟩:=hR; exact ⟨Z,(Q7d (Q7N Q6I) (fun _ h=>Q1O h))⟩) Z Z (H':=V12 ..) Z ?_)))))))))))
 rintro _ _ _ ⟨bH,bI,rfl,rfl,rfl⟩
 refine Q4F 1 (v':=.agg #[.int .i64 (a0.rule),.slice a5.1 a0.ids.length a5.2]) Z (by rw [Q3p bO]) (Q28 1 (φ':=.blk bR [.int .i64 (a0.rule),.slice a5.1 a0.ids.length a5.2] 45) Z (by rw [Q3p bO]) (H':=V13 ..) Z (Q3 (Qy [0] [5] Z Z (xS hok 7 Z (QE Z Z Z Zq Z QB Qe Q42 Z (zs:=[.int .i64 0,V1]) (by kernel_rfl) Z (out:=[_,_]) Z (fun eE=>(Q3 (Qy [0] [2,6] Z Z (xS hok 8 Z (Q2o 8 Z (fun d5 _=>?_)))))))))))
 subst d5
 refine Q46 8 Z (fun bT cT=>?_)
 have bZ:List.map (fun x:Q1 × (OA × Nat)=>x.1) (bT ++ [((⟨a0.rule,(a0.ids ++ a0.idsT).take a0.ids.length⟩ : Q1),(bH,bI))]) = a1 ++ [(⟨a0.rule,(a0.ids ++ a0.idsT).take a0.ids.length⟩ : Q1)]:=Q88 cT (us:=[(⟨a0.rule,(a0.ids ++ a0.idsT).take a0.ids.length⟩ : Q1)]) rfl
 have cU:bT.length + ([((⟨a0.rule,(a0.ids ++ a0.idsT).take a0.ids.length⟩ : Q1),(bH,bI))] : List (Q1 × (OA × Nat))).length ≤ 4398046511104:=by rw [Q3g cT]; exact dT
 refine Q2w (R:=Qb.pair) ([((⟨a0.rule,(a0.ids ++ a0.idsT).take a0.ids.length⟩ : Q1),(bH,bI))]) 9 1 Z Z Z Zq Z Z Z Z Z (fun F w hφ=>⟨[.int .i64 (a0.rule),.slice bH (((a0.ids ++ a0.idsT).take a0.ids.length).length) bI],[],Z,Z,Z,Z⟩) QB Q7P Z Z (Nat.le_trans cU (by decide)) (Nat.le_trans (Nat.mul_le_mul_right _ cU) (by decide)) (H2:=fun c5 c6=>[_,_,_,_,_,_,_,_,_,.own 45 2 Qb.pair (.slice c5 ((bT ++ [((⟨a0.rule,(a0.ids ++ a0.idsT).take a0.ids.length⟩ : Q1),(bH,bI))]).length) c6) (bT ++ [((⟨a0.rule,(a0.ids ++ a0.idsT).take a0.ids.length⟩ : Q1),(bH,bI))]),_,_,_,_,_]) (fun _ _=>Z) (fun c5 c6=>(Q3E 1 Z (H':=V14 ..) Z (Qz (d:=87) (v':=.slice c5 ((a1 ++ [(⟨a0.rule,(a0.ids ++ a0.idsT).take a0.ids.length⟩ : Q1)]).length) c6) (S':=V14 ..) Z Z (by rw [Q3g bZ]) (Q28 8 (φ':=.own 45 2 Qb.pair (.slice c5 ((a1 ++ [(⟨a0.rule,(a0.ids ++ a0.idsT).take a0.ids.length⟩ : Q1)]).length) c6) (bT ++ [((⟨a0.rule,(a0.ids ++ a0.idsT).take a0.ids.length⟩ : Q1),(bH,bI))])) Z (by rw [Q3g bZ]) (H':=V14 ..) Z (Q55 [1,0,2,3,4,5,6,7,8,9,10,11,12,13] Z (H':=V14 ..) Z (Q2x [Q2j Qb (bT ++ [((⟨a0.rule,(a0.ids ++ a0.idsT).take a0.ids.length⟩ : Q1),(bH,bI))]) none,_,_,_,_,_,_,_,_,_,_,_,_] (fun _ h=>QY.bagPush (T:=Qb) (x:=(⟨a0.rule,(a0.ids ++ a0.idsT).take a0.ids.length⟩ : Q1)) (r:=(bH,bI)) (zs:=bT) (H:=V13 ..) h 0 Z) (Q2x [_,_,_,_,_,_,Q1l Qb 45 2 (.slice c5 ((a1 ++ [(⟨a0.rule,(a0.ids ++ a0.idsT).take a0.ids.length⟩ : Q1)]).length) c6) (a1 ++ [(⟨a0.rule,(a0.ids ++ a0.idsT).take a0.ids.length⟩ : Q1)]),_,_,_,_,_] (fun _ h=>h.treeIn 7 0 Z Z Z bZ) (Q3 (Qy [0] [0] Z Z (xP hok 9 Z (Ql hok 10 Z Z Z Zq Z Z Z Q5W (xS hok 11 Z (wS 4 1 Z Q1X (all':=V4 ..) Z (H':=V12 ..) Z (Q3 ?_))))))))))))))
 refine Qy [0] [] Z Z (QL hok Z (Qj ?_))
 have hE:=(Zi hm).symm
 refine Q1m [1,0,2,3,4,5,6,7,8,9,10,11] Z (H':=V12 ..) Z (Q6F [_,_,_,_,_,_,_,_,Q2j Qx (bC.set aE (a0,a5)) none,_,_] (fun _ h=>QY.bagClose (T:=Qx) (x:=a0) (r:=a5) (i:=aE) (zs:=bC) (H:=V11 ..) h 8 Z) (Q9k 8 (φ':=Q2j Qx bC none) Z (by rw [Q8a bQ]) (H':=[.blk bR [.int .i64 (a0.rule),.slice a5.1 a0.ids.length a5.2] 45,.own 45 2 Qx.pair (.slice (some ⟨cC,0,none⟩) b1 aL) bC,Q2s (Q1g (QQ Q2t)) false QW bL aM,.blk b3 [.slice (some aX) aY aZ,.slice c5 ((a1 ++ [(⟨a0.rule,(a0.ids ++ a0.idsT).take a0.ids.length⟩ : Q1)]).length) c6,.slice a9 aB aA,.map (some aK)] 66,.own 3 1 Qi (.slice (some aX) aY aZ) l0,Q1l Qb 45 2 (.slice c5 ((a1 ++ [(⟨a0.rule,(a0.ids ++ a0.idsT).take a0.ids.length⟩ : Q1)]).length) c6) (a1 ++ [(⟨a0.rule,(a0.ids ++ a0.idsT).take a0.ids.length⟩ : Q1)]),Q1l Qb 45 2 (.slice a9 aB aA) a2,Q2s (Q1g (QQ Q2t)) false QW aK e3,Q2j Qx bC none,.own 45 2 Q9 (.slice b4 b5 b6) l1,.own 45 2 Q9 (.slice b7 b8 b9) l2]) Z (Q6F [_,Q1l Qx 45 2 (.slice (some ⟨cC,0,none⟩) b1 aL) l4,_,_,_,_,_,_,_,_] (fun _ h=>h.treeIn 1 8 Z Z Z cB) (Q1m [1,2,3,4,5,6,7,8,9] Z (H':=V9 ..) Z ?_))))
 refine Qp (aM,(a1 ++ [(⟨a0.rule,(a0.ids ++ a0.idsT).take a0.ids.length⟩ : Q1)]),a2,c5,c6,((a1 ++ [(⟨a0.rule,(a0.ids ++ a0.idsT).take a0.ids.length⟩ : Q1)]).length),a9,aA,aB) hE [54,53,52,8,0] Z (asK [0] Z) Z
 rintro ⟨bB,aP,aQ,aR,aS,aT,aU,aV,aW⟩ hE
 try dsimp only
 have hm:=hLj_4
 try rw [hE] at hm
 try dsimp only at hm
 refine Q2 (wP Z ?_)
 obtain ⟨dU,hm⟩:=Qd hm
 refine Qz (d:=90) (v':=.int .i64 ((aE + 1:Nat):Int)) (S':=V5 ..) Z Z (Q1i (a:=aE) (b:=1) dU) (QI (S':=V5 ..) Z Z Z Z Z (Q3 ?_))
 have hE:=(Zi hm).symm
 replace hE:=Q14 hLu2 hE
 refine Q1a (_,aE + 1,bB,aP,aQ,aR,aS,aT,aU,aV,aW) (Nat.lt_succ_self _) hE [54,53,52,8,0] Z (asK [0] Z) Z
 replace hm:=Q1y hm cO
 refine Q5 [8,0] (S':=[_,_]) Z (Q19 (Qc (Qc (Qt ?_))))
 have hE:=(Zi hm).symm
 replace hE:=QO hLu2 hE
 refine Q1m [1,2,3,4,5,6,7,8,0] Z (H':=V9 ..) Z ?_
 refine Qp (aM,a1,a2,a6,a7,a8,a9,aA,aB) hE [8,0] Z (asK [0] Z) Z
 rintro ⟨bE,aC,aD,aF,aG,aN,aH,aI,aO⟩ hE
 try dsimp only
 have hm:=hLj_3
 try rw [hE] at hm
 try dsimp only at hm
 refine Q6 (Q2 (wP Z (wP Z (wP Z (wF Z Q9H (wS 1 3 Z tS_64 (all':=V4 ..) Z (H':=V9 ..) Z (Q3 (Q4 (Q5 [0] (S':=[_]) Z (Q6 ?_))))))))))
 obtain ⟨⟨cY,cZ⟩,d6,hm⟩:=Q7 hm
 try dsimp only at hm
 obtain ⟨cG,hm⟩:=Qd hm
 refine QV [0,1,2,3,4,5,6,7] Z Z (fun hok=>(xP hok 0 Z (xP hok 1 Z (Ql hok 2 Z Z Z Zq Z Z Z Q5W (Qq hok 3 1 1 Z Z Z Zq Z Z Z Z (cs:=[_]) Z Q1X Q3D Z Z (xP hok 4 Z (xP hok 5 Z (Ql hok 6 Z Z Z Zq Z Z Z Q6j (Qq hok 7 1 0 Z Z Z Zq Z Z Z Z (cs:=[_]) Z Q8d Q8c Z Z (xS hok 8 Z (Q6M Z Z Z Zq Z Z Z (Q3 (Qy [0] [1] Z Z (xS hok 9 Z ?_))))))))))))))
 refine Q2x [_,_,_,.own 45 2 Q9 (.slice aF aN aG) aC,_,_,_,_,_] (fun _ h=>h.letgo Q4B 3 Z) (QK 3 Z (fun bW _=>?_))
 subst bW
 refine wC [3,2] [0,1,4,5,6,7,8] Z fn_43 Z (Q2J N aF aC.length aG aC aX aY aZ l0 _ _ d6) (asK [0] Z) Z (H':=V7 ..) Z ?_
 rintro _ _ _ ⟨dV,rfl,rfl,rfl⟩
 refine QK 0 Z (fun cH _=>?_)
 subst cH
 refine Q28 0 (φ':=.own 45 2 Q9 (.slice aF aC.length aG) cY) Z (by rw [cG]) (H':=V9 ..) Z (Q3 (Qy [0] [3] Z Z (QL hok Z (Q4 (Q5 [0] (S':=[_]) Z (Q6 ?_))))))
 obtain ⟨⟨d0,dW⟩,d7,hm⟩:=Q7 hm
 try dsimp only at hm
 obtain ⟨cI,hm⟩:=Qd hm
 refine QV [0,1,2,3,4,5,6,7] Z Z (fun hok=>(xP hok 0 Z (xP hok 1 Z (Ql hok 2 Z Z Z Zq Z Z Z Q6b (Qq hok 3 3 2 Z Z Z Zq Z Z Z Z (cs:=[_]) Z Q1X Q3D Z Z (xP hok 4 Z (xP hok 5 Z (Ql hok 6 Z Z Z Zq Z Z Z Q6j (Qq hok 7 3 0 Z Z Z Zq Z Z Z Z (cs:=[_]) Z Q8d Q8c Z Z (xS hok 8 Z (Q6M Z Z Z Zq Z Z Z (Q3 (Qy [0] [3] Z Z (xS hok 9 Z ?_))))))))))))))
 refine Q2x [_,_,_,_,.own 45 2 Q9 (.slice aH aO aI) aD,_,_,_,_] (fun _ h=>h.letgo Q4B 4 Z) (QK 4 Z (fun bX _=>?_))
 subst bX
 refine wC [4,1] [0,2,3,5,6,7,8] Z fn_43 Z (Q2J N aH aD.length aI aD aX aY aZ cZ _ _ d7) (asK [0] Z) Z (H':=V7 ..) Z ?_
 rintro _ _ _ ⟨dX,rfl,rfl,rfl⟩
 refine QK 0 Z (fun cJ _=>?_)
 subst cJ
 refine Q28 0 (φ':=.own 45 2 Q9 (.slice aH aD.length aI) d0) Z (by rw [cI]) (H':=V9 ..) Z (Q3 (Qy [0] [4] Z Z (QL hok Z (Q4 (Q5 [] (S':=[]) Z (Q6 (Q2 (wP Z (Q3 (Q4 (QP ?_)))))))))))
 have hE:=(Zi hm).symm
 obtain ⟨hE0,hF1⟩:=Prod.mk.inj hE
 obtain ⟨hE1,hF2⟩:=Prod.mk.inj hF1
 obtain ⟨hE2,hF3⟩:=Prod.mk.inj hF2
 obtain ⟨hE3,hE4⟩:=Prod.mk.inj hF3
 clear hE hF1 hF2 hF3
 replace hE0:=hE0.symm
 subst hE0
 replace hE1:=hE1.symm
 subst hE1
 replace hE2:=hE2.symm
 subst hE2
 replace hE3:=hE3.symm
 subst hE3
 replace hE4:=hE4.symm
 subst hE4
 refine QH (Hr:=V6 ..) [4,1,2,0,3,8] Tryz.results21 (QD Z) ⟨aF,aG,aC.length,aH,aI,aD.length,bL,Z,Z,Z⟩ (asK [] Z) Z Z (.inl Z)
theorem Q5K (N:Nat) (a6:OA) (a7:Nat) (l0:List Q1) (a1:Int) (a3:OA) (a4:Nat) (l2:List Int) (o0:Int) (hm:Q4I N l0 a1 l2 = some o0):Q1R Tryz.prog 50 [.slice a6 l0.length a7,.agg #[.int .i64 a1,.slice a3 l2.length a4]] [.sli 2 Q9 a6 a7 l0,.sli 1 Qi a3 a4 l2,tF] [] (fun v Φr Hr=>v = .int .i64 o0 ∧ Φr = [] ∧ Hr = []):=by
 unfold Q4I at hm
 refine QZ Tryz.func50 Z Tryz.ntmps50 Z (S:=[_,_]) Z (fun C=>(Q6 (Q2 (wB Z (fun g3=>(wP Z (Q3 (Q4 (Q5 [3,0] (S':=[_,_]) Z (Q6 ?_))))))))))
 obtain ⟨a9,hm,hLj_1⟩:=Q35 hm
 refine Q18 (σ:=Unit) (fun _=>a9 = .inl ()) (fun _=>[]) (fun _=>[tF]) (fun _=>[]) ?_ ?_
 refine Q6 (Q2 (wP Z (Q3 (Q4 (Qm (Q1f (σ:=Nat × Nat) (fun (a2,a0)=>Q1o (Q2R N l0 a1 l2) a2 a0 = some a9) (fun (a2,a0)=>a2) (fun (a2,a0)=>[(5,.int .i64 ((a0:Nat):Int)),(3,.pointer (some ⟨g3,0,none⟩)),(0,.slice a6 l0.length a7)]) (fun (a2,a0)=>[.sli 1 Qi a3 a4 l2,.sli 2 Q9 a6 a7 l0,tF]) (fun (a2,a0)=>[.blk g3 [.int .i64 a1,.slice a3 l2.length a4] 45]) (N,0) hm [5,3,0] Z (asK [1,0,2] Z) Z (fun s_ hm=>?_)))))))
 obtain ⟨a2,a0⟩:=s_
 try dsimp only at hm ⊢
 obtain ⟨aN,aO,aC,hq,hLu1⟩:=Q1d hm
 clear hm
 subst aC
 replace hm:=hq
 clear hq
 unfold Q2R at hm
 try dsimp only at hm
 refine Q6 (Q6 (Q2 (wP Z (wP Z (wN Z QB (wP Z (Qz (d:=9) (v':=.bool (decide (a0 < l0.length))) (S':=V6 ..) Z Z (Q3f (a:=a0) (b:=l0.length)) (Q3 (Q4 (Q5 [9,5,3,0] (S':=V4 ..) Z ?_))))))))))
 refine QA Z (fun aA=>?_) (fun aA=>?_)
 replace hm:=Q1z hm aA
 refine Q5 [5,3,0] (S':=V3 ..) Z (Qs (Q4 (Q6 (Qm (Q6 ?_)))))
 obtain ⟨aD,aE,hm⟩:=Q7 hm
 obtain ⟨aP,aF,hm⟩:=Q7 hm
 refine QV [0,1,2,3,4] Z Z (fun hok=>(xP hok 0 Z (xP hok 1 Z (Q1Q hok 2 1 a0 Z Z Z Zq Z Z Z Z Z Z aE QB Qe (fun aQ aR aM aJ=>(Q2e Qa 1 Z (fun aG aH _=>?_)))))))
 subst aH
 refine Q2Q hok 3 1 0 Z Z Z Zq Z Z Z Z (cs:=[_,_]) Z Qe QS Z Z (Qq hok 4 0 0 Z Z Z Zq Z Z Z Z (cs:=[_,_]) Z Qe QS Z Z (xS hok 5 Z (wC [] [0] Z fn_13 Z (Q5l N aD.rule aG.1 aG.2 aD.ids a1 a3 a4 l2 _ aF) (asK [0,3] Z) Z (H':=[_]) Z ?_)))
 rintro _ _ _ ⟨rfl,rfl,rfl⟩
 refine Q3 (Qy [0,1,2,3,4,5] [] Z Z (QL hok Z (Q4 (Q5 [17,5,3,0] (S':=V4 ..) Z ?_))))
 refine QA Z (fun a5=>?_) (fun a5=>?_)
 replace hm:=Q1z hm a5
 refine Q5 [5] (S':=[_]) Z (Q6 (Q2 (wP Z (wP Z (Q3 (Q4 (Q5 [4] (S':=[_]) Z (QP (Q11 (Qn (Qn (Q11 (Qn ?_)))))))))))))
 have hE:=(Zi hm).symm
 replace hE:=QO hLu1 hE
 replace hE:=QO hLj_1 hE
 replace hE:=hE.symm
 subst hE
 refine QH (Hr:=[]) [] Tryz.results50 (QD Z) ⟨Z,Z,Z⟩ (asK [] Z) Z Z (.inl Z)
 replace hm:=Q1y hm a5
 refine Q5 [5,3,0] (S':=V3 ..) Z (Qs (Qj (Q4 (Q2 (wP Z (wP Z ?_))))))
 obtain ⟨aI,hm⟩:=Qd hm
 refine Qz (d:=11) (v':=.int .i64 ((a0 + 1:Nat):Int)) (S':=V4 ..) Z Z (Q1i (a:=a0) (b:=1) aI) (QI (S':=V4 ..) Z Z Z Z Z (Q3 ?_))
 have hE:=(Zi hm).symm
 replace hE:=Q14 hLu1 hE
 refine Q1a (_,a0 + 1) (Nat.lt_succ_self _) hE [5,3,0] Z (asK [3,4,5] Z) Z
 replace hm:=Q1y hm aA
 refine Q5 [] (S':=[]) Z (Q19 (Qc (Qc (Qt ?_))))
 have hE:=(Zi hm).symm
 replace hE:=QO hLu1 hE
 refine Q1m [] Z (H':=[]) Z ?_
 refine Qp () hE [] Z (asK [2] Z) Z
 rintro _ hE
 try dsimp only
 have hm:=Q14 hLj_1 hE
 try dsimp only at hm
 refine Q6 (Q2 (wP Z (Q3 (Q4 (QP ?_)))))
 have hE:=(Zi hm).symm
 replace hE:=hE.symm
 subst hE
 refine QH (Hr:=[]) [] Tryz.results50 (QD Z) ⟨Z,Z,Z⟩ (asK [] Z) Z Z (.inl Z)
theorem Q9g (N:Nat) (qp0:OA) (qc1:Nat) (l0:List Int)  (hm:Q5S N l0 = some ()):Q1R Tryz.prog 160 [.slice qp0 l0.length qc1] [.sli 1 Qi qp0 qc1 l0] [] (fun v Φr Hr=>∃ (o0:OA) (o1:Nat),v = .slice o0 (l0).length o1 ∧ Φr = [] ∧ Hr = [.own 3 1 Qi (.slice o0 (l0).length o1) l0]):=by
 unfold Q5S at hm
 refine QZ Tryz.func160 Z Tryz.ntmps160 Z (S:=[_]) Z (fun C=>(Q6 (Q2 (wP Z (Q3 (Q4 (Q5 [0] (S':=[_]) Z (Q6 (Q2 (wP Z (Q3 (Q4 (Q6 (Q2 ?_))))))))))))))
 refine wP Z (wP Z (Q84 3 1 Qi ?_))
 obtain ⟨hg6,hm⟩:=Qd hm
 refine Q83 0 0 Z Z Z Zq Z Z Z Z Z Q1j tR_3 Z Z (Nat.le_trans hg6 (by decide)) (Nat.le_trans (Nat.mul_le_mul_right _ hg6) (by decide)) (H2:=fun p6 c6=>[.own 3 1 Qi (.slice p6 (l0).length c6) l0]) (fun _ _=>Z) (fun p6 c6=>(wP Z (Q3 (Q4 (Q5 [2] (S':=[_]) Z (QP ?_))))))
 have hE:=(Zi hm).symm
 refine QH (Hr:=[_]) [0] Tryz.results160 (QD Z) ⟨p6,c6,Z,Z,Z⟩ (asK [] Z) Z Z (.inl Z)
theorem Q8X (N:Nat) (a0:Int) (qp0:OA) (qc1:Nat) (l1:List Int)  (hm:Q5H N a0 l1 = some ()):Q1R Tryz.prog 100 [.agg #[.int .i64 a0,.slice qp0 l1.length qc1]] [.sli 1 Qi qp0 qc1 l1] [] (fun v Φr Hr=>∃ (o0:OA) (o1:Nat),v = .agg #[.int .i64 a0,.slice o0 (l1).length o1] ∧ Φr = [] ∧ Hr = [.own 3 1 Qi (.slice o0 (l1).length o1) l1]):=by
 unfold Q5H at hm
 refine QZ Tryz.func100 Z Tryz.ntmps100 Z (S:=[_]) Z (fun C=>(Q6 (Q2 (wB Z (fun g1=>(Q25 Z Z Z Zq Z Q42 Z (fun g2=>(Q3 (Q4 (Q5 [2,1] (S':=[_,_]) Z (Q6 (Q2 (wF Z Q3u (wD 1 1 Z Q30 Q4R Z ?_))))))))))))))
 obtain ⟨_,hc5,hm⟩:=Q7 hm
 try dsimp only at hm
 refine wC [] [0,1] Z fn_160 Z (Q9g N qp0 qc1 l1 hc5) (asK [0] Z) Z (H':=[_,_]) Z ?_
 rintro _ _ _ ⟨p5_0,c5_1,rfl,rfl,rfl⟩
 refine wF Z Q3u (wS 2 1 Z Q30 (all':=[_,_]) Z (H':=V3 ..) Z (Q3 (Q4 (Q5 [2,1] (S':=[_,_]) Z (Q6 (Q2 (Q1V 2 0 Z Z Z Zq Z Z Z (cs:=[_,_]) Z Qe QS Z Z (wS 1 0 Z Qe (all':=[_,_]) Z (H':=V3 ..) Z (Q3 (Q4 (Q5 [2] (S':=[_]) Z (QP ?_))))))))))))
 have hE:=(Zi hm).symm
 refine QH (Hr:=[_]) [0] Tryz.results100 (Q5D 1 Z Z Qe QS Z Z) ⟨p5_0,c5_1,Z,Z,Z⟩ (asK [] Z) Z Z (.inl Z)
theorem Q8M (N:Nat) (aK:OA) (aL:Nat) (l0:List Q1) (o2:List Q1) (hm:Q4K N l0 = some o2):Q1R Tryz.prog 51 [.slice aK l0.length aL] [.sli 2 Q9 aK aL l0] [] (fun v Φr Hr=>∃ (o0:OA) (o1:Nat) (o3:Nat),v = .slice o0 o3 o1 ∧ Φr = [] ∧ Hr = [Q1l Qb 45 2 (.slice o0 o3 o1) o2]):=by
 unfold Q4K at hm
 refine QZ Tryz.func51 Z Tryz.ntmps51 Z (S:=[_]) Z (fun C=>(Q6 (Q2 (wP Z (Q3 (Q4 (Q5 [0] (S':=[_]) Z (Q6 (Q2 (wP Z (Q3 (Q4 (Q6 ?_)))))))))))))
 obtain ⟨aN,hm,hLj_1⟩:=Q7 hm
 refine Q18 (σ:=(List Q1) × OA × Nat × Nat) (fun (aA,a4,a5,a6)=>aN = aA) (fun (aA,a4,a5,a6)=>[(3,.slice a4 a6 a5)]) (fun (aA,a4,a5,a6)=>[]) (fun (aA,a4,a5,a6)=>[Q1l Qb 45 2 (.slice a4 a6 a5) aA]) ?_ ?_
 refine Q6 (Q2 (wP Z (Q3 (Q4 (Qm (wc_sh [Q1l Qb 45 2 (V1) []] (fun _ h=>h.treeNil Qb 45 2) (Q1f (σ:=Nat × Nat × (List Q1) × OA × Nat × Nat) (fun (aD,aB,a0,a7,a8,a9)=>Q1o (Q3l N l0) aD (aB,a0) = some aN) (fun (aD,aB,a0,a7,a8,a9)=>aD) (fun (aD,aB,a0,a7,a8,a9)=>[(4,.int .i64 ((aB:Nat):Int)),(3,.slice a7 a9 a8),(0,.slice aK l0.length aL)]) (fun (aD,aB,a0,a7,a8,a9)=>[.sli 2 Q9 aK aL l0]) (fun (aD,aB,a0,a7,a8,a9)=>[Q1l Qb 45 2 (.slice a7 a9 a8) a0]) (N,0,[],none,0,0) hm [4,3,0] Z (asK [0] Z) Z (fun s_ hm=>?_))))))))
 obtain ⟨aD,aB,a0,a7,a8,a9⟩:=s_
 try dsimp only at hm ⊢
 obtain ⟨b4,b5,aQ,hq,hLu1⟩:=Q1d hm
 clear hm
 subst aQ
 replace hm:=hq
 clear hq
 unfold Q3l at hm
 try dsimp only at hm
 refine Q6 (Q6 (Q2 (wP Z (wP Z (wN Z QB (wP Z (Qz (d:=9) (v':=.bool (decide (aB < l0.length))) (S':=V6 ..) Z Z (Q3f (a:=aB) (b:=l0.length)) (Q3 (Q4 (Q5 [9,4,3,0] (S':=V4 ..) Z ?_))))))))))
 refine QA Z (fun aO=>?_) (fun aO=>?_)
 replace hm:=Q1z hm aO
 refine Q5 [4,3,0] (S':=V3 ..) Z (Qs (Q4 (Q6 (Qm (Q6 (Q2 (wP Z (wP Z ?_))))))))
 obtain ⟨a1,aR,hm⟩:=Q7 hm
 refine Q53 0 aB Z Z Z Zq Z Z Z Z Z aR QB Qe (fun b6 b7 b3 aX=>(Q6m Qa 1 Z (fun aS aT _=>?_)))
 subst aT
 refine Q6l 1 0 Z Z Z Zq Z Z Z (cs:=[_,_]) Z Qe QS Z Z ?_
 obtain ⟨_,aU,hm⟩:=Q7 hm
 try dsimp only at hm
 refine wC [] [0] Z fn_100 Z (Q8X N a1.rule aS.1 aS.2 a1.ids aU) (asK [0] Z) Z (H':=[_]) Z ?_
 rintro _ _ _ ⟨a2,a3,rfl,rfl,rfl⟩
 refine Q25 Z Z Z Zq Z Q42 Z (fun g5=>(wS 0 0 Z Qe (all':=[_,_]) Z (H':=V3 ..) Z (Q3 (Q4 (Q5 [5,4,3,0] (S':=V4 ..) Z (Q2 (wP Z (Q1V 0 0 Z Z Z Zq Z Z Z (cs:=[_,_]) Z Qe QS Z Z (QE Z Z Z Zq Z QB Qe Q42 Z (zs:=[.int .i64 0,V1]) (by kernel_rfl) Z (out:=[_,_]) Z (fun aY=>(Q2o 3 Z (fun aP _=>?_))))))))))))
 subst aP
 refine QK 2 Z (fun aF _=>(Q4F 1 (v':=.agg #[.int .i64 (a1.rule),.slice a2 a1.ids.length a3]) Z (by first | rfl | rw [aF]) (Q28 0 (φ':=.blk aY [.int .i64 (a1.rule),.slice a2 a1.ids.length a3] 45) Z (by first | rfl | rw [aF]) (H':=V4 ..) Z (Q28 1 (φ':=.blk g5 [.int .i64 (a1.rule),.slice a2 a1.ids.length a3] 45) Z (by first | rfl | rw [aF]) (H':=V4 ..) Z (Q28 2 (φ':=.own 3 1 Qi (.slice a2 a1.ids.length a3) a1.ids) Z (by first | rfl | rw [aF]) (H':=V4 ..) Z (Q46 3 Z (fun aC aI=>?_)))))))
 obtain ⟨aV,hm⟩:=Qd hm
 have aE:List.map (fun x:Q1 × (OA × Nat)=>x.1) (aC ++ [(a1,(a2,a3))]) = a0 ++ [a1]:=Q88 aI (us:=[a1]) rfl
 have aJ:aC.length + ([(a1,(a2,a3))] : List (Q1 × (OA × Nat))).length ≤ 4398046511104:=by rw [Q3g aI]; exact aV
 refine Q2w (R:=Qb.pair) ([(a1,(a2,a3))]) 4 1 Z Z Z Zq Z Z Z Z Z (fun F w hφ=>⟨[.int .i64 (a1.rule),.slice a2 a1.ids.length a3],[],Z,Z,Z,Z⟩) QB Q7P Z Z (Nat.le_trans aJ (by decide)) (Nat.le_trans (Nat.mul_le_mul_right _ aJ) (by decide)) (H2:=fun aG aH=>[_,_,_,_,.own 45 2 Qb.pair (.slice aG ((aC ++ [(a1,(a2,a3))]).length) aH) (aC ++ [(a1,(a2,a3))])]) (fun _ _=>Z) (fun aG aH=>(Q3E 1 Z (H':=V4 ..) Z (Qz (d:=20) (v':=.slice aG ((a0 ++ [a1]).length) aH) (S':=V7 ..) Z Z (by rw [Q3g aE]) (Q28 3 (φ':=.own 45 2 Qb.pair (.slice aG ((a0 ++ [a1]).length) aH) (aC ++ [(a1,(a2,a3))])) Z (by rw [Q3g aE]) (H':=V4 ..) Z (Q55 [2,0,1,3] Z (H':=V4 ..) Z (Q2x [Q2j Qb (aC ++ [(a1,(a2,a3))]) none,_,_] (fun _ h=>QY.bagPush (T:=Qb) (x:=a1) (r:=(a2,a3)) (zs:=aC) (H:=V3 ..) h 0 Z) (Q2x [_,Q1l Qb 45 2 (.slice aG ((a0 ++ [a1]).length) aH) (a0 ++ [a1])] (fun _ h=>h.treeIn 2 0 Z Z Z aE) (QI (S':=V7 ..) Z Z Z Z Z (Q3 (Qj (Q4 (Q5 [3,4,0] (S':=V3 ..) Z (Q2 (wP Z ?_))))))))))))))
 refine wP Z ?_
 obtain ⟨aW,hm⟩:=Qd hm
 refine Qz (d:=11) (v':=.int .i64 ((aB + 1:Nat):Int)) (S':=V4 ..) Z Z (Q1i (a:=aB) (b:=1) aW) (QI (S':=V4 ..) Z Z Z Z Z (Q3 ?_))
 have hE:=(Zi hm).symm
 replace hE:=Q14 hLu1 hE
 refine Q1m [1] Z (H':=[_]) Z ?_
 refine Q1a (_,aB + 1,a0 ++ [a1],aG,aH,(a0 ++ [a1]).length) (Nat.lt_succ_self _) hE [4,3,0] Z (asK [3] Z) Z
 replace hm:=Q1y hm aO
 refine Q5 [3] (S':=[_]) Z (Q19 (Qc (Qc (Qt ?_))))
 have hE:=(Zi hm).symm
 replace hE:=QO hLu1 hE
 refine Qp (a0,a7,a8,a9) hE [3] Z (asK [] Z) Z
 rintro ⟨aA,a4,a5,a6⟩ hE
 try dsimp only
 have hm:=hLj_1
 try rw [hE] at hm
 refine Q6 (Q2 (wP Z (wP Z (Q3 (Q4 (Q5 [2] (S':=[_]) Z (QP ?_)))))))
 have hE:=(Zi hm).symm
 replace hE:=hE.symm
 subst hE
 refine QH (Hr:=[_]) [0] Tryz.results51 (QD Z) ⟨a4,a5,a6,Z,Z,Z⟩ (asK [] Z) Z Z (.inl Z)
theorem Q6T (N:Nat) (aR:Nat) (aJ:OA) (aK:Nat) (aL:Nat) (l0:List Qr) (aM:OA) (aN:Nat) (aO:Nat) (l1:List QG) (aP:OA) (aS:Nat) (aQ:Nat) (l2:List Q1) (aE:OA) (aF:Nat) (aG:Nat) (l3:List Bool) (aH:OA) (aD:Nat) (l4:List Q1) (o0:Nat) (o3:List Q1) (o7:List Bool) (hm:Q2W N l0 l1 l2 l3 l4 = some (o0,o3,o7)):Q1R Tryz.prog 28 [.pointer (some ⟨aR,0,none⟩),.slice aH l4.length aD] [.sli 2 Q9 aH aD l4,tF] [.blk aR [.slice aJ aK aL,.slice aM aN aO,.slice aP aS aQ,.slice aE aF aG] 70,.own 213 2 QR (.slice aJ aK aL) l0,.own 38 5 QM (.slice aM aN aO) l1,.own 45 2 Q9 (.slice aP aS aQ) l2,.own 4 1 QW (.slice aE aF aG) l3] (fun v Φr Hr=>∃ (o1:OA) (o2:Nat) (o4:Nat) (o5:OA) (o6:Nat) (o8:Nat),v = .int .i64 ((o0:Nat):Int) ∧ Φr = [] ∧ Hr = [.blk aR [.slice aJ aK aL,.slice aM aN aO,.slice o1 o4 o2,.slice o5 o8 o6] 70,.own 213 2 QR (.slice aJ aK aL) l0,.own 38 5 QM (.slice aM aN aO) l1,.own 45 2 Q9 (.slice o1 o4 o2) o3,.own 4 1 QW (.slice o5 o8 o6) o7]):=by
 unfold Q2W at hm
 refine QZ Tryz.func28 Z Tryz.ntmps28 Z (S:=[_,_]) Z (fun C=>(Q6 (Q2 (wP Z (Q3 (Q4 (Q5 [0,1] (S':=[_,_]) Z (Q6 (Q2 (wP Z (Q3 (Q4 (Q6 ?_)))))))))))))
 obtain ⟨bC,hm,hLj_1⟩:=Q35 hm
 refine Q18 (σ:=(List Bool) × OA × Nat × Nat) (fun (aC,a5,a6,a7)=>bC = .inl aC) (fun (aC,a5,a6,a7)=>[(0,.pointer (some ⟨aR,0,none⟩)),(1,.slice aH l4.length aD),(5,.slice a5 a7 a6)]) (fun (aC,a5,a6,a7)=>[.sli 2 Q9 aH aD l4,tF]) (fun (aC,a5,a6,a7)=>[.blk aR [.slice aJ aK aL,.slice aM aN aO,.slice aP aS aQ,.slice aE aF aG] 70,.own 213 2 QR (.slice aJ aK aL) l0,.own 38 5 QM (.slice aM aN aO) l1,.own 45 2 Q9 (.slice aP aS aQ) l2,.own 4 1 QW (.slice aE aF aG) l3,.own 4 1 QW (.slice a5 a7 a6) aC]) ?_ ?_
 refine Q6 (Q2 (wP Z (Q3 (Q4 (Qm (Q52 4 1 QW (Q1f (σ:=Nat × Nat × (List Bool) × OA × Nat × Nat) (fun (aW,a1,a0,a2,a3,a4)=>Q1o (Q1I N l4 l1 l2 l3) aW (a1,a0) = some bC) (fun (aW,a1,a0,a2,a3,a4)=>aW) (fun (aW,a1,a0,a2,a3,a4)=>[(6,.int .i64 ((a1:Nat):Int)),(5,.slice a2 a4 a3),(0,.pointer (some ⟨aR,0,none⟩)),(1,.slice aH l4.length aD)]) (fun (aW,a1,a0,a2,a3,a4)=>[.sli 2 Q9 aH aD l4,tF]) (fun (aW,a1,a0,a2,a3,a4)=>[.own 4 1 QW (.slice a2 a4 a3) a0,.blk aR [.slice aJ aK aL,.slice aM aN aO,.slice aP aS aQ,.slice aE aF aG] 70,.own 213 2 QR (.slice aJ aK aL) l0,.own 38 5 QM (.slice aM aN aO) l1,.own 45 2 Q9 (.slice aP aS aQ) l2,.own 4 1 QW (.slice aE aF aG) l3]) (N,0,[],none,0,0) hm [6,5,0,1] Z (asK [0,1] Z) Z (fun s_ hm=>?_))))))))
 obtain ⟨aW,a1,a0,a2,a3,a4⟩:=s_
 try dsimp only at hm ⊢
 obtain ⟨cR,cS,bK,hq,hLu1⟩:=Q1d hm
 clear hm
 subst bK
 replace hm:=hq
 clear hq
 unfold Q1I at hm
 try dsimp only at hm
 refine Q6 (Q6 (Q2 (wP Z (wP Z (wN Z QB (wP Z (Qz (d:=11) (v':=.bool (decide (a1 < l4.length))) (S':=V7 ..) Z Z (Q3f (a:=a1) (b:=l4.length)) (Q3 (Q4 (Q5 [11,6,5,0,1] (S':=V5 ..) Z ?_))))))))))
 refine QA Z (fun b1=>?_) (fun b1=>?_)
 replace hm:=Q1z hm b1
 refine Q5 [6,5,0,1] (S':=V4 ..) Z (Qs (Q4 (Q6 ?_)))
 obtain ⟨bL,hm,hLj_2⟩:=Q35 hm
 unfold Q4D at hm
 refine Q18 (σ:=(List Bool) × OA × Nat × Nat) (fun (a8,a9,aA,aB)=>bL = .inl a8) (fun (a8,a9,aA,aB)=>[(6,.int .i64 ((a1:Nat):Int)),(5,.slice a9 aB aA),(0,.pointer (some ⟨aR,0,none⟩)),(1,.slice aH l4.length aD)]) (fun (a8,a9,aA,aB)=>[.sli 2 Q9 aH aD l4,tF]) (fun (a8,a9,aA,aB)=>[.own 4 1 QW (.slice a9 aB aA) a8,.blk aR [.slice aJ aK aL,.slice aM aN aO,.slice aP aS aQ,.slice aE aF aG] 70,.own 213 2 QR (.slice aJ aK aL) l0,.own 38 5 QM (.slice aM aN aO) l1,.own 45 2 Q9 (.slice aP aS aQ) l2,.own 4 1 QW (.slice aE aF aG) l3]) ?_ ?_
 refine Qm (Q6 (Q6 ?_))
 obtain ⟨bM,hm,hLj_3⟩:=Q7 hm
 unfold Q4E at hm
 refine Q18 (σ:=Bool) (fun aI=>bM = aI) (fun aI=>[(6,.int .i64 ((a1:Nat):Int)),(5,.slice a2 a4 a3),(0,.pointer (some ⟨aR,0,none⟩)),(1,.slice aH l4.length aD),(44,.bool aI)]) (fun aI=>[.sli 2 Q9 aH aD l4,tF]) (fun aI=>[.own 4 1 QW (.slice a2 a4 a3) a0,.blk aR [.slice aJ aK aL,.slice aM aN aO,.slice aP aS aQ,.slice aE aF aG] 70,.own 213 2 QR (.slice aJ aK aL) l0,.own 38 5 QM (.slice aM aN aO) l1,.own 45 2 Q9 (.slice aP aS aQ) l2,.own 4 1 QW (.slice aE aF aG) l3]) ?_ ?_
 obtain ⟨cT,b2,hm⟩:=Q7 hm
 rcases Q32 hm with ⟨b0,hm⟩ | ⟨b0,hm⟩
 refine QV [0,1,2,3,4,5,6,7,8,9,10,11,12,13,14,15,16,17,18,19,20,21,22,24,25,26,27,29,30] Z Z (fun hok=>(xP hok 0 Z (xP hok 1 Z (Q1Q hok 2 0 a1 Z Z Z Zq Z Z Z Z Z Z b2 QB Qe (fun bN bO bD b3=>(Q2e Qa 1 Z (fun bP aT _=>?_)))))))
 subst aT
 refine Ql hok 3 Z Z Z Zq Z Z Z Q2L (Q2Q hok 4 1 0 Z Z Z Zq Z Z Z Z (cs:=[_]) Z Q1w Q3z Z Z (xP hok 5 Z (xP hok 6 Z (Q1e (d:=20) (v':=.bool true) (S':=V10 ..) Z Z (Q16 b0) (xO hok 7 Z (xO hok 8 Z (xO hok 9 Z (xO hok 10 Z (xO hok 11 Z (xO hok 12 Z (xO hok 13 Z (xO hok 14 Z (xO hok 15 Z ?_)))))))))))))
 refine xO hok 16 Z (xO hok 17 Z (xO hok 18 Z (xP hok 19 Z (xP hok 20 Z (xO hok 21 Z (xO hok 22 Z (xO hok 24 Z (xO hok 25 Z (xO hok 26 Z (xO hok 27 Z (xS hok 23 Z (wO Z (Q3 ?_)))))))))))))
 refine Qy [0,1,2,3,4] [] Z Z (xS hok 28 Z (wO Z (Q3 (Qy [0,1,2,3,4] [] Z Z (xO hok 29 Z (xP hok 30 Z (QL hok Z ?_)))))))
 have hE:=(Zi hm).symm
 refine Qp true hE [6,5,0,1,44] Z (asK [3,4] Z) Z
 obtain ⟨cU,bE,hm⟩:=Q7 hm
 rcases Q32 hm with ⟨b4,hm⟩ | ⟨b4,hm⟩
 refine QV [0,1,2,3,4,5,6,7,8,9,10,11,12,13,14,15,16,17,18,19,20,21,22,24,25,26,27,29,30] Z Z (fun hok=>(xP hok 0 Z (xP hok 1 Z (Q1Q hok 2 0 a1 Z Z Z Zq Z Z Z Z Z Z b2 QB Qe (fun bN bO bD b3=>(Q2e Qa 1 Z (fun bP aT _=>?_)))))))
 subst aT
 refine Ql hok 3 Z Z Z Zq Z Z Z Q2L (Q2Q hok 4 1 0 Z Z Z Zq Z Z Z Z (cs:=[_]) Z Q1w Q3z Z Z (xP hok 5 Z (xP hok 6 Z (Q1e (d:=20) (v':=.bool false) (S':=V10 ..) Z Z (Q16 b0) (xP hok 7 Z (xP hok 8 Z (Q1Q hok 9 3 a1 Z Z Z Zq Z Z Z Z Z Z bE QB Qe (fun c7 c8 bQ bI=>(Q2e Qa 1 Z (fun c9 b5 _=>?_))))))))))
 subst b5
 refine Ql hok 10 Z Z Z Zq Z Z Z Q2L (Q2Q hok 11 1 0 Z Z Z Zq Z Z Z Z (cs:=[_]) Z Q1w Q3z Z Z (xP hok 12 Z (xP hok 13 Z (Ql hok 14 Z Z Z Zq Z Z Z tF_70_0 (Ql hok 15 Z Z Z Zq Z Z Z Q5u (Qq hok 16 1 1 Z Z Z Zq Z Z Z Z (cs:=[_]) Z Q7r Q7U Z Z (Q6D 3 Z (fun b6 _=>(Q4r hok 17 Z Z Z Zq Z Z Z Q72 (Q1e (d:=31) (v':=.int .i64 ((l1.length:Nat):Int)) (S':=V21 ..) Z Z (Q4A b6) (xP hok 18 Z (xP hok 19 Z (xP hok 20 Z (Q1e (d:=34) (v':=.bool true) (S':=V24 ..) Z Z (Q16 b4) ?_))))))))))))))
 refine xO hok 21 Z (xO hok 22 Z (xO hok 24 Z (xO hok 25 Z (xO hok 26 Z (xO hok 27 Z (xS hok 23 Z (wO Z (Q3 (Qy [0,1,2,3,4,5,6,7] [1] Z Z (xS hok 28 Z (wO Z (Q3 (Qy [0,1,2,3,4,5,6,7] [1] Z Z ?_)))))))))))))
 refine xO hok 29 Z (xP hok 30 Z (QL hok Z ?_))
 have hE:=(Zi hm).symm
 refine Qp true hE [6,5,0,1,44] Z (asK [6,7] Z) Z
 obtain ⟨bR,hm⟩:=Qd hm
 obtain ⟨bS,bT,hm⟩:=Q7 hm
 obtain ⟨cA,bU,hm⟩:=Q7 hm
 refine QV [0,1,2,3,4,5,6,7,8,9,10,11,12,13,14,15,16,17,18,19,20,21,22,24,25,26,27,29,30] Z Z (fun hok=>(xP hok 0 Z (xP hok 1 Z (Q1Q hok 2 0 a1 Z Z Z Zq Z Z Z Z Z Z b2 QB Qe (fun bN bO bD b3=>(Q2e Qa 1 Z (fun bP aT _=>?_)))))))
 subst aT
 refine Ql hok 3 Z Z Z Zq Z Z Z Q2L (Q2Q hok 4 1 0 Z Z Z Zq Z Z Z Z (cs:=[_]) Z Q1w Q3z Z Z (xP hok 5 Z (xP hok 6 Z (Q1e (d:=20) (v':=.bool false) (S':=V10 ..) Z Z (Q16 b0) (xP hok 7 Z (xP hok 8 Z (Q1Q hok 9 3 a1 Z Z Z Zq Z Z Z Z Z Z bE QB Qe (fun c7 c8 bQ bI=>(Q2e Qa 1 Z (fun c9 b5 _=>?_))))))))))
 subst b5
 refine Ql hok 10 Z Z Z Zq Z Z Z Q2L (Q2Q hok 11 1 0 Z Z Z Zq Z Z Z Z (cs:=[_]) Z Q1w Q3z Z Z (xP hok 12 Z (xP hok 13 Z (Ql hok 14 Z Z Z Zq Z Z Z tF_70_0 (Ql hok 15 Z Z Z Zq Z Z Z Q5u (Qq hok 16 1 1 Z Z Z Zq Z Z Z Z (cs:=[_]) Z Q7r Q7U Z Z (Q6D 3 Z (fun b6 _=>(Q4r hok 17 Z Z Z Zq Z Z Z Q72 (Q1e (d:=31) (v':=.int .i64 ((l1.length:Nat):Int)) (S':=V21 ..) Z Z (Q4A b6) (xP hok 18 Z (xP hok 19 Z (xP hok 20 Z (Q1e (d:=34) (v':=.bool false) (S':=V24 ..) Z Z (Q16 b4) ?_))))))))))))))
 refine xP hok 21 Z (xP hok 22 Z (xP hok 24 Z (xP hok 25 Z (Q1Q hok 26 6 a1 Z Z Z Zq Z Z Z Z Z Z bT QB Qe (fun cV cW cP cB=>(Q2e Qa 1 Z (fun bV bW _=>?_)))))))
 subst bW
 refine Q2Q hok 27 1 0 Z Z Z Zq Z Z Z Z (cs:=[_,_]) Z Qe QS Z Z (xS hok 23 Z (wl_sliTo 9 Z Z Z Zq Z Z Z Z Z QB Qe bR (fun cC=>(Q3 (Qy [1,2,3,4,5,6,7,8,9,10,11] [1] Z Z (xS hok 28 Z (wC [] [0,1,2,3,4,5] Z fn_50 Z (Q5K N cC aD (l4.take a1) bS.rule bV.1 bV.2 bS.ids _ bU) (asK [0,1,11] Z) Z (H':=V6 ..) Z ?_)))))))
 rintro _ _ _ ⟨rfl,rfl,rfl⟩
 refine Q3 (Qy [0,1,2,3,4,5,6,7,8,9,10,11] [1] Z Z (xP hok 29 Z (xP hok 30 Z (QL hok Z ?_))))
 have hE:=(Zi hm).symm
 refine Qp (decide (cA ≥ 0)) hE [6,5,0,1,44] Z (asK [10,11] Z) Z
 rintro aI hE
 try dsimp only
 have hm:=hLj_3
 try rw [hE] at hm
 refine QA Z (fun b7=>?_) (fun b7=>?_)
 replace hm:=Q1z hm b7
 refine Q5 [] (S':=[]) Z (Q6 (Q2 (wP Z (Q3 (Q4 (QP (Qn (Q11 (Qn (Qn (Q11 (Qn ?_))))))))))))
 have hE:=(Zi hm).symm
 replace hE:=QO hLj_2 hE
 replace hE:=QO hLu1 hE
 replace hE:=QO hLj_1 hE
 obtain ⟨hE0,hF1⟩:=Prod.mk.inj hE
 obtain ⟨hE1,hE2⟩:=Prod.mk.inj hF1
 clear hE hF1
 replace hE0:=hE0.symm
 subst hE0
 replace hE1:=hE1.symm
 subst hE1
 replace hE2:=hE2.symm
 subst hE2
 refine QH (Hr:=V5 ..) [1,2,3,4,5] Tryz.results28 (QD Z) ⟨aP,aQ,aS,aE,aG,aF,Z,Z,Z⟩ (asK [] Z) Z Z (.inl Z)
 replace hm:=Q1y hm b7
 refine Q5 [6,5,0,1] (S':=V4 ..) Z (Qs (Q4 (Q6 ?_)))
 obtain ⟨bX,bY,hm⟩:=Q7 hm
 obtain ⟨bZ,c0,hm⟩:=Q7 hm
 refine QV [0,1,2,3,4,5,6,7] Z Z (fun hok=>(xP hok 0 Z (xP hok 1 Z (Ql hok 2 Z Z Z Zq Z Z Z Q7O (Qq hok 3 1 2 Z Z Z Zq Z Z Z Z (cs:=[_]) Z Q1X Q3D Z Z (xP hok 4 Z (xP hok 5 Z (Q1Q hok 6 0 a1 Z Z Z Zq Z Z Z Z Z Z bY QB Qe (fun cX cY cQ cD=>(Q2e Qa 1 Z (fun c1 c2 _=>?_)))))))))))
 subst c2
 refine Q2Q hok 7 1 0 Z Z Z Zq Z Z Z Z (cs:=[_,_]) Z Qe QS Z Z (xS hok 8 Z (QK 4 Z (fun bJ _=>?_)))
 subst bJ
 refine Q2k [] [0,1,2,3,4,5] [4] Z Z Z Zq Z Z fn_50 Z (Q5K N aP aQ l2 bX.rule c1.1 c1.2 bX.ids _ c0) (fun F w hφ hh=>(Qh (Q1n (hh _ (Qu (k:=0) Z))) (Qh (hφ _ (Qu (k:=0) Z)) (Qh (hφ _ (Qu (k:=4) Z)) Qv)))) (fun _ _ _ hR=>by obtain ⟨rfl,rfl,rfl⟩:=hR; exact ⟨Z,(fun _ h=>Q1O h)⟩) Z Z (H':=V6 ..) Z ?_
 rintro _ _ _ ⟨rfl,rfl,rfl⟩
 refine Q3 (Qy [0,1,2,3,4] [] Z Z (xS hok 9 Z (wP Z (Q3 (Qy [0,1,2,3,4] [] Z Z (QL hok Z (Q4 (Q5 [7,6,5,0,1] (S':=V5 ..) Z (Q2 (wP Z (wP Z (wP Z (wP Z ?_)))))))))))))
 refine Q5F (d:=57) (S':=V8 ..) Z Z (fun b8=>?_) (fun b8=>?_)
 replace hm:=Q1z hm b8
 refine wP Z (wP Z (wF Z Q85 (wD 1 3 Z tS_68 tA_68 Z (wP Z ?_))))
 obtain ⟨c3,hm⟩:=Qd hm
 obtain ⟨aX,bF,hm⟩:=Q7 hm
 refine Q2E 5 bZ.toNat Z Z Z Zq Z Z Z Z (QC c3) (Qw bF) tE_68 tS_4 (fun cZ c4=>?_)
 subst c4
 refine Qk Q56 5 bZ.toNat 0 Z Z Z Zq Z Z Z bF tS_4 tA_4 (v:=fun _=>.bool aX) (fun _=>Z) (fun _=>Z) (fun _ _=>(wP Z (QE Z Z Z Zq Z tE_68 tS_4 tZ_4 Z (zs:=[.bool false]) (by kernel_rfl) Z (out:=[_]) Z (fun cE=>?_))))
 obtain ⟨aU,hm⟩:=Qd hm
 refine Q2w [aX] 1 0 Z Z Z Zq Z Z Z Z Z (fun F w hφ=>⟨[.bool aX],[],Z,Z,⟨(),Z,Qv⟩,Z⟩) tE_68 tR_4 Z Z (Nat.le_trans aU (by decide)) (Nat.le_trans (Nat.mul_le_mul_right _ aU) (by decide)) (H2:=fun aY aZ=>[_,.own 4 1 QW (.slice aY ((a0 ++ [aX]).length) aZ) (a0 ++ [aX]),_,_,_,_,_]) (fun _ _=>Z) (fun aY aZ=>(Q3E 0 Z (H':=V6 ..) Z (QI (S':=V18 ..) Z Z Z Z Z (Q3 (Qj ?_)))))
 have hE:=(Zi hm).symm
 refine Qp (a0 ++ [aX],aY,aZ,(a0 ++ [aX]).length) hE [6,5,0,1] Z (asK [3,4] Z) Z
 replace hm:=Q1y hm b8
 refine wO Z (wO Z (wO Z (wO Z (wO Z (wO Z (wO Z (wP Z (QE Z Z Z Zq Z tE_68 tS_4 tZ_4 Z (zs:=[.bool false]) (by kernel_rfl) Z (out:=[_]) Z (fun cE=>?_)))))))))
 obtain ⟨aU,hm⟩:=Qd hm
 refine Q2w [false] 1 0 Z Z Z Zq Z Z Z Z Z (fun F w hφ=>⟨[.bool false],[],Z,Z,⟨(),Z,Qv⟩,Z⟩) tE_68 tR_4 Z Z (Nat.le_trans aU (by decide)) (Nat.le_trans (Nat.mul_le_mul_right _ aU) (by decide)) (H2:=fun aY aZ=>[_,.own 4 1 QW (.slice aY ((a0 ++ [false]).length) aZ) (a0 ++ [false]),_,_,_,_,_]) (fun _ _=>Z) (fun aY aZ=>(Q3E 0 Z (H':=V6 ..) Z (QI (S':=V18 ..) Z Z Z Z Z (Q3 (Qj ?_)))))
 have hE:=(Zi hm).symm
 refine Qp (a0 ++ [false],aY,aZ,(a0 ++ [false]).length) hE [6,5,0,1] Z (asK [3,4] Z) Z
 rintro ⟨a8,a9,aA,aB⟩ hE
 try dsimp only
 have hm:=Q14 hLj_2 hE
 refine Q2 (wP Z (wP Z ?_))
 obtain ⟨c5,hm⟩:=Qd hm
 refine Qz (d:=13) (v':=.int .i64 ((a1 + 1:Nat):Int)) (S':=V5 ..) Z Z (Q1i (a:=a1) (b:=1) c5) (QI (S':=V5 ..) Z Z Z Z Z (Q3 ?_))
 have hE:=(Zi hm).symm
 replace hE:=Q14 hLu1 hE
 refine Q1a (_,a1 + 1,a8,a9,aA,aB) (Nat.lt_succ_self _) hE [6,5,0,1] Z (asK [0,1] Z) Z
 replace hm:=Q1y hm b1
 refine Q5 [5,0,1] (S':=V3 ..) Z (Q19 (Qc (Qc (Qt ?_))))
 have hE:=(Zi hm).symm
 replace hE:=QO hLu1 hE
 refine Q1m [1,2,3,4,5,0] Z (H':=V6 ..) Z ?_
 refine Qp (a0,a2,a3,a4) hE [0,1,5] Z (asK [0,1] Z) Z
 rintro ⟨aC,a5,a6,a7⟩ hE
 try dsimp only
 have hm:=Q14 hLj_1 hE
 refine Q6 (Q2 (wP Z (wP Z ?_)))
 obtain ⟨cF,c6,hm⟩:=Q7 hm
 refine wC [] [0,1,2,3,4,5] Z fn_51 Z (Q8M N aH aD l4 _ c6) (asK [0] Z) Z (H':=V6 ..) Z ?_
 rintro _ _ _ ⟨b9,bA,bB,rfl,rfl,rfl⟩
 refine wP Z (wF Z Q7O (wS 1 2 Z Q1X (all':=V4 ..) Z (H':=V7 ..) Z (Q3 (Q4 (Q5 [0,5] (S':=[_,_]) Z (Q6 (Q2 (wP Z (wP Z (wP Z (wF Z Q85 (wS 1 3 Z tS_68 (all':=V4 ..) Z (H':=V7 ..) Z (Q3 ?_)))))))))))))
 refine Q4 (Q5 [] (S':=[]) Z (Q6 (Q2 (wP Z (Q3 (Q4 (QP ?_)))))))
 have hE:=(Zi hm).symm
 obtain ⟨hE0,hF1⟩:=Prod.mk.inj hE
 obtain ⟨hE1,hE2⟩:=Prod.mk.inj hF1
 clear hE hF1
 replace hE0:=hE0.symm
 subst hE0
 replace hE1:=hE1.symm
 subst hE1
 replace hE2:=hE2.symm
 subst hE2
 refine Q6F [.own 45 2 Q9 (.slice b9 bB bA) cF,_,_,_,_,_,_] (fun _ h=>h.letgo Q4B 0 Z) ?_
 refine QH (Hr:=V5 ..) [1,2,3,0,6] Tryz.results28 (QD Z) ⟨b9,bA,bB,a5,a6,a7,Z,Z,Z⟩ (asK [] Z) Z Z (.inl Z)
theorem Q8Q (N:Nat) (a5:OA) (a6:Nat) (l0:List Int) (k1:Nat) (a7:OA) (a8:Nat) (l2:List Int) (o0:Bool) (hm:Q4M N l0 k1 l2 = some o0):Q1R Tryz.prog 35 [.slice a5 k1 a6,.slice a7 l2.length a8] [.sli 1 Qi a5 a6 l0,.sli 1 Qi a7 a8 l2] [] (fun v Φr Hr=>v = .bool o0 ∧ Φr = [] ∧ Hr = []):=by
 unfold Q4M at hm
 refine QZ Tryz.func35 Z Tryz.ntmps35 Z (S:=[_,_]) Z (fun C=>(Q6 (Q2 (wP Z (Q3 (Q4 (Q5 [0,1] (S':=[_,_]) Z (Q6 (Q6 (Q2 (wP Z (wN Z Q1j (wP Z (wN Z Q1j ?_))))))))))))))
 refine wP Z (Qz (d:=10) (v':=.bool (k1 != l2.length)) (S':=V6 ..) Z Z (natne (a:=k1) (b:=l2.length)) (Q3 (Q4 (Q5 [10,0,1] (S':=V3 ..) Z ?_))))
 refine QA Z (fun a2=>?_) (fun a2=>?_)
 replace hm:=Q1z hm a2
 refine Q5 [] (S':=[]) Z (Q6 (Q2 (wP Z (Q3 (Q4 (QP (Qn ?_)))))))
 have hE:=(Zi hm).symm
 replace hE:=hE.symm
 subst hE
 refine QH (Hr:=[]) [] Tryz.results35 (QD Z) ⟨Z,Z,Z⟩ (asK [] Z) Z Z (.inl Z)
 replace hm:=Q1y hm a2
 refine Q5 [0,1] (S':=[_,_]) Z (Qs (Q4 (Q6 ?_)))
 obtain ⟨aA,hm,hLj_1⟩:=Q35 hm
 refine Q18 (σ:=Unit) (fun _=>aA = .inl ()) (fun _=>[]) (fun _=>[]) (fun _=>[]) ?_ ?_
 refine Q6 (Q2 (wP Z (Q3 (Q4 (Qm (Q1f (σ:=Nat × Nat) (fun (a1,a0)=>Q1o (Q4b N k1 l0 l2) a1 a0 = some aA) (fun (a1,a0)=>a1) (fun (a1,a0)=>[(5,.int .i64 ((a0:Nat):Int)),(0,.slice a5 k1 a6),(1,.slice a7 l2.length a8)]) (fun (a1,a0)=>[.sli 1 Qi a5 a6 l0,.sli 1 Qi a7 a8 l2]) (fun (a1,a0)=>[]) (N,0) hm [5,0,1] Z (asK [0,1] Z) Z (fun s_ hm=>?_)))))))
 obtain ⟨a1,a0⟩:=s_
 try dsimp only at hm ⊢
 obtain ⟨aO,aP,aC,hq,hLu1⟩:=Q1d hm
 clear hm
 subst aC
 replace hm:=hq
 clear hq
 unfold Q4b at hm
 try dsimp only at hm
 refine Q6 (Q6 (Q2 (wP Z (wP Z (wN Z Q1j (wP Z (Qz (d:=14) (v':=.bool (decide (a0 < k1))) (S':=V6 ..) Z Z (Q3f (a:=a0) (b:=k1)) (Q3 (Q4 (Q5 [14,5,0,1] (S':=V4 ..) Z ?_))))))))))
 refine QA Z (fun a3=>?_) (fun a3=>?_)
 replace hm:=Q1z hm a3
 refine Q5 [5,0,1] (S':=V3 ..) Z (Qs (Q4 (Q6 (Qm (Q6 ?_)))))
 obtain ⟨aB,hm⟩:=Qd hm
 obtain ⟨aQ,aD,hm⟩:=Q7 hm
 obtain ⟨aR,aE,hm⟩:=Q7 hm
 refine QV [0,1,2,3,4,5,6,7,8] Z Z (fun hok=>(xP hok 0 Z (xP hok 1 Z (wx_indexF hok 2 0 a0 Z Z Z Zq Z Z Z Z Z Z aB aD Q1j Q1w (fun aS aT aM aJ=>(Q2e Q1K 1 Z (fun aU aF _=>?_)))))))
 subst aF
 refine Q2Q hok 3 0 0 Z Z Z Zq Z Z Z Z (cs:=[_]) Z Q1w Q3z Z Z (xP hok 4 Z (xP hok 5 Z (Q1Q hok 6 3 a0 Z Z Z Zq Z Z Z Z Z Z aE Q1j Q1w (fun aV aW aN aK=>(Q2e Q1K 1 Z (fun aX aG _=>?_))))))
 subst aG
 refine Q2Q hok 7 0 0 Z Z Z Zq Z Z Z Z (cs:=[_]) Z Q1w Q3z Z Z (xP hok 8 Z (QL hok Z (Q4 (Q5 [25,5,0,1] (S':=V4 ..) Z ?_))))
 refine QA Z (fun a4=>?_) (fun a4=>?_)
 replace hm:=Q1z hm a4
 refine Q5 [] (S':=[]) Z (Q6 (Q2 (wP Z (Q3 (Q4 (QP (Q11 (Qn (Qn (Q11 (Qn ?_)))))))))))
 have hE:=(Zi hm).symm
 replace hE:=QO hLu1 hE
 replace hE:=QO hLj_1 hE
 replace hE:=hE.symm
 subst hE
 refine QH (Hr:=[]) [] Tryz.results35 (QD Z) ⟨Z,Z,Z⟩ (asK [] Z) Z Z (.inl Z)
 replace hm:=Q1y hm a4
 refine Q5 [5,0,1] (S':=V3 ..) Z (Qs (Qj (Q4 (Q2 (wP Z (wP Z ?_))))))
 obtain ⟨aH,hm⟩:=Qd hm
 refine Qz (d:=16) (v':=.int .i64 ((a0 + 1:Nat):Int)) (S':=V4 ..) Z Z (Q1i (a:=a0) (b:=1) aH) (QI (S':=V4 ..) Z Z Z Z Z (Q3 ?_))
 have hE:=(Zi hm).symm
 replace hE:=Q14 hLu1 hE
 refine Q1a (_,a0 + 1) (Nat.lt_succ_self _) hE [5,0,1] Z (asK [4,5] Z) Z
 replace hm:=Q1y hm a3
 refine Q5 [] (S':=[]) Z (Q19 (Qc (Qc (Qt ?_))))
 have hE:=(Zi hm).symm
 replace hE:=QO hLu1 hE
 refine Qp () hE [] Z (asK [] Z) Z
 rintro _ hE
 try dsimp only
 have hm:=Q14 hLj_1 hE
 try dsimp only at hm
 refine Q6 (Q2 (wP Z (Q3 (Q4 (QP ?_)))))
 have hE:=(Zi hm).symm
 replace hE:=hE.symm
 subst hE
 refine QH (Hr:=[]) [] Tryz.results35 (QD Z) ⟨Z,Z,Z⟩ (asK [] Z) Z Z (.inl Z)
theorem Q5Y (N:Nat) (a0:Int) (qp0:OA) (qc1:Nat) (l1:List Int) (k2:Nat) (a3:Int) (qp2:OA) (qc3:Nat) (l4:List Int) (o0:Bool) (hm:Q36 N a0 l1 k2 a3 l4 = some o0):Q1R Tryz.prog 13 [.agg #[.int .i64 a0,.slice qp0 k2 qc1],.agg #[.int .i64 a3,.slice qp2 l4.length qc3]] [.sli 1 Qi qp0 qc1 l1,.sli 1 Qi qp2 qc3 l4] [] (fun v Φr Hr=>v = .bool o0 ∧ Φr = [] ∧ Hr = []):=by
 unfold Q36 at hm
 refine QZ Tryz.func13 Z Tryz.ntmps13 Z (S:=[_,_]) Z (fun C=>(Q6 (Q2 (wB Z (fun g2=>(wB Z (fun g3=>(wP Z (Q3 (Q4 (Q5 [3,2] (S':=[_,_]) Z (Q6 (Q2 (wF Z Q2L (wD 1 0 Z Q1w Q3z Z (wF Z Q2L ?_))))))))))))))))
 refine wD 0 0 Z Q1w Q3z Z (wP Z (wP Z ?_))
 refine Q5F (d:=10) (S':=V7 ..) Z Z (fun hs10=>?_) (fun hs10=>?_)
 replace hm:=Q1z hm hs10
 refine wF Z Q3u (wD 1 1 Z Q30 Q4R Z (wF Z Q3u (wD 0 1 Z Q30 Q4R Z ?_)))
 obtain ⟨v15,hc15,hm⟩:=Q7 hm
 refine wC [] [0,1] Z fn_35 Z (Q8Q N qp0 qc1 l1 k2 qp2 qc3 l4 _ hc15) (asK [0,1] Z) Z (H':=[_,_]) Z ?_
 rintro _ _ _ ⟨rfl,rfl,rfl⟩
 refine wP Z (wP Z (Q3 (Q4 (Q5 [4] (S':=[_]) Z (QP ?_)))))
 have hE:=(Zi hm).symm
 replace hE:=hE.symm
 subst hE
 refine QH (Hr:=[]) [] Tryz.results13 (QD Z) ⟨Z,Z,Z⟩ (asK [] Z) Z Z (.inl Z)
 replace hm:=Q1y hm hs10
 refine wO Z (wO Z (wO Z (wO Z (wO Z (wP Z (wP Z (Q3 (Q4 (Q5 [4] (S':=[_]) Z (QP ?_))))))))))
 have hE:=(Zi hm).symm
 replace hE:=hE.symm
 subst hE
 refine QH (Hr:=[]) [] Tryz.results13 (QD Z) ⟨Z,Z,Z⟩ (asK [] Z) Z Z (.inl Z)
theorem Q8N (N:Nat) (aT:OA) (a8:Nat) (l0:List Int) (k1:Nat) (a9:OA) (aA:Nat) (l2:List Int) (o0:Bool) (hm:Q5t N l0 k1 l2 = some o0):Q1R Tryz.prog 87 [.slice aT k1 a8,.slice a9 l2.length aA] [.sli 1 Qi aT a8 l0,.sli 1 Qi a9 aA l2] [] (fun v Φr Hr=>v = .bool o0 ∧ Φr = [] ∧ Hr = []):=by
 unfold Q5t at hm
 refine QZ Tryz.func87 Z Tryz.ntmps87 Z (S:=[_,_]) Z (fun C=>(Q6 (Q2 (wP Z (Q3 (Q4 (Q5 [0,1] (S':=[_,_]) Z (Q6 (Q6 (Q2 (wP Z (wN Z Q1j (wP Z (wN Z Q1j ?_))))))))))))))
 refine wP Z (Qz (d:=11) (v':=.bool (k1 != l2.length)) (S':=V6 ..) Z Z (natne (a:=k1) (b:=l2.length)) (Q3 (Q4 (Q5 [11,0,1] (S':=V3 ..) Z ?_))))
 refine QA Z (fun aB=>?_) (fun aB=>?_)
 replace hm:=Q1z hm aB
 refine Q5 [] (S':=[]) Z (Q6 (Q2 (wP Z (Q3 (Q4 (QP (Qn ?_)))))))
 have hE:=(Zi hm).symm
 replace hE:=hE.symm
 subst hE
 refine QH (Hr:=[]) [] Tryz.results87 (QD Z) ⟨Z,Z,Z⟩ (asK [] Z) Z Z (.inl Z)
 replace hm:=Q1y hm aB
 refine Q5 [0,1] (S':=[_,_]) Z (Qs (Q4 (Q6 (Q2 (wP Z (wP Z (wN Z Q1j (wP Z ?_))))))))
 obtain ⟨aU,hm⟩:=Qd hm
 refine Qz (d:=15) (v':=.int .i64 ((l2.length + 12:Nat):Int)) (S':=V5 ..) Z Z (Q1i (a:=l2.length) (b:=12) aU) ?_
 obtain ⟨aV,hm⟩:=Qd hm
 refine wl_sliToF 0 Z Z Z Zq Z Z Z Z Z Q1j Q1w aV (fun aN=>(wP Z (Q3 (Q4 (Q5 [5,1] (S':=[_,_]) Z (Q6 ?_))))))
 obtain ⟨aO,hm,hLj_1⟩:=Q35 hm
 refine Q18 (σ:=Unit) (fun _=>aO = .inl ()) (fun _=>[]) (fun _=>[]) (fun _=>[]) ?_ ?_
 refine Q6 (Q2 (wP Z (Q3 (Q4 (Qm (Q1f (σ:=Nat × Nat) (fun (a6,a0)=>Q1o (Q47 N l0 l2) a6 a0 = some aO) (fun (a6,a0)=>a6) (fun (a6,a0)=>[(6,.int .i64 ((a0:Nat):Int)),(5,.slice aN ((l0.take (l2.length + 12)).length) a8),(1,.slice a9 l2.length aA)]) (fun (a6,a0)=>[.sli 1 Qi aN a8 (l0.take (l2.length + 12)),.sli 1 Qi a9 aA l2]) (fun (a6,a0)=>[]) (N,0) hm [6,5,1] Z (asK [0,2] Z) Z (fun s_ hm=>?_)))))))
 obtain ⟨a6,a0⟩:=s_
 try dsimp only at hm ⊢
 obtain ⟨bB,bC,aW,hq,hLu1⟩:=Q1d hm
 clear hm
 subst aW
 replace hm:=hq
 clear hq
 unfold Q47 at hm
 try dsimp only at hm
 refine Q6 (Q6 (Q2 (wP Z (wP Z (wN Z Q1j (wP Z (Qz (d:=20) (v':=.bool (decide (a0 < ((l0.take (l2.length + 12)).length)))) (S':=V6 ..) Z Z (Q3f (a:=a0) (b:=(l0.take (l2.length + 12)).length)) (Q3 (Q4 (Q5 [20,6,5,1] (S':=V4 ..) Z ?_))))))))))
 refine QA Z (fun aC=>?_) (fun aC=>?_)
 replace hm:=Q1z hm aC
 refine Q5 [6,5,1] (S':=V3 ..) Z (Qs (Q4 (Q6 (Qm (Q6 ?_)))))
 obtain ⟨aX,hm,hLj_2⟩:=Q7 hm
 unfold Q5T at hm
 refine Q18 (σ:=Bool) (fun a1=>aX = a1) (fun a1=>[(6,.int .i64 ((a0:Nat):Int)),(5,.slice aN ((l0.take (l2.length + 12)).length) a8),(1,.slice a9 l2.length aA),(57,.bool a1)]) (fun a1=>[.sli 1 Qi aN a8 (l0.take (l2.length + 12)),.sli 1 Qi a9 aA l2]) (fun a1=>[]) ?_ ?_
 rcases Q32 hm with ⟨a3,hm⟩ | ⟨a3,hm⟩
 obtain ⟨bD,aD,hm⟩:=Q7 hm
 obtain ⟨bE,aE,hm⟩:=Q7 hm
 rcases Q32 hm with ⟨a7,hm⟩ | ⟨a7,hm⟩
 refine QV [0,1,2,3,4,5,6,7,8,9,10,11,12,13,14,15,16,17,18,19,20,21,22,23,24,25,26,27,28,29,31,32,33,34] Z Z (fun hok=>(xP hok 0 Z (xP hok 1 Z (Q4r hok 2 Z Z Z Zq Z Z Z Q1j (xP hok 3 Z (Q1e (d:=26) (v':=.bool (decide (a0 < l2.length))) (S':=V6 ..) Z Z (Q3f (a:=a0) (b:=l2.length)) (xP hok 4 Z (Q1e (d:=27) (v':=.bool true) (S':=V7 ..) Z Z (Q16 a3) (xP hok 5 Z (xP hok 6 Z (Q1Q hok 7 0 a0 Z Z Z Zq Z Z Z Z Z Z aD Q1j Q1w (fun aY aZ aP aF=>(Q2e Q1K 1 Z (fun b0 a4 _=>?_))))))))))))))
 subst a4
 refine Q2Q hok 8 0 0 Z Z Z Zq Z Z Z Z (cs:=[_]) Z Q1w Q3z Z Z (xP hok 9 Z (xP hok 10 Z (Q1Q hok 11 3 a0 Z Z Z Zq Z Z Z Z Z Z aE Q1j Q1w (fun b1 b2 aQ aG=>(Q2e Q1K 1 Z (fun b3 a5 _=>?_))))))
 subst a5
 refine Q2Q hok 12 0 0 Z Z Z Zq Z Z Z Z (cs:=[_]) Z Q1w Q3z Z Z (xP hok 13 Z (xP hok 14 Z (xP hok 15 Z (xP hok 16 Z (Q1e (d:=39) (v':=.bool true) (S':=V19 ..) Z Z (Q16 a7) (xO hok 17 Z (xO hok 18 Z (xO hok 19 Z (xO hok 20 Z (xO hok 21 Z (xO hok 22 Z (xO hok 23 Z (xO hok 24 Z ?_)))))))))))))
 refine xO hok 25 Z (xO hok 26 Z (xO hok 27 Z (xO hok 28 Z (xO hok 29 Z (xS hok 30 Z (wO Z (Q3 (Qy [0,1,2,3,4,5] [] Z Z (xO hok 31 Z (xO hok 32 Z (xO hok 33 Z (xP hok 34 Z (QL hok Z ?_)))))))))))))
 have hE:=(Zi hm).symm
 refine Qp true hE [6,5,1,57] Z (asK [4,5] Z) Z
 rcases Q32 hm with ⟨a2,hm⟩ | ⟨a2,hm⟩
 obtain ⟨aR,aH,hm⟩:=Q7 hm
 obtain ⟨aI,hm⟩:=Qd hm
 obtain ⟨_,aJ,hm⟩:=Q7 hm
 try dsimp only at hm
 refine QV [0,1,2,3,4,5,6,7,8,9,10,11,12,13,14,15,16,17,18,19,20,21,22,23,24,25,26,27,28,29,31,32,33,34] Z Z (fun hok=>(xP hok 0 Z (xP hok 1 Z (Q4r hok 2 Z Z Z Zq Z Z Z Q1j (xP hok 3 Z (Q1e (d:=26) (v':=.bool (decide (a0 < l2.length))) (S':=V6 ..) Z Z (Q3f (a:=a0) (b:=l2.length)) (xP hok 4 Z (Q1e (d:=27) (v':=.bool true) (S':=V7 ..) Z Z (Q16 a3) (xP hok 5 Z (xP hok 6 Z (Q1Q hok 7 0 a0 Z Z Z Zq Z Z Z Z Z Z aD Q1j Q1w (fun aY aZ aP aF=>(Q2e Q1K 1 Z (fun b0 a4 _=>?_))))))))))))))
 subst a4
 refine Q2Q hok 8 0 0 Z Z Z Zq Z Z Z Z (cs:=[_]) Z Q1w Q3z Z Z (xP hok 9 Z (xP hok 10 Z (Q1Q hok 11 3 a0 Z Z Z Zq Z Z Z Z Z Z aE Q1j Q1w (fun b1 b2 aQ aG=>(Q2e Q1K 1 Z (fun b3 a5 _=>?_))))))
 subst a5
 refine Q2Q hok 12 0 0 Z Z Z Zq Z Z Z Z (cs:=[_]) Z Q1w Q3z Z Z (xP hok 13 Z (xP hok 14 Z (xP hok 15 Z (xP hok 16 Z (Q1e (d:=39) (v':=.bool false) (S':=V19 ..) Z Z (Q16 a7) (xP hok 17 Z (xP hok 18 Z (Q4r hok 19 Z Z Z Zq Z Z Z Q1j (xP hok 20 Z (Q1e (d:=43) (v':=.bool (decide (l2.length ≤ a0))) (S':=V23 ..) Z Z (natge (a:=a0) (b:=l2.length)) (xP hok 21 Z (Q1e (d:=44) (v':=.bool true) (S':=V24 ..) Z Z (Q16 a2) (xP hok 22 Z ?_)))))))))))))
 refine xP hok 23 Z (Q1Q hok 24 4 a0 Z Z Z Zq Z Z Z Z Z Z aH Q1j Q1w (fun b7 b8 b4 aS=>(Q2e Q1K 1 Z (fun b9 aK _=>?_))))
 subst aK
 refine Q2Q hok 25 0 0 Z Z Z Zq Z Z Z Z (cs:=[_]) Z Q1w Q3z Z Z (xP hok 26 Z (xP hok 27 Z (Q4r hok 28 Z Z Z Zq Z Z Z Q1j (xP hok 29 Z (Q1e (d:=52) (v':=.int .i64 (((a0:Nat):Int) - ((l2.length:Nat):Int))) (S':=V32 ..) Z Z (i64_in aI) (xS hok 30 Z (wC [] [] Z fn_99 Z (Q51 N 1 (((a0:Nat):Int) - ((l2.length:Nat):Int)) aJ) (asK [] Z) Z (H':=[]) Z ?_)))))))
 rintro _ _ _ ⟨rfl,rfl,rfl⟩
 refine Q3 (Qy [0,1,2,3,4,5,6,7] [] Z Z (xP hok 31 Z (xP hok 32 Z (xP hok 33 Z (xP hok 34 Z (QL hok Z ?_))))))
 have hE:=(Zi hm).symm
 refine Qp (!(aR == (IntKind.wrap .i64 ((IntKind.wrap .i64 (1000003 * (IntKind.wrap .i64 (1 + 7)))) + (((a0:Nat):Int) - ((l2.length:Nat):Int)))))) hE [6,5,1,57] Z (asK [6,7] Z) Z
 refine QV [0,1,2,3,4,5,6,7,8,9,10,11,12,13,14,15,16,17,18,19,20,21,22,23,24,25,26,27,28,29,31,32,33,34] Z Z (fun hok=>(xP hok 0 Z (xP hok 1 Z (Q4r hok 2 Z Z Z Zq Z Z Z Q1j (xP hok 3 Z (Q1e (d:=26) (v':=.bool (decide (a0 < l2.length))) (S':=V6 ..) Z Z (Q3f (a:=a0) (b:=l2.length)) (xP hok 4 Z (Q1e (d:=27) (v':=.bool true) (S':=V7 ..) Z Z (Q16 a3) (xP hok 5 Z (xP hok 6 Z (Q1Q hok 7 0 a0 Z Z Z Zq Z Z Z Z Z Z aD Q1j Q1w (fun aY aZ aP aF=>(Q2e Q1K 1 Z (fun b0 a4 _=>?_))))))))))))))
 subst a4
 refine Q2Q hok 8 0 0 Z Z Z Zq Z Z Z Z (cs:=[_]) Z Q1w Q3z Z Z (xP hok 9 Z (xP hok 10 Z (Q1Q hok 11 3 a0 Z Z Z Zq Z Z Z Z Z Z aE Q1j Q1w (fun b1 b2 aQ aG=>(Q2e Q1K 1 Z (fun b3 a5 _=>?_))))))
 subst a5
 refine Q2Q hok 12 0 0 Z Z Z Zq Z Z Z Z (cs:=[_]) Z Q1w Q3z Z Z (xP hok 13 Z (xP hok 14 Z (xP hok 15 Z (xP hok 16 Z (Q1e (d:=39) (v':=.bool false) (S':=V19 ..) Z Z (Q16 a7) (xP hok 17 Z (xP hok 18 Z (Q4r hok 19 Z Z Z Zq Z Z Z Q1j (xP hok 20 Z (Q1e (d:=43) (v':=.bool (decide (l2.length ≤ a0))) (S':=V23 ..) Z Z (natge (a:=a0) (b:=l2.length)) (xP hok 21 Z (Q1e (d:=44) (v':=.bool false) (S':=V24 ..) Z Z (Q16 a2) (xO hok 22 Z ?_)))))))))))))
 refine xO hok 23 Z (xO hok 24 Z (xO hok 25 Z (xO hok 26 Z (xO hok 27 Z (xO hok 28 Z (xO hok 29 Z (xS hok 30 Z (wO Z (Q3 (Qy [0,1,2,3,4,5] [] Z Z (xO hok 31 Z (xO hok 32 Z (xP hok 33 Z ?_)))))))))))))
 refine xP hok 34 Z (QL hok Z ?_)
 have hE:=(Zi hm).symm
 refine Qp false hE [6,5,1,57] Z (asK [4,5] Z) Z
 rcases Q32 hm with ⟨a2,hm⟩ | ⟨a2,hm⟩
 obtain ⟨aR,aH,hm⟩:=Q7 hm
 obtain ⟨aI,hm⟩:=Qd hm
 obtain ⟨_,aJ,hm⟩:=Q7 hm
 try dsimp only at hm
 refine QV [0,1,2,3,4,5,6,7,8,9,10,11,12,13,14,15,16,17,18,19,20,21,22,23,24,25,26,27,28,29,31,32,33,34] Z Z (fun hok=>(xP hok 0 Z (xP hok 1 Z (Q4r hok 2 Z Z Z Zq Z Z Z Q1j (xP hok 3 Z (Q1e (d:=26) (v':=.bool (decide (a0 < l2.length))) (S':=V6 ..) Z Z (Q3f (a:=a0) (b:=l2.length)) (xP hok 4 Z (Q1e (d:=27) (v':=.bool false) (S':=V7 ..) Z Z (Q16 a3) (xO hok 5 Z (xO hok 6 Z (xO hok 7 Z (xO hok 8 Z (xO hok 9 Z (xO hok 10 Z ?_))))))))))))))
 refine xO hok 11 Z (xO hok 12 Z (xO hok 13 Z (xO hok 14 Z (xP hok 15 Z (xP hok 16 Z (xP hok 17 Z (xP hok 18 Z (Q4r hok 19 Z Z Z Zq Z Z Z Q1j (xP hok 20 Z (Q1e (d:=43) (v':=.bool (decide (l2.length ≤ a0))) (S':=V23 ..) Z Z (natge (a:=a0) (b:=l2.length)) (xP hok 21 Z (Q1e (d:=44) (v':=.bool true) (S':=V24 ..) Z Z (Q16 a2) (xP hok 22 Z ?_)))))))))))))
 refine xP hok 23 Z (Q1Q hok 24 0 a0 Z Z Z Zq Z Z Z Z Z Z aH Q1j Q1w (fun b7 b8 b4 aS=>(Q2e Q1K 1 Z (fun b9 aK _=>?_))))
 subst aK
 refine Q2Q hok 25 0 0 Z Z Z Zq Z Z Z Z (cs:=[_]) Z Q1w Q3z Z Z (xP hok 26 Z (xP hok 27 Z (Q4r hok 28 Z Z Z Zq Z Z Z Q1j (xP hok 29 Z (Q1e (d:=52) (v':=.int .i64 (((a0:Nat):Int) - ((l2.length:Nat):Int))) (S':=V32 ..) Z Z (i64_in aI) (xS hok 30 Z (wC [] [] Z fn_99 Z (Q51 N 1 (((a0:Nat):Int) - ((l2.length:Nat):Int)) aJ) (asK [] Z) Z (H':=[]) Z ?_)))))))
 rintro _ _ _ ⟨rfl,rfl,rfl⟩
 refine Q3 (Qy [0,1,2,3] [] Z Z (xP hok 31 Z (xP hok 32 Z (xP hok 33 Z (xP hok 34 Z (QL hok Z ?_))))))
 have hE:=(Zi hm).symm
 refine Qp (!(aR == (IntKind.wrap .i64 ((IntKind.wrap .i64 (1000003 * (IntKind.wrap .i64 (1 + 7)))) + (((a0:Nat):Int) - ((l2.length:Nat):Int)))))) hE [6,5,1,57] Z (asK [2,3] Z) Z
 refine QV [0,1,2,3,4,5,6,7,8,9,10,11,12,13,14,15,16,17,18,19,20,21,22,23,24,25,26,27,28,29,31,32,33,34] Z Z (fun hok=>(xP hok 0 Z (xP hok 1 Z (Q4r hok 2 Z Z Z Zq Z Z Z Q1j (xP hok 3 Z (Q1e (d:=26) (v':=.bool (decide (a0 < l2.length))) (S':=V6 ..) Z Z (Q3f (a:=a0) (b:=l2.length)) (xP hok 4 Z (Q1e (d:=27) (v':=.bool false) (S':=V7 ..) Z Z (Q16 a3) (xO hok 5 Z (xO hok 6 Z (xO hok 7 Z (xO hok 8 Z (xO hok 9 Z (xO hok 10 Z ?_))))))))))))))
 refine xO hok 11 Z (xO hok 12 Z (xO hok 13 Z (xO hok 14 Z (xP hok 15 Z (xP hok 16 Z (xP hok 17 Z (xP hok 18 Z (Q4r hok 19 Z Z Z Zq Z Z Z Q1j (xP hok 20 Z (Q1e (d:=43) (v':=.bool (decide (l2.length ≤ a0))) (S':=V23 ..) Z Z (natge (a:=a0) (b:=l2.length)) (xP hok 21 Z (Q1e (d:=44) (v':=.bool false) (S':=V24 ..) Z Z (Q16 a2) (xO hok 22 Z ?_)))))))))))))
 refine xO hok 23 Z (xO hok 24 Z (xO hok 25 Z (xO hok 26 Z (xO hok 27 Z (xO hok 28 Z (xO hok 29 Z (xS hok 30 Z (wO Z (Q3 (Qy [0,1] [] Z Z (xO hok 31 Z (xO hok 32 Z (xP hok 33 Z ?_)))))))))))))
 refine xP hok 34 Z (QL hok Z ?_)
 have hE:=(Zi hm).symm
 refine Qp false hE [6,5,1,57] Z (asK [0,1] Z) Z
 rintro a1 hE
 try dsimp only
 have hm:=hLj_2
 try rw [hE] at hm
 refine QA Z (fun aL=>?_) (fun aL=>?_)
 replace hm:=Q1z hm aL
 refine Q5 [] (S':=[]) Z (Q6 (Q2 (wP Z (Q3 (Q4 (QP (Q11 (Qn (Qn (Q11 (Qn ?_)))))))))))
 have hE:=(Zi hm).symm
 replace hE:=QO hLu1 hE
 replace hE:=QO hLj_1 hE
 replace hE:=hE.symm
 subst hE
 refine QH (Hr:=[]) [] Tryz.results87 (QD Z) ⟨Z,Z,Z⟩ (asK [] Z) Z Z (.inl Z)
 replace hm:=Q1y hm aL
 refine Q5 [6,5,1] (S':=V3 ..) Z (Qs (Qj (Q4 (Q2 (wP Z (wP Z ?_))))))
 obtain ⟨b5,hm⟩:=Qd hm
 refine Qz (d:=22) (v':=.int .i64 ((a0 + 1:Nat):Int)) (S':=V4 ..) Z Z (Q1i (a:=a0) (b:=1) b5) (QI (S':=V4 ..) Z Z Z Z Z (Q3 ?_))
 have hE:=(Zi hm).symm
 replace hE:=Q14 hLu1 hE
 refine Q1a (_,a0 + 1) (Nat.lt_succ_self _) hE [6,5,1] Z (asK [0,1] Z) Z
 replace hm:=Q1y hm aC
 refine Q5 [] (S':=[]) Z (Q19 (Qc (Qc (Qt ?_))))
 have hE:=(Zi hm).symm
 replace hE:=QO hLu1 hE
 refine Qp () hE [] Z (asK [] Z) Z
 rintro _ hE
 try dsimp only
 have hm:=Q14 hLj_1 hE
 try dsimp only at hm
 refine Q6 (Q2 (wP Z (Q3 (Q4 (QP ?_)))))
 have hE:=(Zi hm).symm
 replace hE:=hE.symm
 subst hE
 refine QH (Hr:=[]) [] Tryz.results87 (QD Z) ⟨Z,Z,Z⟩ (asK [] Z) Z Z (.inl Z)
theorem Q5X (N:Nat) (a0:Int) (qp0:OA) (qc1:Nat) (l1:List Int) (k2:Nat) (a3:Int) (qp2:OA) (qc3:Nat) (l4:List Int) (o0:Bool) (hm:Q3K N a0 l1 k2 a3 l4 = some o0):Q1R Tryz.prog 39 [.agg #[.int .i64 a0,.slice qp0 k2 qc1],.agg #[.int .i64 a3,.slice qp2 l4.length qc3]] [.sli 1 Qi qp0 qc1 l1,.sli 1 Qi qp2 qc3 l4] [] (fun v Φr Hr=>v = .bool o0 ∧ Φr = [] ∧ Hr = []):=by
 unfold Q3K at hm
 refine QZ Tryz.func39 Z Tryz.ntmps39 Z (S:=[_,_]) Z (fun C=>(Q6 (Q2 (wB Z (fun g2=>(wB Z (fun g3=>(wP Z (Q3 (Q4 (Q5 [3,2] (S':=[_,_]) Z (Q6 (Q2 (Q1V 1 0 Z Z Z Zq Z Z Z (cs:=[_,_]) Z Qe QS Z Z (Q1V 0 0 Z Z Z Zq Z Z Z (cs:=[_,_]) Z Qe QS Z Z ?_)))))))))))))))
 obtain ⟨v7,hc7,hm⟩:=Q7 hm
 refine wC [] [0,1] Z fn_13 Z (Q5Y N a0 qp0 qc1 l1 k2 a3 qp2 qc3 l4 _ hc7) (asK [0,1] Z) Z (H':=[_,_]) Z ?_
 rintro _ _ _ ⟨rfl,rfl,rfl⟩
 refine wP Z ?_
 refine Q5F (d:=8) (S':=V5 ..) Z Z (fun hs8=>?_) (fun hs8=>?_)
 replace hm:=Q1z hm hs8
 refine wF Z Q3u (wD 1 1 Z Q30 Q4R Z (wF Z Q3u (wD 0 1 Z Q30 Q4R Z ?_)))
 obtain ⟨v13,hc13,hm⟩:=Q7 hm
 refine wC [] [0,1] Z fn_87 Z (Q8N N qp0 qc1 l1 k2 qp2 qc3 l4 _ hc13) (asK [0,1] Z) Z (H':=[_,_]) Z ?_
 rintro _ _ _ ⟨rfl,rfl,rfl⟩
 refine wP Z (wP Z (Q3 (Q4 (Q5 [4] (S':=[_]) Z (QP ?_)))))
 have hE:=(Zi hm).symm
 replace hE:=hE.symm
 subst hE
 refine QH (Hr:=[]) [] Tryz.results39 (QD Z) ⟨Z,Z,Z⟩ (asK [] Z) Z Z (.inl Z)
 replace hm:=Q1y hm hs8
 refine wO Z (wO Z (wO Z (wO Z (wO Z (wP Z (wP Z (Q3 (Q4 (Q5 [4] (S':=[_]) Z (QP ?_))))))))))
 have hE:=(Zi hm).symm
 replace hE:=hE.symm
 subst hE
 refine QH (Hr:=[]) [] Tryz.results39 (QD Z) ⟨Z,Z,Z⟩ (asK [] Z) Z Z (.inl Z)
theorem Q8o (N:Nat) (b1:OA) (aC:Nat) (l0:List Qo) (k1:Nat) (aD:OA) (aE:Nat) (l2:List Q1) (o0:Bool) (hm:Q4j N l0 k1 l2 = some o0):Q1R Tryz.prog 29 [.slice b1 k1 aC,.slice aD l2.length aE] [.sli 2 Q7p b1 aC l0,.sli 2 Q9 aD aE l2] [] (fun v Φr Hr=>v = .bool o0 ∧ Φr = [] ∧ Hr = []):=by
 unfold Q4j at hm
 refine QZ Tryz.func29 Z Tryz.ntmps29 Z (S:=[_,_]) Z (fun C=>(Q6 (Q2 (wP Z (Q3 (Q4 (Q5 [0,1] (S':=[_,_]) Z (Q6 (Q6 (Q2 (wP Z (wN Z QB (wP Z (wN Z QB ?_))))))))))))))
 refine wP Z (Qz (d:=11) (v':=.bool (k1 != l2.length)) (S':=V6 ..) Z Z (natne (a:=k1) (b:=l2.length)) (Q3 (Q4 (Q5 [11,0,1] (S':=V3 ..) Z ?_))))
 refine QA Z (fun aG=>?_) (fun aG=>?_)
 replace hm:=Q1z hm aG
 refine Q5 [] (S':=[]) Z (Q6 (Q2 (wP Z (Q3 (Q4 (QP (Qn ?_)))))))
 have hE:=(Zi hm).symm
 replace hE:=hE.symm
 subst hE
 refine QH (Hr:=[]) [] Tryz.results29 (QD Z) ⟨Z,Z,Z⟩ (asK [] Z) Z Z (.inl Z)
 replace hm:=Q1y hm aG
 refine Q5 [0,1] (S':=[_,_]) Z (Qs (Q4 (Q6 (Q2 (wP Z (wP Z (wN Z QB (wP Z ?_))))))))
 obtain ⟨b2,hm⟩:=Qd hm
 refine Qz (d:=15) (v':=.int .i64 ((l2.length + 12:Nat):Int)) (S':=V5 ..) Z Z (Q1i (a:=l2.length) (b:=12) b2) ?_
 obtain ⟨b3,hm⟩:=Qd hm
 refine wl_sliToF 0 Z Z Z Zq Z Z Z Z Z QB Qe b3 (fun aV=>(wP Z (Q3 (Q4 (Q5 [5,1] (S':=[_,_]) Z (Q6 ?_))))))
 obtain ⟨aW,hm,hLj_1⟩:=Q35 hm
 refine Q18 (σ:=Unit) (fun _=>aW = .inl ()) (fun _=>[]) (fun _=>[]) (fun _=>[]) ?_ ?_
 refine Q6 (Q2 (wP Z (Q3 (Q4 (Qm (Q1f (σ:=Nat × Nat) (fun (aA,a0)=>Q1o (Q3H N l0 l2) aA a0 = some aW) (fun (aA,a0)=>aA) (fun (aA,a0)=>[(6,.int .i64 ((a0:Nat):Int)),(5,.slice aV ((l0.take (l2.length + 12)).length) aC),(1,.slice aD l2.length aE)]) (fun (aA,a0)=>[.sli 2 Q7p aV aC (l0.take (l2.length + 12)),.sli 2 Q9 aD aE l2]) (fun (aA,a0)=>[]) (N,0) hm [6,5,1] Z (asK [0,2] Z) Z (fun s_ hm=>?_)))))))
 obtain ⟨aA,a0⟩:=s_
 try dsimp only at hm ⊢
 obtain ⟨bG,bH,b4,hq,hLu1⟩:=Q1d hm
 clear hm
 subst b4
 replace hm:=hq
 clear hq
 unfold Q3H at hm
 try dsimp only at hm
 refine Q6 (Q6 (Q2 (wP Z (wP Z (wN Z QB (wP Z (Qz (d:=20) (v':=.bool (decide (a0 < ((l0.take (l2.length + 12)).length)))) (S':=V6 ..) Z Z (Q3f (a:=a0) (b:=(l0.take (l2.length + 12)).length)) (Q3 (Q4 (Q5 [20,6,5,1] (S':=V4 ..) Z ?_))))))))))
 refine QA Z (fun aH=>?_) (fun aH=>?_)
 replace hm:=Q1z hm aH
 refine Q5 [6,5,1] (S':=V3 ..) Z (Qs (Q4 (Q6 (Qm (Q6 ?_)))))
 obtain ⟨b5,hm,hLj_2⟩:=Q7 hm
 unfold Q5z at hm
 refine Q18 (σ:=Bool) (fun a1=>b5 = a1) (fun a1=>[(6,.int .i64 ((a0:Nat):Int)),(5,.slice aV ((l0.take (l2.length + 12)).length) aC),(1,.slice aD l2.length aE),(57,.bool a1)]) (fun a1=>[.sli 2 Q7p aV aC (l0.take (l2.length + 12)),.sli 2 Q9 aD aE l2]) (fun a1=>[]) ?_ ?_
 rcases Q32 hm with ⟨a4,hm⟩ | ⟨a4,hm⟩
 obtain ⟨a2,aI,hm⟩:=Q7 hm
 obtain ⟨aF,aJ,hm⟩:=Q7 hm
 obtain ⟨bI,aK,hm⟩:=Q7 hm
 rcases Q32 hm with ⟨aB,hm⟩ | ⟨aB,hm⟩
 refine QV [0,1,2,3,4,5,6,7,8,9,10,11,12,14,15,16,17,18,19,20,21,22,23,24,25,26,27,28,29,32,33,34] Z Z (fun hok=>(xP hok 0 Z (xP hok 1 Z (Q4r hok 2 Z Z Z Zq Z Z Z QB (xP hok 3 Z (Q1e (d:=26) (v':=.bool (decide (a0 < l2.length))) (S':=V6 ..) Z Z (Q3f (a:=a0) (b:=l2.length)) (xP hok 4 Z (Q1e (d:=27) (v':=.bool true) (S':=V7 ..) Z Z (Q16 a4) (xP hok 5 Z (xP hok 6 Z (Q1Q hok 7 0 a0 Z Z Z Zq Z Z Z Z Z Z aI QB Qe (fun b6 b7 aX aL=>(Q2e Q5N 1 Z (fun a6 a7 _=>?_))))))))))))))
 subst a7
 refine Q2Q hok 8 1 0 Z Z Z Zq Z Z Z Z (cs:=[_,_]) Z Qe QS Z Z (xP hok 9 Z (xP hok 10 Z (Q1Q hok 11 4 a0 Z Z Z Zq Z Z Z Z Z Z aJ QB Qe (fun b8 b9 aY aM=>(Q2e Qa 1 Z (fun a8 a9 _=>?_))))))
 subst a9
 refine Q2Q hok 12 1 0 Z Z Z Zq Z Z Z Z (cs:=[_,_]) Z Qe QS Z Z (xS hok 13 Z (wC [] [] Z fn_39 Z (Q5X N a2.rule a6.1 a6.2 (a2.ids ++ a2.idsT) a2.ids.length aF.rule a8.1 a8.2 aF.ids _ aK) (asK [3,0] Z) Z (H':=[]) Z ?_))
 rintro _ _ _ ⟨rfl,rfl,rfl⟩
 refine Q3 (Qy [0,1,2,3,4,5,6,7] [] Z Z (xP hok 14 Z (xP hok 15 Z (xP hok 16 Z (Q1e (d:=39) (v':=.bool true) (S':=V19 ..) Z Z (Q16 aB) (xO hok 17 Z (xO hok 18 Z (xO hok 19 Z (xO hok 20 Z (xO hok 21 Z (xO hok 22 Z (xO hok 23 Z (xO hok 24 Z ?_)))))))))))))
 refine xO hok 25 Z (xO hok 26 Z (xO hok 27 Z (xO hok 28 Z (xO hok 29 Z (xS hok 30 Z (wO Z (Q3 (Qy [0,1,2,3,4,5,6,7] [] Z Z (xS hok 31 Z (wO Z (Q3 (Qy [0,1,2,3,4,5,6,7] [] Z Z (xO hok 32 Z ?_)))))))))))))
 refine xO hok 33 Z (xP hok 34 Z (QL hok Z ?_))
 have hE:=(Zi hm).symm
 refine Qp true hE [6,5,1,57] Z (asK [6,7] Z) Z
 rcases Q32 hm with ⟨a3,hm⟩ | ⟨a3,hm⟩
 obtain ⟨a5,aN,hm⟩:=Q7 hm
 obtain ⟨aO,hm⟩:=Qd hm
 obtain ⟨_,aP,hm⟩:=Q7 hm
 try dsimp only at hm
 obtain ⟨aZ,aQ,hm⟩:=Q7 hm
 refine QV [0,1,2,3,4,5,6,7,8,9,10,11,12,14,15,16,17,18,19,20,21,22,23,24,25,26,27,28,29,32,33,34] Z Z (fun hok=>(xP hok 0 Z (xP hok 1 Z (Q4r hok 2 Z Z Z Zq Z Z Z QB (xP hok 3 Z (Q1e (d:=26) (v':=.bool (decide (a0 < l2.length))) (S':=V6 ..) Z Z (Q3f (a:=a0) (b:=l2.length)) (xP hok 4 Z (Q1e (d:=27) (v':=.bool true) (S':=V7 ..) Z Z (Q16 a4) (xP hok 5 Z (xP hok 6 Z (Q1Q hok 7 0 a0 Z Z Z Zq Z Z Z Z Z Z aI QB Qe (fun b6 b7 aX aL=>(Q2e Q5N 1 Z (fun a6 a7 _=>?_))))))))))))))
 subst a7
 refine Q2Q hok 8 1 0 Z Z Z Zq Z Z Z Z (cs:=[_,_]) Z Qe QS Z Z (xP hok 9 Z (xP hok 10 Z (Q1Q hok 11 4 a0 Z Z Z Zq Z Z Z Z Z Z aJ QB Qe (fun b8 b9 aY aM=>(Q2e Qa 1 Z (fun a8 a9 _=>?_))))))
 subst a9
 refine Q2Q hok 12 1 0 Z Z Z Zq Z Z Z Z (cs:=[_,_]) Z Qe QS Z Z (xS hok 13 Z (wC [] [] Z fn_39 Z (Q5X N a2.rule a6.1 a6.2 (a2.ids ++ a2.idsT) a2.ids.length aF.rule a8.1 a8.2 aF.ids _ aK) (asK [3,0] Z) Z (H':=[]) Z ?_))
 rintro _ _ _ ⟨rfl,rfl,rfl⟩
 refine Q3 (Qy [0,1,2,3,4,5,6,7] [] Z Z (xP hok 14 Z (xP hok 15 Z (xP hok 16 Z (Q1e (d:=39) (v':=.bool false) (S':=V19 ..) Z Z (Q16 aB) (xP hok 17 Z (xP hok 18 Z (Q4r hok 19 Z Z Z Zq Z Z Z QB (xP hok 20 Z (Q1e (d:=43) (v':=.bool (decide (l2.length ≤ a0))) (S':=V23 ..) Z Z (natge (a:=a0) (b:=l2.length)) (xP hok 21 Z (Q1e (d:=44) (v':=.bool true) (S':=V24 ..) Z Z (Q16 a3) (xP hok 22 Z ?_)))))))))))))
 refine xP hok 23 Z (Q1Q hok 24 6 a0 Z Z Z Zq Z Z Z Z Z Z aN QB Qe (fun bD bE bA b0=>(Q2e Q5N 1 Z (fun aR aS _=>?_))))
 subst aS
 refine Q2Q hok 25 1 0 Z Z Z Zq Z Z Z Z (cs:=[_,_]) Z Qe QS Z Z (xP hok 26 Z (xP hok 27 Z (Q4r hok 28 Z Z Z Zq Z Z Z QB (xP hok 29 Z (Q1e (d:=52) (v':=.int .i64 (((a0:Nat):Int) - ((l2.length:Nat):Int))) (S':=V32 ..) Z Z (i64_in aO) (xS hok 30 Z (wC [] [] Z fn_49 Z (Q4z N 1 (((a0:Nat):Int) - ((l2.length:Nat):Int)) aP) (asK [] Z) Z (H':=[]) Z ?_)))))))
 rintro _ _ _ ⟨rfl,rfl,rfl⟩
 refine Q3 (Qy [0,1,2,3,4,5,6,7,8,9,10] [] Z Z (xS hok 31 Z (Q4Q (.sli 1 Qi none 0 ([] : List Int)) (fun _ _ _=>Q5n) (wC [] [] Z fn_13 Z (Q5Y N a5.rule aR.1 aR.2 (a5.ids ++ a5.idsT) a5.ids.length (IntKind.wrap .i64 ((IntKind.wrap .i64 (1000003 * (IntKind.wrap .i64 (1 + 7)))) + (((a0:Nat):Int) - ((l2.length:Nat):Int)))) none 0 ([] : List Int) _ aQ) (asK [1,0] Z) Z (H':=[]) Z ?_))))
 rintro _ _ _ ⟨rfl,rfl,rfl⟩
 refine Q3 (Qy [1,2,3,4,5,6,7,8,9,10,11] [] Z Z (xP hok 32 Z (xP hok 33 Z (xP hok 34 Z (QL hok Z ?_)))))
 have hE:=(Zi hm).symm
 refine Qp (!aZ) hE [6,5,1,57] Z (asK [10,11] Z) Z
 refine QV [0,1,2,3,4,5,6,7,8,9,10,11,12,14,15,16,17,18,19,20,21,22,23,24,25,26,27,28,29,32,33,34] Z Z (fun hok=>(xP hok 0 Z (xP hok 1 Z (Q4r hok 2 Z Z Z Zq Z Z Z QB (xP hok 3 Z (Q1e (d:=26) (v':=.bool (decide (a0 < l2.length))) (S':=V6 ..) Z Z (Q3f (a:=a0) (b:=l2.length)) (xP hok 4 Z (Q1e (d:=27) (v':=.bool true) (S':=V7 ..) Z Z (Q16 a4) (xP hok 5 Z (xP hok 6 Z (Q1Q hok 7 0 a0 Z Z Z Zq Z Z Z Z Z Z aI QB Qe (fun b6 b7 aX aL=>(Q2e Q5N 1 Z (fun a6 a7 _=>?_))))))))))))))
 subst a7
 refine Q2Q hok 8 1 0 Z Z Z Zq Z Z Z Z (cs:=[_,_]) Z Qe QS Z Z (xP hok 9 Z (xP hok 10 Z (Q1Q hok 11 4 a0 Z Z Z Zq Z Z Z Z Z Z aJ QB Qe (fun b8 b9 aY aM=>(Q2e Qa 1 Z (fun a8 a9 _=>?_))))))
 subst a9
 refine Q2Q hok 12 1 0 Z Z Z Zq Z Z Z Z (cs:=[_,_]) Z Qe QS Z Z (xS hok 13 Z (wC [] [] Z fn_39 Z (Q5X N a2.rule a6.1 a6.2 (a2.ids ++ a2.idsT) a2.ids.length aF.rule a8.1 a8.2 aF.ids _ aK) (asK [3,0] Z) Z (H':=[]) Z ?_))
 rintro _ _ _ ⟨rfl,rfl,rfl⟩
 refine Q3 (Qy [0,1,2,3,4,5,6,7] [] Z Z (xP hok 14 Z (xP hok 15 Z (xP hok 16 Z (Q1e (d:=39) (v':=.bool false) (S':=V19 ..) Z Z (Q16 aB) (xP hok 17 Z (xP hok 18 Z (Q4r hok 19 Z Z Z Zq Z Z Z QB (xP hok 20 Z (Q1e (d:=43) (v':=.bool (decide (l2.length ≤ a0))) (S':=V23 ..) Z Z (natge (a:=a0) (b:=l2.length)) (xP hok 21 Z (Q1e (d:=44) (v':=.bool false) (S':=V24 ..) Z Z (Q16 a3) (xO hok 22 Z ?_)))))))))))))
 refine xO hok 23 Z (xO hok 24 Z (xO hok 25 Z (xO hok 26 Z (xO hok 27 Z (xO hok 28 Z (xO hok 29 Z (xS hok 30 Z (wO Z (Q3 (Qy [0,1,2,3,4,5,6,7] [] Z Z (xS hok 31 Z (wO Z (Q3 ?_)))))))))))))
 refine Qy [0,1,2,3,4,5,6,7] [] Z Z (xO hok 32 Z (xP hok 33 Z (xP hok 34 Z (QL hok Z ?_))))
 have hE:=(Zi hm).symm
 refine Qp false hE [6,5,1,57] Z (asK [6,7] Z) Z
 rcases Q32 hm with ⟨a3,hm⟩ | ⟨a3,hm⟩
 obtain ⟨a5,aN,hm⟩:=Q7 hm
 obtain ⟨aO,hm⟩:=Qd hm
 obtain ⟨_,aP,hm⟩:=Q7 hm
 try dsimp only at hm
 obtain ⟨aZ,aQ,hm⟩:=Q7 hm
 refine QV [0,1,2,3,4,5,6,7,8,9,10,11,12,14,15,16,17,18,19,20,21,22,23,24,25,26,27,28,29,32,33,34] Z Z (fun hok=>(xP hok 0 Z (xP hok 1 Z (Q4r hok 2 Z Z Z Zq Z Z Z QB (xP hok 3 Z (Q1e (d:=26) (v':=.bool (decide (a0 < l2.length))) (S':=V6 ..) Z Z (Q3f (a:=a0) (b:=l2.length)) (xP hok 4 Z (Q1e (d:=27) (v':=.bool false) (S':=V7 ..) Z Z (Q16 a4) (xO hok 5 Z (xO hok 6 Z (xO hok 7 Z (xO hok 8 Z (xO hok 9 Z (xO hok 10 Z ?_))))))))))))))
 refine xO hok 11 Z (xO hok 12 Z (xS hok 13 Z (wO Z (Q3 (Qy [0,1] [] Z Z (xO hok 14 Z (xP hok 15 Z (xP hok 16 Z (xP hok 17 Z (xP hok 18 Z (Q4r hok 19 Z Z Z Zq Z Z Z QB (xP hok 20 Z (Q1e (d:=43) (v':=.bool (decide (l2.length ≤ a0))) (S':=V23 ..) Z Z (natge (a:=a0) (b:=l2.length)) ?_)))))))))))))
 refine xP hok 21 Z (Q1e (d:=44) (v':=.bool true) (S':=V24 ..) Z Z (Q16 a3) (xP hok 22 Z (xP hok 23 Z (Q1Q hok 24 0 a0 Z Z Z Zq Z Z Z Z Z Z aN QB Qe (fun bD bE bA b0=>(Q2e Q5N 1 Z (fun aR aS _=>?_)))))))
 subst aS
 refine Q2Q hok 25 1 0 Z Z Z Zq Z Z Z Z (cs:=[_,_]) Z Qe QS Z Z (xP hok 26 Z (xP hok 27 Z (Q4r hok 28 Z Z Z Zq Z Z Z QB (xP hok 29 Z (Q1e (d:=52) (v':=.int .i64 (((a0:Nat):Int) - ((l2.length:Nat):Int))) (S':=V32 ..) Z Z (i64_in aO) (xS hok 30 Z (wC [] [] Z fn_49 Z (Q4z N 1 (((a0:Nat):Int) - ((l2.length:Nat):Int)) aP) (asK [] Z) Z (H':=[]) Z ?_)))))))
 rintro _ _ _ ⟨rfl,rfl,rfl⟩
 refine Q3 (Qy [0,1,2,3,4] [] Z Z (xS hok 31 Z (Q4Q (.sli 1 Qi none 0 ([] : List Int)) (fun _ _ _=>Q5n) (wC [] [] Z fn_13 Z (Q5Y N a5.rule aR.1 aR.2 (a5.ids ++ a5.idsT) a5.ids.length (IntKind.wrap .i64 ((IntKind.wrap .i64 (1000003 * (IntKind.wrap .i64 (1 + 7)))) + (((a0:Nat):Int) - ((l2.length:Nat):Int)))) none 0 ([] : List Int) _ aQ) (asK [1,0] Z) Z (H':=[]) Z ?_))))
 rintro _ _ _ ⟨rfl,rfl,rfl⟩
 refine Q3 (Qy [1,2,3,4,5] [] Z Z (xP hok 32 Z (xP hok 33 Z (xP hok 34 Z (QL hok Z ?_)))))
 have hE:=(Zi hm).symm
 refine Qp (!aZ) hE [6,5,1,57] Z (asK [4,5] Z) Z
 refine QV [0,1,2,3,4,5,6,7,8,9,10,11,12,14,15,16,17,18,19,20,21,22,23,24,25,26,27,28,29,32,33,34] Z Z (fun hok=>(xP hok 0 Z (xP hok 1 Z (Q4r hok 2 Z Z Z Zq Z Z Z QB (xP hok 3 Z (Q1e (d:=26) (v':=.bool (decide (a0 < l2.length))) (S':=V6 ..) Z Z (Q3f (a:=a0) (b:=l2.length)) (xP hok 4 Z (Q1e (d:=27) (v':=.bool false) (S':=V7 ..) Z Z (Q16 a4) (xO hok 5 Z (xO hok 6 Z (xO hok 7 Z (xO hok 8 Z (xO hok 9 Z (xO hok 10 Z ?_))))))))))))))
 refine xO hok 11 Z (xO hok 12 Z (xS hok 13 Z (wO Z (Q3 (Qy [0,1] [] Z Z (xO hok 14 Z (xP hok 15 Z (xP hok 16 Z (xP hok 17 Z (xP hok 18 Z (Q4r hok 19 Z Z Z Zq Z Z Z QB (xP hok 20 Z (Q1e (d:=43) (v':=.bool (decide (l2.length ≤ a0))) (S':=V23 ..) Z Z (natge (a:=a0) (b:=l2.length)) ?_)))))))))))))
 refine xP hok 21 Z (Q1e (d:=44) (v':=.bool false) (S':=V24 ..) Z Z (Q16 a3) (xO hok 22 Z (xO hok 23 Z (xO hok 24 Z (xO hok 25 Z (xO hok 26 Z (xO hok 27 Z (xO hok 28 Z (xO hok 29 Z (xS hok 30 Z (wO Z (Q3 (Qy [0,1] [] Z Z ?_)))))))))))))
 refine xS hok 31 Z (wO Z (Q3 (Qy [0,1] [] Z Z (xO hok 32 Z (xP hok 33 Z (xP hok 34 Z (QL hok Z ?_)))))))
 have hE:=(Zi hm).symm
 refine Qp false hE [6,5,1,57] Z (asK [0,1] Z) Z
 rintro a1 hE
 try dsimp only
 have hm:=hLj_2
 try rw [hE] at hm
 refine QA Z (fun aT=>?_) (fun aT=>?_)
 replace hm:=Q1z hm aT
 refine Q5 [] (S':=[]) Z (Q6 (Q2 (wP Z (Q3 (Q4 (QP (Q11 (Qn (Qn (Q11 (Qn ?_)))))))))))
 have hE:=(Zi hm).symm
 replace hE:=QO hLu1 hE
 replace hE:=QO hLj_1 hE
 replace hE:=hE.symm
 subst hE
 refine QH (Hr:=[]) [] Tryz.results29 (QD Z) ⟨Z,Z,Z⟩ (asK [] Z) Z Z (.inl Z)
 replace hm:=Q1y hm aT
 refine Q5 [6,5,1] (S':=V3 ..) Z (Qs (Qj (Q4 (Q2 (wP Z (wP Z ?_))))))
 obtain ⟨bB,hm⟩:=Qd hm
 refine Qz (d:=22) (v':=.int .i64 ((a0 + 1:Nat):Int)) (S':=V4 ..) Z Z (Q1i (a:=a0) (b:=1) bB) (QI (S':=V4 ..) Z Z Z Z Z (Q3 ?_))
 have hE:=(Zi hm).symm
 replace hE:=Q14 hLu1 hE
 refine Q1a (_,a0 + 1) (Nat.lt_succ_self _) hE [6,5,1] Z (asK [0,1] Z) Z
 replace hm:=Q1y hm aH
 refine Q5 [] (S':=[]) Z (Q19 (Qc (Qc (Qt ?_))))
 have hE:=(Zi hm).symm
 replace hE:=QO hLu1 hE
 refine Qp () hE [] Z (asK [] Z) Z
 rintro _ hE
 try dsimp only
 have hm:=Q14 hLj_1 hE
 try dsimp only at hm
 refine Q6 (Q2 (wP Z (Q3 (Q4 (QP ?_)))))
 have hE:=(Zi hm).symm
 replace hE:=hE.symm
 subst hE
 refine QH (Hr:=[]) [] Tryz.results29 (QD Z) ⟨Z,Z,Z⟩ (asK [] Z) Z Z (.inl Z)
theorem Q8P (N:Nat) (a3:OA) (a9:Nat) (a4:Nat) (l0:List Int) (k1:Nat) (o0:List Int) (hm:Q3Y N l0 k1 = some o0):Q1R Tryz.prog 101 [.slice a3 k1 a4] [] [.own 3 1 Qi (.slice a3 a9 a4) l0] (fun v Φr Hr=>v = .tuple #[] ∧ Φr = [] ∧ Hr = [.own 3 1 Qi (.slice a3 a9 a4) o0]):=by
 unfold Q3Y at hm
 refine QZ Tryz.func101 Z Tryz.ntmps101 Z (S:=[_]) Z (fun C=>(Q6 (Q2 (wP Z (wP Z (wN Z Q1j (wP Z ?_)))))))
 obtain ⟨aI,hm⟩:=Qd hm
 refine Qz (d:=7) (v':=.int .i64 ((k1 + 12:Nat):Int)) (S':=V4 ..) Z Z (Q1i (a:=k1) (b:=12) aI) ?_
 obtain ⟨aJ,hm⟩:=Qd hm
 refine Q8R 0 Z (fun aB a7=>(Q7D Z Z Z Zq Z Z Z Z Q1j Q1w (Nat.le_trans aJ (by rw [← a7.2]; exact a7.1)) aB (wP Z (Q3 (Q4 (Q5 [2] (S':=[_]) Z (Q6 (Q2 (wP Z (Q3 (Q4 (Qm (Q1f (σ:=Nat × Nat × (List Int)) (fun (a2,a0,a1)=>Q1o (Q4a N k1) a2 (a0,a1) = some o0) (fun (a2,a0,a1)=>a2) (fun (a2,a0,a1)=>[(3,.int .i64 ((a0:Nat):Int)),(2,.slice a3 (k1 + 12) a4)]) (fun (a2,a0,a1)=>[]) (fun (a2,a0,a1)=>[.own 3 1 Qi (.slice a3 a9 a4) a1]) (N,0,l0) hm [3,2] Z (asK [] Z) Z (fun s_ hm=>?_))))))))))))))
 obtain ⟨a2,a0,a1⟩:=s_
 try dsimp only at hm ⊢
 obtain ⟨aK,aL,aC,hq,hLu1⟩:=Q1d hm
 clear hm
 subst aC
 replace hm:=hq
 clear hq
 unfold Q4a at hm
 try dsimp only at hm
 refine Q6 (Q6 (Q2 (wP Z (wP Z (wN Z Q1j (wP Z (Qz (d:=12) (v':=.bool (decide (a0 < (k1 + 12)))) (S':=V5 ..) Z Z (Q3f (a:=a0) (b:=k1 + 12)) (Q3 (Q4 (Q5 [12,3,2] (S':=V3 ..) Z ?_))))))))))
 refine QA Z (fun a5=>?_) (fun a5=>?_)
 replace hm:=Q1z hm a5
 refine Q5 [3,2] (S':=[_,_]) Z (Qs (Q4 (Q6 (Qm (Q2 (wP Z (wP Z (wP Z ?_))))))))
 obtain ⟨_,aD,hm⟩:=Q7 hm
 try dsimp only at hm
 refine wC [] [0] Z fn_99 Z (Q51 N 2 ((a0:Nat):Int) aD) (asK [] Z) Z (H':=[_]) Z ?_
 rintro _ _ _ ⟨rfl,rfl,rfl⟩
 obtain ⟨aM,a8,hm⟩:=Q7 hm
 obtain ⟨aA,hm⟩:=Qd hm
 refine Q9u 0 a0 Z Z Z Zq Z Z Z Z Z aA (Qw a8) Q1j Q1w (fun aN aE=>?_)
 subst aE
 refine QU (u:=(IntKind.wrap .i64 ((IntKind.wrap .i64 (1000003 * (IntKind.wrap .i64 (2 + 7)))) + ((a0:Nat):Int)))) 0 a0 Z Z Z Z Z (Qw a8) Z Z Q1w Z (fun F w hφ=>⟨(),Z,Qv⟩) (H':=[_]) Z (Q3 (Qj (Q4 (Q5 [3,2] (S':=[_,_]) Z (Q2 (wP Z (wP Z ?_)))))))
 obtain ⟨aF,hm⟩:=Qd hm
 refine Qz (d:=14) (v':=.int .i64 ((a0 + 1:Nat):Int)) (S':=V3 ..) Z Z (Q1i (a:=a0) (b:=1) aF) (QI (S':=V3 ..) Z Z Z Z Z (Q3 ?_))
 have hE:=(Zi hm).symm
 replace hE:=Q14 hLu1 hE
 refine Q1a (_,a0 + 1,(a1.set a0 (IntKind.wrap .i64 ((IntKind.wrap .i64 (1000003 * (IntKind.wrap .i64 (2 + 7)))) + ((a0:Nat):Int))))) (Nat.lt_succ_self _) hE [3,2] Z (asK [] Z) Z
 replace hm:=Q1y hm a5
 refine Q5 [] (S':=[]) Z (Q19 (Qc (Qc (Qt ?_))))
 have hE:=(Zi hm).symm
 replace hE:=QO hLu1 hE
 replace hE:=hE.symm
 subst hE
 refine Q5E (Hr:=[_]) [0] Tryz.results101 ⟨Z,Z,Z⟩ (asK [] Z) Z Z (.inr Z)
theorem Q8C (N:Nat) (a0:Int) (qp0:OA) (qn1:Nat) (qc2:Nat) (l1:List Int) (k2:Nat) (o0:List Int) (hm:Q4y N a0 l1 k2 = some o0):Q1R Tryz.prog 52 [.agg #[.int .i64 a0,.slice qp0 k2 qc2]] [] [.own 3 1 Qi (.slice qp0 qn1 qc2) l1] (fun v Φr Hr=>v = .tuple #[] ∧ Φr = [] ∧ Hr = [.own 3 1 Qi (.slice qp0 qn1 qc2) o0]):=by
 unfold Q4y at hm
 refine QZ Tryz.func52 Z Tryz.ntmps52 Z (S:=[_]) Z (fun C=>(Q6 (Q2 (wB Z (fun g1=>(Q3 (Q4 (Q5 [1] (S':=[_]) Z (Q2 (wF Z Q3u (wD 0 1 Z Q30 Q4R Z (QK 1 Z (fun hzqn1 _=>?_)))))))))))))
 subst hzqn1
 obtain ⟨v4,hc4,hm⟩:=Q7 hm
 refine wC [1] [0] Z fn_101 Z (Q8P N qp0 l1.length qc2 l1 k2 _ hc4) (asK [] Z) Z (H':=[_]) Z ?_
 rintro _ _ _ ⟨rfl,rfl,rfl⟩
 refine Q3 ?_
 have hE:=(Zi hm).symm
 replace hE:=hE.symm
 subst hE
 refine Q5E (Hr:=[_]) [0] Tryz.results52 ⟨Z,Z,Z⟩ (asK [] Z) Z Z (.inr Z)
end Go.Proofs.YtgangmegcejllaaGreatDoor
