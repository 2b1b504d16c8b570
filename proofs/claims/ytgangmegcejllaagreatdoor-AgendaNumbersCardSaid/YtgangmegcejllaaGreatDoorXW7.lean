import Derived.Test.YtgangmegcejllaaGreatDoorXW6
namespace Go.Proofs.YtgangmegcejllaaGreatDoor
open Go.RowKit
set_option maxRecDepth 100000
set_option maxHeartbeats 4000000
theorem Q87 (N:Nat) (aW:Nat) (aQ:Addr) (aR:Nat) (aS:Nat) (l0:List Int) (aX:OA) (aY:Nat) (aZ:Nat) (l1:List Q1) (b0:OA) (b1:Nat) (b2:Nat) (l2:List Q1) (aD:Nat) (e3:List (ByteArray × Bool)) (b6:OA) (aU:Nat) (aE:Nat) (l4:List Qz) (k5:Nat) (o0:Nat) (o1:List Int) (o4:List Q1) (o8:List Q1) (d4:List (ByteArray × Bool)) (hm:Q7b N l0 l1 l2 e3 l4 k5 = some (o0,o1,o4,o8,d4)):Q1z Tryz.prog 21 [.pointer (some ⟨aW,0,none⟩),.slice b6 k5 aE] [tF] [.blk aW [.slice (some aQ) aR aS,.slice aX aY aZ,.slice b0 b1 b2,.map (some aD)] 66,.own 3 1 Qh (.slice (some aQ) aR aS) l0,.own 45 2 Q8 (.slice aX aY aZ) l1,.own 45 2 Q8 (.slice b0 b1 b2) l2,Q1Y (Q1h (QZ Q1Z)) false Q13 aD e3,Q1e QC 45 2 (.slice b6 aU aE) l4] (fun v Φr Hr=>∃ (o2:OA) (o3:Nat) (o5:Nat) (o6:OA) (o7:Nat) (o9:Nat) (d5:Nat),v = .int .i64 ((o0:Nat):Int) ∧ Φr = [] ∧ Hr = [.blk aW [.slice (some aQ) aR aS,.slice o2 o5 o3,.slice o6 o9 o7,.map (some d5)] 66,.own 3 1 Qh (.slice (some aQ) aR aS) o1,.own 45 2 Q8 (.slice o2 o5 o3) o4,.own 45 2 Q8 (.slice o6 o9 o7) o8,Q1Y (Q1h (QZ Q1Z)) false Q13 d5 d4,Q1e QC 45 2 (.slice b6 aU aE) l4]):=by
 unfold Q7b at hm
 refine Q12 Tryz.func21 Z Tryz.ntmps21 Z (S:=[_,_]) Z (fun C=>(Q6 (Q3 (wP Z (Q2 (Q4 (Q5 [0,1] (S':=[_,_]) Z (Q6 (Q6 (Q3 (wP Z ?_)))))))))))
 obtain ⟨_,d6,hm⟩:=Q7 hm
 try dsimp only at hm
 refine wC [0,1,2,3,4] [5] Z fn_32 Z (Q2F N aW aQ aR aS l0 aX aY aZ l1 b0 b1 b2 l2 aD e3 d6) (asK [0] Z) Z (H':=[_]) Z ?_
 rintro _ _ _ ⟨rfl,rfl,rfl⟩
 refine wP Z (Q2 (Q4 (Q5 [14,0,1] (S':=V3 ..) Z (Q2X Z (Q5 [0,1] (S':=[_,_]) Z (Qt (Q4 (Q6 (Q3 (Q89 (Q1h (QZ Q1Z)) false Q13 Z Z Z Zq Z (fun c3=>(wP Z (Q2 (Q4 ?_))))))))))))))
 refine Q5 [5,0,1] (S':=V3 ..) Z (Q6 ?_)
 obtain ⟨cX,hm,hLj_1⟩:=Q1R hm
 refine Q15 (σ:=Unit) (fun _=>cX = .inl ()) (fun _=>[(0,.pointer (some ⟨aW,0,none⟩)),(1,.slice b6 k5 aE)]) (fun _=>[tF]) (fun _=>[.blk aW [.slice (some aQ) aR aS,.slice aX aY aZ,.slice b0 b1 b2,.map (some aD)] 66,.own 3 1 Qh (.slice (some aQ) aR aS) l0,.own 45 2 Q8 (.slice aX aY aZ) l1,.own 45 2 Q8 (.slice b0 b1 b2) l2,Q1Y (Q1h (QZ Q1Z)) false Q13 aD e3,Q1e QC 45 2 (.slice b6 aU aE) l4]) ?_ ?_
 refine Q6 (Q3 (wP Z (wN Z QG (wP Z (Q2 (Q4 (Qn (Q3l [6,0,1,2,3,4,5] Z (H':=V7 ..) Z (Q1b (σ:=Nat × Nat × (List (ByteArray × Bool))) (fun (c4,aC,aT)=>Q1B (Q67 N k5 l4 l0 l1 l2 e3) c4 (aC,aT) = some cX) (fun (c4,aC,aT)=>c4) (fun (c4,aC,aT)=>[(18,.int .i64 ((aC:Nat):Int)),(17,.int .i64 ((k5:Nat):Int)),(16,.slice b6 k5 aE),(5,.map (some c3)),(0,.pointer (some ⟨aW,0,none⟩)),(1,.slice b6 k5 aE)]) (fun (c4,aC,aT)=>[tF]) (fun (c4,aC,aT)=>[Q1e QC 45 2 (.slice b6 aU aE) l4,Q1Y (Q1h (QZ Q1Z)) false Q13 c3 aT,.blk aW [.slice (some aQ) aR aS,.slice aX aY aZ,.slice b0 b1 b2,.map (some aD)] 66,.own 3 1 Qh (.slice (some aQ) aR aS) l0,.own 45 2 Q8 (.slice aX aY aZ) l1,.own 45 2 Q8 (.slice b0 b1 b2) l2,Q1Y (Q1h (QZ Q1Z)) false Q13 aD e3]) (N,0,([] : List (ByteArray × Bool))) hm [18,17,16,5,0,1] Z (asK [0] Z) Z (fun s_ hm=>?_))))))))))
 obtain ⟨c4,aC,aT⟩:=s_
 try dsimp only at hm ⊢
 obtain ⟨e5,e6,d7,hq,hLu1⟩:=Q18 hm
 clear hm
 subst d7
 replace hm:=hq
 clear hq
 unfold Q67 at hm
 try dsimp only at hm
 refine Q6 (Q3 (wP Z (Qx (d:=19) (v':=.bool (decide (aC < k5))) (S':=V6 ..) Z Z (Q20 (a:=aC) (b:=k5)) (Q2 (Q4 (Q6 ?_))))))
 refine Qv Z (fun cG=>?_) (fun cG=>?_)
 replace hm:=Q1m hm cG
 refine Q5 [18,17,16,5,0,1] (S':=V6 ..) Z (Qt (Q4 (Q6 (Qn (Q6 (Q3 (Q39 0 Z (fun b3 c5=>?_))))))))
 obtain ⟨q,d8,hm⟩:=Q7 hm
 obtain ⟨s,bI⟩:=zip_at c5 d8
 obtain ⟨d9,hm⟩:=Qd hm
 refine Qa9 1 aC Z Z Z Zq Z Z Z Z Z d9 (QB bI) QG Qg (fun bW dA=>?_)
 subst dA
 refine Q1t [.own 3 1 Qh (.slice s.1 ((q.ids ++ q.idsT).length) s.2) (q.ids ++ q.idsT),Q1w QC b3 (some aC),_,_,_,_,_,_,_] (fun _ h=>h.bagOpen 0 aC Z bI) (Qk Q7Z 2 aC 0 Z Z Z Zq Z Z Z bI Qg QT (v:=fun _=>.agg #[.int .i64 (q.rule),.slice s.1 q.ids.length s.2]) (fun _=>Z) (fun _=>Z) (fun _ _=>(Q1s Z Z Z Zq Z Q1X Z (fun g7=>(wS 0 0 Z Qg (all':=[_,_]) Z (H':=V10 ..) Z (Q2 (Q4 (Q5 [7,18,17,16,5,0,1] (S':=V7 ..) Z (Q6 (Q6 ?_))))))))))
 obtain ⟨dB,hm,hLj_2⟩:=Q7 hm
 unfold Q7P at hm
 refine Q15 (σ:=Bool) (fun bC=>dB = bC) (fun bC=>[(7,.pointer (some ⟨g7,0,none⟩)),(18,.int .i64 ((aC:Nat):Int)),(17,.int .i64 ((k5:Nat):Int)),(16,.slice (some ⟨bW,0,none⟩) k5 aE),(5,.map (some c3)),(0,.pointer (some ⟨aW,0,none⟩)),(1,.slice (some ⟨bW,0,none⟩) k5 aE),(40,.bool bC)]) (fun bC=>[tF]) (fun bC=>[.blk g7 [.int .i64 (q.rule),.slice s.1 q.ids.length s.2] 45,.own 3 1 Qh (.slice s.1 ((q.ids ++ q.idsT).length) s.2) (q.ids ++ q.idsT),.own 45 2 QC.pair (.slice (some ⟨bW,0,none⟩) aU aE) b3,Q1Y (Q1h (QZ Q1Z)) false Q13 c3 aT,.blk aW [.slice (some aQ) aR aS,.slice aX aY aZ,.slice b0 b1 b2,.map (some aD)] 66,.own 3 1 Qh (.slice (some aQ) aR aS) l0,.own 45 2 Q8 (.slice aX aY aZ) l1,.own 45 2 Q8 (.slice b0 b1 b2) l2,Q1Y (Q1h (QZ Q1Z)) false Q13 aD e3,Q1w QC b3 (some aC)]) ?_ ?_
 rcases Q2k hm with ⟨bX,hm⟩ | ⟨bX,hm⟩
 refine QV [0,1,2,3,4,5,6,7,8,9,10,11,12,13,14,15,18] Z Z (fun hok=>(Qm hok 0 Z Z Z Zq Z Z Z Q22 (Qr hok 1 0 0 Z Z Z Zq Z Z Z Z (cs:=[_]) Z Q1i Q2d Z Z (xP hok 2 Z (xP hok 3 Z (Q1g (d:=25) (v':=.bool true) (S':=V10 ..) Z Z (Q16 bX) (xO hok 4 Z (xO hok 5 Z (xO hok 6 Z (xO hok 7 Z (xO hok 8 Z (xO hok 9 Z (xO hok 10 Z (xO hok 11 Z ?_))))))))))))))
 refine xP hok 12 Z (xP hok 13 Z (xO hok 14 Z (xO hok 15 Z (xS hok 16 Z (wO Z (Q2 (Qs [0] [0] Z Z (xS hok 17 Z (wO Z (Q2 (Qs [0] [0] Z Z (xP hok 18 Z (QI hok Z ?_)))))))))))))
 have hE:=(Zi hm).symm
 refine Q17 [0,1,3,4,5,6,7,8,9,2] Z (H':=V10 ..) Z ?_
 refine Qp true hE [7,18,17,16,5,0,1,40] Z (asK [0] Z) Z
 rcases Q2k hm with ⟨cB,hm⟩ | ⟨cB,hm⟩
 refine QV [0,1,2,3,4,5,6,7,8,9,10,11,12,13,14,15,18] Z Z (fun hok=>(Qm hok 0 Z Z Z Zq Z Z Z Q22 (Qr hok 1 0 0 Z Z Z Zq Z Z Z Z (cs:=[_]) Z Q1i Q2d Z Z (xP hok 2 Z (xP hok 3 Z (Q1g (d:=25) (v':=.bool false) (S':=V10 ..) Z Z (Q16 bX) (Qm hok 4 Z Z Z Zq Z Z Z Q22 (Qr hok 5 0 0 Z Z Z Zq Z Z Z Z (cs:=[_]) Z Q1i Q2d Z Z (xP hok 6 Z (xP hok 7 Z (Qm hok 8 Z Z Z Zq Z Z Z Q61 (Qr hok 9 5 0 Z Z Z Zq Z Z Z Z (cs:=[_]) Z Q8G Q8F Z Z (Q6E 6 Z (fun bY _=>(Q3r hok 10 Z Z Z Zq Z Z Z tE_62 ?_)))))))))))))))
 refine Q1g (d:=32) (v':=.int .i64 ((l0.length:Nat):Int)) (S':=V17 ..) Z Z (Q3F bY) (xP hok 11 Z (xP hok 12 Z (xP hok 13 Z (Q1g (d:=35) (v':=.bool true) (S':=V20 ..) Z Z (Q16 cB) (xO hok 14 Z (xO hok 15 Z (xS hok 16 Z (wO Z (Q2 (Qs [0] [5,0,0] Z Z (xS hok 17 Z (wO Z (Q2 ?_)))))))))))))
 refine Qs [0] [5,0,0] Z Z (xP hok 18 Z (QI hok Z ?_))
 have hE:=(Zi hm).symm
 refine Q17 [0,1,3,4,5,6,7,8,9,2] Z (H':=V10 ..) Z ?_
 refine Qp true hE [7,18,17,16,5,0,1,40] Z (asK [0] Z) Z
 obtain ⟨aV,hm⟩:=Qd hm
 obtain ⟨dC,cY,hm⟩:=Q7 hm
 rcases QaH hm with ⟨cI,hm⟩ | ⟨cR,cI,hm⟩
 refine QV [0,1,2,3,4,5,6,7,8,9,10,11,12,13,14,15,18] Z Z (fun hok=>(Qm hok 0 Z Z Z Zq Z Z Z Q22 (Qr hok 1 0 0 Z Z Z Zq Z Z Z Z (cs:=[_]) Z Q1i Q2d Z Z (xP hok 2 Z (xP hok 3 Z (Q1g (d:=25) (v':=.bool false) (S':=V10 ..) Z Z (Q16 bX) (Qm hok 4 Z Z Z Zq Z Z Z Q22 (Qr hok 5 0 0 Z Z Z Zq Z Z Z Z (cs:=[_]) Z Q1i Q2d Z Z (xP hok 6 Z (xP hok 7 Z (Qm hok 8 Z Z Z Zq Z Z Z Q61 (Qr hok 9 5 0 Z Z Z Zq Z Z Z Z (cs:=[_]) Z Q8G Q8F Z Z (Q6E 6 Z (fun bY _=>(Q3r hok 10 Z Z Z Zq Z Z Z tE_62 ?_)))))))))))))))
 refine Q1g (d:=32) (v':=.int .i64 ((l0.length:Nat):Int)) (S':=V17 ..) Z Z (Q3F bY) (xP hok 11 Z (xP hok 12 Z (xP hok 13 Z (Q1g (d:=35) (v':=.bool false) (S':=V20 ..) Z Z (Q16 cB) (xP hok 14 Z (Qr hok 15 0 0 Z Z Z Zq Z Z Z Z (cs:=[_,_]) Z Qg QT Z Z (xS hok 16 Z (Q23 0 (v':=.agg #[.int .i64 (q.rule),.slice s.1 (((q.ids ++ q.idsT).take q.ids.length).length) s.2]) Z (by rw [Q1K aV]) (Q1r 0 (φ':=.blk g7 [.int .i64 (q.rule),.slice s.1 (((q.ids ++ q.idsT).take q.ids.length).length) s.2] 45) Z (by rw [Q1K aV]) (H':=V10 ..) Z (Q1y [] [0,1,2,3,4,5,6,7,8,9] [1] Z Z Z Zq Z Z fn_42 Z (Q2W N q.rule s.1 s.2 ((q.ids ++ q.idsT).take q.ids.length) _ cY) (fun F w hφ hh=>(Qe (Q7S (Q1d (hh _ (Qo (k:=0) Z))) q.ids.length) (Qe (hφ _ (Qo (k:=0) Z)) Ql))) (fun _ _ _ hR=>by obtain ⟨rfl,rfl,rfl⟩:=hR; exact ⟨Z,(fun _ h=>Q1q h)⟩) Z Z (H':=V10 ..) Z ?_))))))))))
 rintro _ _ _ ⟨rfl,rfl,rfl⟩
 refine Q23 1 (v':=.agg #[.int .i64 (q.rule),.slice s.1 q.ids.length s.2]) Z (by rw [Q1K aV]) (Q1r 0 (φ':=.blk g7 [.int .i64 (q.rule),.slice s.1 q.ids.length s.2] 45) Z (by rw [Q1K aV]) (H':=V10 ..) Z (Q2 (Qs [0] [5,0,0] Z Z (xS hok 17 Z (Qan (i:=dC) 4 Z Z Z Zq Z Z Z Z tZ_4 Q9i trivial cI (v:=.bool false) Z (Q2 (Qs [0] [0,5,0,0] Z Z (xP hok 18 Z (QI hok Z ?_)))))))))
 have hE:=(Zi hm).symm
 refine Q17 [0,1,3,4,5,6,7,8,9,2] Z (H':=V10 ..) Z ?_
 refine Qp false hE [7,18,17,16,5,0,1,40] Z (asK [0] Z) Z
 refine QV [0,1,2,3,4,5,6,7,8,9,10,11,12,13,14,15,18] Z Z (fun hok=>(Qm hok 0 Z Z Z Zq Z Z Z Q22 (Qr hok 1 0 0 Z Z Z Zq Z Z Z Z (cs:=[_]) Z Q1i Q2d Z Z (xP hok 2 Z (xP hok 3 Z (Q1g (d:=25) (v':=.bool false) (S':=V10 ..) Z Z (Q16 bX) (Qm hok 4 Z Z Z Zq Z Z Z Q22 (Qr hok 5 0 0 Z Z Z Zq Z Z Z Z (cs:=[_]) Z Q1i Q2d Z Z (xP hok 6 Z (xP hok 7 Z (Qm hok 8 Z Z Z Zq Z Z Z Q61 (Qr hok 9 5 0 Z Z Z Zq Z Z Z Z (cs:=[_]) Z Q8G Q8F Z Z (Q6E 6 Z (fun bY _=>(Q3r hok 10 Z Z Z Zq Z Z Z tE_62 ?_)))))))))))))))
 refine Q1g (d:=32) (v':=.int .i64 ((l0.length:Nat):Int)) (S':=V17 ..) Z Z (Q3F bY) (xP hok 11 Z (xP hok 12 Z (xP hok 13 Z (Q1g (d:=35) (v':=.bool false) (S':=V20 ..) Z Z (Q16 cB) (xP hok 14 Z (Qr hok 15 0 0 Z Z Z Zq Z Z Z Z (cs:=[_,_]) Z Qg QT Z Z (xS hok 16 Z (Q23 0 (v':=.agg #[.int .i64 (q.rule),.slice s.1 (((q.ids ++ q.idsT).take q.ids.length).length) s.2]) Z (by rw [Q1K aV]) (Q1r 0 (φ':=.blk g7 [.int .i64 (q.rule),.slice s.1 (((q.ids ++ q.idsT).take q.ids.length).length) s.2] 45) Z (by rw [Q1K aV]) (H':=V10 ..) Z (Q1y [] [0,1,2,3,4,5,6,7,8,9] [1] Z Z Z Zq Z Z fn_42 Z (Q2W N q.rule s.1 s.2 ((q.ids ++ q.idsT).take q.ids.length) _ cY) (fun F w hφ hh=>(Qe (Q7S (Q1d (hh _ (Qo (k:=0) Z))) q.ids.length) (Qe (hφ _ (Qo (k:=0) Z)) Ql))) (fun _ _ _ hR=>by obtain ⟨rfl,rfl,rfl⟩:=hR; exact ⟨Z,(fun _ h=>Q1q h)⟩) Z Z (H':=V10 ..) Z ?_))))))))))
 rintro _ _ _ ⟨rfl,rfl,rfl⟩
 refine Q23 1 (v':=.agg #[.int .i64 (q.rule),.slice s.1 q.ids.length s.2]) Z (by rw [Q1K aV]) (Q1r 0 (φ':=.blk g7 [.int .i64 (q.rule),.slice s.1 q.ids.length s.2] 45) Z (by rw [Q1K aV]) (H':=V10 ..) Z (Q2 (Qs [0] [5,0,0] Z Z (xS hok 17 Z (Q9O (i:=dC) (a:=cR) Q40 4 Z Z Z Zq Z Z Z Z Q9i trivial cI (u:=fun _=>.bool cR) (fun _=>Z) (v:=fun _=>.bool cR) (fun _=>Z) (fun _ _=>(Q2 (Qs [0] [0,5,0,0] Z Z (xP hok 18 Z (QI hok Z ?_))))))))))
 have hE:=(Zi hm).symm
 refine Q17 [0,1,3,4,5,6,7,8,9,2] Z (H':=V10 ..) Z ?_
 refine Qp cR hE [7,18,17,16,5,0,1,40] Z (asK [0] Z) Z
 rintro bC hE
 try dsimp only
 have hm:=hLj_2
 try rw [hE] at hm
 refine Qv Z (fun cJ=>?_) (fun cJ=>?_)
 replace hm:=Q1m hm cJ
 refine Q5 [] (S':=[]) Z (Q6 (Q3 (wP Z (Q2 (Q4 (QJ (Qj (QR (Qj (Qj (QR (Qj ?_))))))))))))
 have hE:=(Zi hm).symm
 replace hE:=QE hLu1 hE
 replace hE:=QE hLj_1 hE
 obtain ⟨hE0,hF1⟩:=Prod.mk.inj hE
 obtain ⟨hE1,hF2⟩:=Prod.mk.inj hF1
 obtain ⟨hE2,hF3⟩:=Prod.mk.inj hF2
 obtain ⟨hE3,hE4⟩:=Prod.mk.inj hF3
 clear hE hF1 hF2 hF3
 replace hE0:=hE0.symm
 subst hE0
 replace hE1:=hE1.symm
 subst hE1
 replace hE2:=hE2.symm
 subst hE2
 replace hE3:=hE3.symm
 subst hE3
 replace hE4:=hE4.symm
 subst hE4
 refine Q17 [1,0,2,3,4,5,6,7,8,9] Z (H':=V10 ..) Z (Q6J [_,_,_,_,_,_,_,_,Q1w QC (b3.set aC (q,s)) none] (fun _ h=>QU.bagClose (T:=QC) (x:=q) (r:=s) (i:=aC) (zs:=b3) (H:=V9 ..) h 8 Z) (Qa1 8 (φ':=Q1w QC b3 none) Z (by rw [Q8E bI]) (H':=[.blk g7 [.int .i64 (q.rule),.slice s.1 q.ids.length s.2] 45,.own 45 2 QC.pair (.slice (some ⟨bW,0,none⟩) aU aE) b3,Q1Y (Q1h (QZ Q1Z)) false Q13 c3 aT,.blk aW [.slice (some aQ) aR aS,.slice aX aY aZ,.slice b0 b1 b2,.map (some aD)] 66,.own 3 1 Qh (.slice (some aQ) aR aS) l0,.own 45 2 Q8 (.slice aX aY aZ) l1,.own 45 2 Q8 (.slice b0 b1 b2) l2,Q1Y (Q1h (QZ Q1Z)) false Q13 aD e3,Q1w QC b3 none]) Z (Q6J [_,Q1e QC 45 2 (.slice (some ⟨bW,0,none⟩) aU aE) l4,_,_,_,_,_,_] (fun _ h=>h.treeIn 1 8 Z Z Z c5) ?_)))
 refine QA (Hr:=V6 ..) [3,4,5,6,7,1] Tryz.results21 (Qy Z) ⟨aX,aZ,aY,b0,b2,b1,aD,Z,Z,Z⟩ (asK [] Z) Z Z (.inl Z)
 replace hm:=Q1l hm cJ
 refine Q5 [7,18,17,16,5,0,1] (S':=V7 ..) Z (Qt (Q4 (Q3 (wP Z (Q1E 0 0 Z Z Z Zq Z Z Z (cs:=[_,_]) Z Qg QT Z Z ?_)))))
 obtain ⟨aV,hm⟩:=Qd hm
 refine Q23 0 (v':=.agg #[.int .i64 (q.rule),.slice s.1 (((q.ids ++ q.idsT).take q.ids.length).length) s.2]) Z (by rw [Q1K aV]) (Q1r 0 (φ':=.blk g7 [.int .i64 (q.rule),.slice s.1 (((q.ids ++ q.idsT).take q.ids.length).length) s.2] 45) Z (by rw [Q1K aV]) (H':=V10 ..) Z ?_)
 obtain ⟨cS,dD,hm⟩:=Q7 hm
 refine Q1y [] [0,1,2,3,4,5,6,7,8,9] [1] Z Z Z Zq Z Z fn_42 Z (Q2W N q.rule s.1 s.2 ((q.ids ++ q.idsT).take q.ids.length) _ dD) (fun F w hφ hh=>(Qe (Q7S (Q1d (hh _ (Qo (k:=0) Z))) q.ids.length) (Qe (hφ _ (Qo (k:=0) Z)) Ql))) (fun _ _ _ hR=>by obtain ⟨rfl,rfl,rfl⟩:=hR; exact ⟨Z,(fun _ h=>Q1q h)⟩) Z Z (H':=V10 ..) Z ?_
 rintro _ _ _ ⟨rfl,rfl,rfl⟩
 refine Q23 1 (v':=.agg #[.int .i64 (q.rule),.slice s.1 q.ids.length s.2]) Z (by rw [Q1K aV]) (Q1r 0 (φ':=.blk g7 [.int .i64 (q.rule),.slice s.1 q.ids.length s.2] 45) Z (by rw [Q1K aV]) (H':=V10 ..) Z (Q81 (i:=cS) (u:=true) (cs:=[.bool true]) ltB 3 Z Z (.inl Z) Z Z Z Z Q9i trivial Z (fun F w hφ=>⟨(),Z,Ql⟩) (H':=[.blk g7 [.int .i64 (q.rule),.slice s.1 q.ids.length s.2] 45,.own 3 1 Qh (.slice s.1 ((q.ids ++ q.idsT).length) s.2) (q.ids ++ q.idsT),.own 45 2 QC.pair (.slice (some ⟨bW,0,none⟩) aU aE) b3,Q1Y (Q1h (QZ Q1Z)) false Q13 c3 (Q7p ltB cS true aT),.blk aW [.slice (some aQ) aR aS,.slice aX aY aZ,.slice b0 b1 b2,.map (some aD)] 66,.own 3 1 Qh (.slice (some aQ) aR aS) l0,.own 45 2 Q8 (.slice aX aY aZ) l1,.own 45 2 Q8 (.slice b0 b1 b2) l2,Q1Y (Q1h (QZ Q1Z)) false Q13 aD e3,Q1w QC b3 (some aC)]) Z (Q2 (Qi (Q4 (Q5 [18,17,16,5,0,1] (S':=V6 ..) Z (Q3 (wP Z ?_))))))))
 obtain ⟨dE,hm⟩:=Qd hm
 refine Qx (d:=44) (v':=.int .i64 ((aC + 1:Nat):Int)) (S':=V6 ..) Z Z (Q1f (a:=aC) (b:=1) dE) (QM (S':=V6 ..) Z Z Z Z Z (Q2 ?_))
 have hE:=(Zi hm).symm
 replace hE:=Q11 hLu1 hE
 refine Q17 [1,0,2,3,4,5,6,7,8,9] Z (H':=V10 ..) Z (Q6J [_,_,_,_,_,_,_,_,Q1w QC (b3.set aC (q,s)) none] (fun _ h=>QU.bagClose (T:=QC) (x:=q) (r:=s) (i:=aC) (zs:=b3) (H:=V9 ..) h 8 Z) (Qa1 8 (φ':=Q1w QC b3 none) Z (by rw [Q8E bI]) (H':=[.blk g7 [.int .i64 (q.rule),.slice s.1 q.ids.length s.2] 45,.own 45 2 QC.pair (.slice (some ⟨bW,0,none⟩) aU aE) b3,Q1Y (Q1h (QZ Q1Z)) false Q13 c3 (Q7p ltB cS true aT),.blk aW [.slice (some aQ) aR aS,.slice aX aY aZ,.slice b0 b1 b2,.map (some aD)] 66,.own 3 1 Qh (.slice (some aQ) aR aS) l0,.own 45 2 Q8 (.slice aX aY aZ) l1,.own 45 2 Q8 (.slice b0 b1 b2) l2,Q1Y (Q1h (QZ Q1Z)) false Q13 aD e3,Q1w QC b3 none]) Z (Q6J [_,Q1e QC 45 2 (.slice (some ⟨bW,0,none⟩) aU aE) l4,_,_,_,_,_,_] (fun _ h=>h.treeIn 1 8 Z Z Z c5) (Q17 [1,2,3,4,5,6,7] Z (H':=V7 ..) Z ?_))))
 refine Q14 (_,aC + 1,Q7p ltB cS true aT) (Nat.lt_succ_self _) hE [18,17,16,5,0,1] Z (asK [0] Z) Z
 replace hm:=Q1l hm cG
 refine Q5 [0,1] (S':=[_,_]) Z (Q19 (Qc (Qc (Qu ?_))))
 have hE:=(Zi hm).symm
 replace hE:=QE hLu1 hE
 refine Q17 [2,3,4,5,6,0] Z (H':=V6 ..) Z ?_
 refine Qp () hE [0,1] Z (asK [0] Z) Z
 rintro _ hE
 try dsimp only
 have hm:=Q11 hLj_1 hE
 try dsimp only at hm
 refine Q6 (Q3 (wP Z (wP Z (wP Z (wF Z Q5j (wS 0 1 Z Q1O (all':=V4 ..) Z (H':=V6 ..) Z (wP Z (wF Z Q5K (wS 0 2 Z Q1O (all':=V4 ..) Z (H':=V6 ..) Z (Q2 (Q4 (Q5 [0,1] (S':=[_,_]) Z (Q6 ?_)))))))))))))
 refine Q3 (Q89 (Q1h (QZ Q1Z)) false Q13 Z Z Z Zq Z (fun bE=>(wP Z (Q2 (Q4 (Q5 [8,0,1] (S':=V3 ..) Z (Q6 ?_)))))))
 obtain ⟨cZ,hm,hLj_3⟩:=Q7 hm
 refine Q15 (σ:=(List (ByteArray × Bool)) × (List Q1) × (List Q1) × OA × Nat × Nat × OA × Nat × Nat) (fun (b7,a5,a6,a8,a9,aG,aA,aB,aH)=>cZ = (b7,a5,a6)) (fun (b7,a5,a6,a8,a9,aG,aA,aB,aH)=>[(8,.map (some bE)),(0,.pointer (some ⟨aW,0,none⟩))]) (fun (b7,a5,a6,a8,a9,aG,aA,aB,aH)=>[tF]) (fun (b7,a5,a6,a8,a9,aG,aA,aB,aH)=>[Q1Y (Q1h (QZ Q1Z)) false Q13 bE b7,.blk aW [.slice (some aQ) aR aS,.slice a8 aG a9,.slice aA aH aB,.map (some aD)] 66,.own 3 1 Qh (.slice (some aQ) aR aS) l0,Q1e Qa 45 2 (.slice a8 aG a9) a5,Q1e Qa 45 2 (.slice aA aH aB) a6,Q1Y (Q1h (QZ Q1Z)) false Q13 aD e3,.own 45 2 Q8 (.slice aX aY aZ) l1,.own 45 2 Q8 (.slice b0 b1 b2) l2,Q1e QC 45 2 (.slice b6 aU aE) l4]) ?_ ?_
 refine Q6 (Q3 (wP Z (wN Z QG (wP Z (Q2 (Q4 (Q5 [54,53,52,8,0] (S':=V5 ..) Z (Qn (Q77 [Q1e Qa 45 2 (V1) [],_,_,_,_,_,_,_] (fun _ h=>h.treeNil Qa 45 2) (Q77 [Q1e Qa 45 2 (V1) [],_,_,_,_,_,_,_,_] (fun _ h=>h.treeNil Qa 45 2) (Q3l [8,2,3,4,1,0,7,5,6] Z (H':=V9 ..) Z (Q1b (σ:=Nat × Nat × (List (ByteArray × Bool)) × (List Q1) × (List Q1) × OA × Nat × Nat × OA × Nat × Nat) (fun (c6,a7,aF,j,o,z,a0,a1,a2,a3,a4)=>Q1B (Q68 N k5 l4 e3) c6 (a7,aF,j,o) = some cZ) (fun (c6,a7,aF,j,o,z,a0,a1,a2,a3,a4)=>c6) (fun (c6,a7,aF,j,o,z,a0,a1,a2,a3,a4)=>[(54,.int .i64 ((a7:Nat):Int)),(53,.int .i64 ((k5:Nat):Int)),(52,.slice b6 k5 aE),(8,.map (some bE)),(0,.pointer (some ⟨aW,0,none⟩))]) (fun (c6,a7,aF,j,o,z,a0,a1,a2,a3,a4)=>[tF]) (fun (c6,a7,aF,j,o,z,a0,a1,a2,a3,a4)=>[Q1e QC 45 2 (.slice b6 aU aE) l4,Q1Y (Q1h (QZ Q1Z)) false Q13 bE aF,.blk aW [.slice (some aQ) aR aS,.slice z a1 a0,.slice a2 a4 a3,.map (some aD)] 66,.own 3 1 Qh (.slice (some aQ) aR aS) l0,Q1e Qa 45 2 (.slice z a1 a0) j,Q1e Qa 45 2 (.slice a2 a4 a3) o,Q1Y (Q1h (QZ Q1Z)) false Q13 aD e3,.own 45 2 Q8 (.slice aX aY aZ) l1,.own 45 2 Q8 (.slice b0 b1 b2) l2]) (N,0,([] : List (ByteArray × Bool)),[],[],none,0,0,none,0,0) hm [54,53,52,8,0] Z (asK [0] Z) Z (fun s_ hm=>?_)))))))))))))
 obtain ⟨c6,a7,aF,j,o,z,a0,a1,a2,a3,a4⟩:=s_
 try dsimp only at hm ⊢
 obtain ⟨e7,e8,dF,hq,hLu2⟩:=Q18 hm
 clear hm
 subst dF
 replace hm:=hq
 clear hq
 unfold Q68 at hm
 try dsimp only at hm
 refine Q6 (Q3 (wP Z (Qx (d:=55) (v':=.bool (decide (a7 < k5))) (S':=V5 ..) Z Z (Q20 (a:=a7) (b:=k5)) (Q2 (Q4 (Q6 ?_))))))
 refine Qv Z (fun cK=>?_) (fun cK=>?_)
 replace hm:=Q1m hm cK
 refine Q5 [54,53,52,8,0] (S':=V5 ..) Z (Qt (Q4 (Q6 ?_)))
 obtain ⟨dG,hm,hLj_4⟩:=Q7 hm
 unfold Q7Q at hm
 refine Q15 (σ:=(List (ByteArray × Bool)) × (List Q1) × (List Q1) × OA × Nat × Nat × OA × Nat × Nat) (fun (b4,aI,aJ,aK,aL,aM,aN,aO,aP)=>dG = (b4,aI,aJ)) (fun (b4,aI,aJ,aK,aL,aM,aN,aO,aP)=>[(54,.int .i64 ((a7:Nat):Int)),(53,.int .i64 ((k5:Nat):Int)),(52,.slice b6 k5 aE),(8,.map (some bE)),(0,.pointer (some ⟨aW,0,none⟩))]) (fun (b4,aI,aJ,aK,aL,aM,aN,aO,aP)=>[tF]) (fun (b4,aI,aJ,aK,aL,aM,aN,aO,aP)=>[Q1e QC 45 2 (.slice b6 aU aE) l4,Q1Y (Q1h (QZ Q1Z)) false Q13 bE b4,.blk aW [.slice (some aQ) aR aS,.slice aK aM aL,.slice aN aP aO,.map (some aD)] 66,.own 3 1 Qh (.slice (some aQ) aR aS) l0,Q1e Qa 45 2 (.slice aK aM aL) aI,Q1e Qa 45 2 (.slice aN aP aO) aJ,Q1Y (Q1h (QZ Q1Z)) false Q13 aD e3,.own 45 2 Q8 (.slice aX aY aZ) l1,.own 45 2 Q8 (.slice b0 b1 b2) l2]) ?_ ?_
 refine Qn (Q6 (Q3 (Q39 0 Z (fun b5 c7=>?_))))
 obtain ⟨f,dH,hm⟩:=Q7 hm
 obtain ⟨y,bJ⟩:=zip_at c7 dH
 obtain ⟨dI,hm⟩:=Qd hm
 refine Qa9 1 a7 Z Z Z Zq Z Z Z Z Z dI (QB bJ) QG Qg (fun c8 dJ=>?_)
 subst dJ
 refine Q1t [.own 3 1 Qh (.slice y.1 ((f.ids ++ f.idsT).length) y.2) (f.ids ++ f.idsT),Q1w QC b5 (some a7),_,_,_,_,_,_,_,_,_] (fun _ h=>h.bagOpen 0 a7 Z bJ) (Qk Q7Z 2 a7 0 Z Z Z Zq Z Z Z bJ Qg QT (v:=fun _=>.agg #[.int .i64 (f.rule),.slice y.1 f.ids.length y.2]) (fun _=>Z) (fun _=>Z) (fun _ _=>(Q1s Z Z Z Zq Z Q1X Z (fun bK=>(wS 0 0 Z Qg (all':=[_,_]) Z (H':=V12 ..) Z (Q2 (Q4 (Q5 [10,54,53,52,8,0] (S':=V6 ..) Z (Q6 (Q6 (Q3 (Q1E 0 0 Z Z Z Zq Z Z Z (cs:=[_,_]) Z Qg QT Z Z ?_))))))))))))
 obtain ⟨bF,hm⟩:=Qd hm
 refine Q23 0 (v':=.agg #[.int .i64 (f.rule),.slice y.1 (((f.ids ++ f.idsT).take f.ids.length).length) y.2]) Z (by rw [Q1K bF]) (Q1r 0 (φ':=.blk bK [.int .i64 (f.rule),.slice y.1 (((f.ids ++ f.idsT).take f.ids.length).length) y.2] 45) Z (by rw [Q1K bF]) (H':=V12 ..) Z ?_)
 obtain ⟨c9,dK,hm⟩:=Q7 hm
 refine Q1y [] [0,1,2,3,4,5,6,7,8,9,10,11] [1] Z Z Z Zq Z Z fn_42 Z (Q2W N f.rule y.1 y.2 ((f.ids ++ f.idsT).take f.ids.length) _ dK) (fun F w hφ hh=>(Qe (Q7S (Q1d (hh _ (Qo (k:=0) Z))) f.ids.length) (Qe (hφ _ (Qo (k:=0) Z)) Ql))) (fun _ _ _ hR=>by obtain ⟨rfl,rfl,rfl⟩:=hR; exact ⟨Z,(fun _ h=>Q1q h)⟩) Z Z (H':=V12 ..) Z ?_
 rintro _ _ _ ⟨rfl,rfl,rfl⟩
 refine Q23 1 (v':=.agg #[.int .i64 (f.rule),.slice y.1 f.ids.length y.2]) Z (by rw [Q1K bF]) (Q1r 0 (φ':=.blk bK [.int .i64 (f.rule),.slice y.1 f.ids.length y.2] 45) Z (by rw [Q1K bF]) (H':=V12 ..) Z (wP Z (Q2 (Q4 (Q5 [11,10,54,53,52,8,0] (S':=V7 ..) Z (Q6 ?_))))))
 obtain ⟨dL,hm,hLj_5⟩:=Q7 hm
 refine Q15 (σ:=Bool) (fun bD=>dL = bD) (fun bD=>[(11,.string c9),(10,.pointer (some ⟨bK,0,none⟩)),(54,.int .i64 ((a7:Nat):Int)),(53,.int .i64 ((k5:Nat):Int)),(52,.slice (some ⟨c8,0,none⟩) k5 aE),(8,.map (some bE)),(0,.pointer (some ⟨aW,0,none⟩)),(65,.bool bD)]) (fun bD=>[tF]) (fun bD=>[.blk bK [.int .i64 (f.rule),.slice y.1 f.ids.length y.2] 45,.own 3 1 Qh (.slice y.1 ((f.ids ++ f.idsT).length) y.2) (f.ids ++ f.idsT),.own 45 2 QC.pair (.slice (some ⟨c8,0,none⟩) aU aE) b5,Q1Y (Q1h (QZ Q1Z)) false Q13 bE aF,.blk aW [.slice (some aQ) aR aS,.slice z a1 a0,.slice a2 a4 a3,.map (some aD)] 66,.own 3 1 Qh (.slice (some aQ) aR aS) l0,Q1e Qa 45 2 (.slice z a1 a0) j,Q1e Qa 45 2 (.slice a2 a4 a3) o,Q1Y (Q1h (QZ Q1Z)) false Q13 aD e3,Q1w QC b5 (some a7),.own 45 2 Q8 (.slice aX aY aZ) l1,.own 45 2 Q8 (.slice b0 b1 b2) l2]) ?_ ?_
 refine Q3 (wP Z (wP Z (wF Z Qaj (wD 5 3 Z tS_64 tA_64 Z (wP Z ?_)))))
 rcases QaH hm with ⟨cL,hm⟩ | ⟨cT,cL,hm⟩
 refine Qan (i:=c9) 9 Z Z Z Zq Z Z Z Z tZ_4 Q9i trivial cL (v:=.bool false) Z (Q2 ?_)
 have hE:=(Zi hm).symm
 refine Q17 [0,1,3,4,5,6,7,8,9,2,10,11] Z (H':=V12 ..) Z ?_
 refine Qp false hE [11,10,54,53,52,8,0,65] Z (asK [0] Z) Z
 refine Q9O (i:=c9) (a:=cT) Q40 9 Z Z Z Zq Z Z Z Z Q9i trivial cL (u:=fun _=>.bool cT) (fun _=>Z) (v:=fun _=>.bool cT) (fun _=>Z) (fun _ _=>(Q2 ?_))
 have hE:=(Zi hm).symm
 refine Q17 [0,1,3,4,5,6,7,8,9,2,10,11] Z (H':=V12 ..) Z ?_
 refine Qp cT hE [11,10,54,53,52,8,0,65] Z (asK [0] Z) Z
 rintro bD hE
 try dsimp only
 have hm:=hLj_5
 try rw [hE] at hm
 refine Qv Z (fun cM=>?_) (fun cM=>?_)
 replace hm:=Q1m hm cM
 refine Q5 [11,10,54,53,52,8,0] (S':=V7 ..) Z (Q6 (Q3 (wP Z (wP Z (Q81 (i:=c9) (u:=true) (cs:=[.bool true]) ltB 3 Z Z (.inl Z) Z Z Z Z Q9i trivial Z (fun F w hφ=>⟨(),Z,Ql⟩) (H':=[.blk bK [.int .i64 (f.rule),.slice y.1 f.ids.length y.2] 45,.own 3 1 Qh (.slice y.1 ((f.ids ++ f.idsT).length) y.2) (f.ids ++ f.idsT),.own 45 2 QC.pair (.slice (some ⟨c8,0,none⟩) aU aE) b5,Q1Y (Q1h (QZ Q1Z)) false Q13 bE (Q7p ltB c9 true aF),.blk aW [.slice (some aQ) aR aS,.slice z a1 a0,.slice a2 a4 a3,.map (some aD)] 66,.own 3 1 Qh (.slice (some aQ) aR aS) l0,Q1e Qa 45 2 (.slice z a1 a0) j,Q1e Qa 45 2 (.slice a2 a4 a3) o,Q1Y (Q1h (QZ Q1Z)) false Q13 aD e3,Q1w QC b5 (some a7),.own 45 2 Q8 (.slice aX aY aZ) l1,.own 45 2 Q8 (.slice b0 b1 b2) l2]) Z (Q2 (Q4 (Q5 [10,54,53,52,8,0] (S':=V6 ..) Z (Q6 ?_)))))))))
 obtain ⟨bG,hm⟩:=Qd hm
 obtain ⟨_,dM,hm⟩:=Q7 hm
 try dsimp only at hm
 obtain ⟨dN,hm⟩:=Qd hm
 refine QV [0,1,2,3,4,5,9,10] Z Z (fun hok=>(xP hok 0 Z (xP hok 1 Z (xP hok 2 Z (Qm hok 3 Z Z Z Zq Z Z Z Q5K (Qr hok 4 4 2 Z Z Z Zq Z Z Z Z (cs:=[_]) Z Q1O Q2I Z Z (Qr hok 5 0 0 Z Z Z Zq Z Z Z Z (cs:=[_,_]) Z Qg QT Z Z (xS hok 6 Z (Q23 0 (v':=.agg #[.int .i64 (f.rule),.slice y.1 (((f.ids ++ f.idsT).take f.ids.length).length) y.2]) Z (by rw [Q1K bG]) (Q1r 0 (φ':=.blk bK [.int .i64 (f.rule),.slice y.1 (((f.ids ++ f.idsT).take f.ids.length).length) y.2] 45) Z (by rw [Q1K bG]) (H':=V12 ..) Z (Q1y [] [0,1,2,3,4,5,6,7,8,9,10,11] [1] Z Z Z Zq Z Z fn_33 Z (Q4c N f.rule y.1 y.2 ((f.ids ++ f.idsT).take f.ids.length) dM) (fun F w hφ hh=>(Qe (Q7S (Q1d (hh _ (Qo (k:=0) Z))) f.ids.length) (Qe (hφ _ (Qo (k:=0) Z)) Ql))) (fun _ _ _ hR=>by obtain ⟨_,_,rfl,rfl,rfl⟩:=hR; exact ⟨Z,(Q7u (Q8g Q6Z) (fun _ h=>Q1q h))⟩) Z Z (H':=V12 ..) Z ?_)))))))))))
 rintro _ _ _ ⟨b8,b9,rfl,rfl,rfl⟩
 refine Q23 1 (v':=.agg #[.int .i64 (f.rule),.slice y.1 f.ids.length y.2]) Z (by rw [Q1K bG]) (Q1r 1 (φ':=.blk bK [.int .i64 (f.rule),.slice y.1 f.ids.length y.2] 45) Z (by rw [Q1K bG]) (H':=V13 ..) Z (Q2 (Qs [0] [5] Z Z (xS hok 7 Z (Qq Z Z Z Zq Z QG Qg Q1X Z (zs:=[.int .i64 0,V1]) (by kernel_rfl) Z (out:=[_,_]) Z (fun e9=>(Q2 (Qs [0] [2,6] Z Z (xS hok 8 Z (Q1J 9 Z (fun d0 _=>?_)))))))))))
 subst d0
 refine Q39 9 Z (fun bL cN=>?_)
 have bR:List.map (fun x:Q1 × (OA × Nat)=>x.1) (bL ++ [((⟨f.rule,(f.ids ++ f.idsT).take f.ids.length⟩ : Q1),(b8,b9))]) = o ++ [(⟨f.rule,(f.ids ++ f.idsT).take f.ids.length⟩ : Q1)]:=Q8D cN (us:=[(⟨f.rule,(f.ids ++ f.idsT).take f.ids.length⟩ : Q1)]) rfl
 have cO:bL.length + ([((⟨f.rule,(f.ids ++ f.idsT).take f.ids.length⟩ : Q1),(b8,b9))] : List (Q1 × (OA × Nat))).length ≤ 4398046511104:=by rw [Q2t cN]; exact dN
 refine Q21 (R:=Qa.pair) ([((⟨f.rule,(f.ids ++ f.idsT).take f.ids.length⟩ : Q1),(b8,b9))]) 10 1 Z Z Z Zq Z Z Z Z Z (fun F w hφ=>⟨[.int .i64 (f.rule),.slice b8 (((f.ids ++ f.idsT).take f.ids.length).length) b9],[],Z,Z,Z,Z⟩) QG Q8i Z Z (Nat.le_trans cO (by decide)) (Nat.le_trans (Nat.mul_le_mul_right _ cO) (by decide)) (H2:=fun bZ c0=>[_,_,_,_,_,_,_,_,_,_,.own 45 2 Qa.pair (.slice bZ ((bL ++ [((⟨f.rule,(f.ids ++ f.idsT).take f.ids.length⟩ : Q1),(b8,b9))]).length) c0) (bL ++ [((⟨f.rule,(f.ids ++ f.idsT).take f.ids.length⟩ : Q1),(b8,b9))]),_,_,_,_]) (fun _ _=>Z) (fun bZ c0=>(Q2J 1 Z (H':=V14 ..) Z (Qx (d:=76) (v':=.slice bZ ((o ++ [(⟨f.rule,(f.ids ++ f.idsT).take f.ids.length⟩ : Q1)]).length) c0) (S':=V14 ..) Z Z (by rw [Q2t bR]) (Q1r 9 (φ':=.own 45 2 Qa.pair (.slice bZ ((o ++ [(⟨f.rule,(f.ids ++ f.idsT).take f.ids.length⟩ : Q1)]).length) c0) (bL ++ [((⟨f.rule,(f.ids ++ f.idsT).take f.ids.length⟩ : Q1),(b8,b9))])) Z (by rw [Q2t bR]) (H':=V14 ..) Z (Q1S [1,0,2,3,4,5,6,7,8,9,10,11,12,13] Z (H':=V14 ..) Z (Q1t [Q1w Qa (bL ++ [((⟨f.rule,(f.ids ++ f.idsT).take f.ids.length⟩ : Q1),(b8,b9))]) none,_,_,_,_,_,_,_,_,_,_,_,_] (fun _ h=>QU.bagPush (T:=Qa) (x:=(⟨f.rule,(f.ids ++ f.idsT).take f.ids.length⟩ : Q1)) (r:=(b8,b9)) (zs:=bL) (H:=V13 ..) h 0 Z) (Q1t [_,_,_,_,_,_,_,Q1e Qa 45 2 (.slice bZ ((o ++ [(⟨f.rule,(f.ids ++ f.idsT).take f.ids.length⟩ : Q1)]).length) c0) (o ++ [(⟨f.rule,(f.ids ++ f.idsT).take f.ids.length⟩ : Q1)]),_,_,_,_] (fun _ h=>h.treeIn 8 0 Z Z Z bR) (Q2 (Qs [0] [0] Z Z (xP hok 9 Z (Qm hok 10 Z Z Z Zq Z Z Z Q5K (xS hok 11 Z (wS 4 2 Z Q1O (all':=V4 ..) Z (H':=V12 ..) Z (Q2 ?_))))))))))))))
 refine Qs [0] [] Z Z (QI hok Z (Q4 (Q5 [54,53,52,8,0] (S':=V5 ..) Z (Q19 (Qc (Qu ?_))))))
 have hE:=(Zi hm).symm
 refine Q17 [1,0,2,3,4,5,6,7,8,9,10,11] Z (H':=V12 ..) Z (Q6J [_,_,_,_,_,_,_,_,Q1w QC (b5.set a7 (f,y)) none,_,_] (fun _ h=>QU.bagClose (T:=QC) (x:=f) (r:=y) (i:=a7) (zs:=b5) (H:=V11 ..) h 8 Z) (Qa1 8 (φ':=Q1w QC b5 none) Z (by rw [Q8E bJ]) (H':=[.blk bK [.int .i64 (f.rule),.slice y.1 f.ids.length y.2] 45,.own 45 2 QC.pair (.slice (some ⟨c8,0,none⟩) aU aE) b5,Q1Y (Q1h (QZ Q1Z)) false Q13 bE (Q7p ltB c9 true aF),.blk aW [.slice (some aQ) aR aS,.slice z a1 a0,.slice bZ ((o ++ [(⟨f.rule,(f.ids ++ f.idsT).take f.ids.length⟩ : Q1)]).length) c0,.map (some aD)] 66,.own 3 1 Qh (.slice (some aQ) aR aS) l0,Q1e Qa 45 2 (.slice z a1 a0) j,Q1e Qa 45 2 (.slice bZ ((o ++ [(⟨f.rule,(f.ids ++ f.idsT).take f.ids.length⟩ : Q1)]).length) c0) (o ++ [(⟨f.rule,(f.ids ++ f.idsT).take f.ids.length⟩ : Q1)]),Q1Y (Q1h (QZ Q1Z)) false Q13 aD e3,Q1w QC b5 none,.own 45 2 Q8 (.slice aX aY aZ) l1,.own 45 2 Q8 (.slice b0 b1 b2) l2]) Z (Q6J [_,Q1e QC 45 2 (.slice (some ⟨c8,0,none⟩) aU aE) l4,_,_,_,_,_,_,_,_] (fun _ h=>h.treeIn 1 8 Z Z Z c7) (Q17 [1,2,3,4,5,6,7,8,9] Z (H':=V9 ..) Z ?_))))
 refine Qp (Q7p ltB c9 true aF,j,(o ++ [(⟨f.rule,(f.ids ++ f.idsT).take f.ids.length⟩ : Q1)]),z,a0,a1,bZ,c0,((o ++ [(⟨f.rule,(f.ids ++ f.idsT).take f.ids.length⟩ : Q1)]).length)) hE [54,53,52,8,0] Z (asK [0] Z) Z
 replace hm:=Q1l hm cM
 refine Q5 [10,54,53,52,8,0] (S':=V6 ..) Z (Qt (Q4 ?_))
 obtain ⟨bH,hm⟩:=Qd hm
 obtain ⟨_,dO,hm⟩:=Q7 hm
 try dsimp only at hm
 obtain ⟨dP,hm⟩:=Qd hm
 refine QV [0,1,2,3,4,5,9,10] Z Z (fun hok=>(xP hok 0 Z (xP hok 1 Z (xP hok 2 Z (Qm hok 3 Z Z Z Zq Z Z Z Q5j (Qr hok 4 4 1 Z Z Z Zq Z Z Z Z (cs:=[_]) Z Q1O Q2I Z Z (Qr hok 5 0 0 Z Z Z Zq Z Z Z Z (cs:=[_,_]) Z Qg QT Z Z (xS hok 6 Z (Q23 0 (v':=.agg #[.int .i64 (f.rule),.slice y.1 (((f.ids ++ f.idsT).take f.ids.length).length) y.2]) Z (by rw [Q1K bH]) (Q1r 0 (φ':=.blk bK [.int .i64 (f.rule),.slice y.1 (((f.ids ++ f.idsT).take f.ids.length).length) y.2] 45) Z (by rw [Q1K bH]) (H':=V12 ..) Z (Q1y [] [0,1,2,3,4,5,6,7,8,9,10,11] [1] Z Z Z Zq Z Z fn_33 Z (Q4c N f.rule y.1 y.2 ((f.ids ++ f.idsT).take f.ids.length) dO) (fun F w hφ hh=>(Qe (Q7S (Q1d (hh _ (Qo (k:=0) Z))) f.ids.length) (Qe (hφ _ (Qo (k:=0) Z)) Ql))) (fun _ _ _ hR=>by obtain ⟨_,_,rfl,rfl,rfl⟩:=hR; exact ⟨Z,(Q7u (Q8g Q6Z) (fun _ h=>Q1q h))⟩) Z Z (H':=V12 ..) Z ?_)))))))))))
 rintro _ _ _ ⟨bA,bB,rfl,rfl,rfl⟩
 refine Q23 1 (v':=.agg #[.int .i64 (f.rule),.slice y.1 f.ids.length y.2]) Z (by rw [Q1K bH]) (Q1r 1 (φ':=.blk bK [.int .i64 (f.rule),.slice y.1 f.ids.length y.2] 45) Z (by rw [Q1K bH]) (H':=V13 ..) Z (Q2 (Qs [0] [5] Z Z (xS hok 7 Z (Qq Z Z Z Zq Z QG Qg Q1X Z (zs:=[.int .i64 0,V1]) (by kernel_rfl) Z (out:=[_,_]) Z (fun eA=>(Q2 (Qs [0] [2,6] Z Z (xS hok 8 Z (Q1J 8 Z (fun d1 _=>?_)))))))))))
 subst d1
 refine Q39 8 Z (fun bM cP=>?_)
 have bS:List.map (fun x:Q1 × (OA × Nat)=>x.1) (bM ++ [((⟨f.rule,(f.ids ++ f.idsT).take f.ids.length⟩ : Q1),(bA,bB))]) = j ++ [(⟨f.rule,(f.ids ++ f.idsT).take f.ids.length⟩ : Q1)]:=Q8D cP (us:=[(⟨f.rule,(f.ids ++ f.idsT).take f.ids.length⟩ : Q1)]) rfl
 have cQ:bM.length + ([((⟨f.rule,(f.ids ++ f.idsT).take f.ids.length⟩ : Q1),(bA,bB))] : List (Q1 × (OA × Nat))).length ≤ 4398046511104:=by rw [Q2t cP]; exact dP
 refine Q21 (R:=Qa.pair) ([((⟨f.rule,(f.ids ++ f.idsT).take f.ids.length⟩ : Q1),(bA,bB))]) 9 1 Z Z Z Zq Z Z Z Z Z (fun F w hφ=>⟨[.int .i64 (f.rule),.slice bA (((f.ids ++ f.idsT).take f.ids.length).length) bB],[],Z,Z,Z,Z⟩) QG Q8i Z Z (Nat.le_trans cQ (by decide)) (Nat.le_trans (Nat.mul_le_mul_right _ cQ) (by decide)) (H2:=fun c1 c2=>[_,_,_,_,_,_,_,_,_,.own 45 2 Qa.pair (.slice c1 ((bM ++ [((⟨f.rule,(f.ids ++ f.idsT).take f.ids.length⟩ : Q1),(bA,bB))]).length) c2) (bM ++ [((⟨f.rule,(f.ids ++ f.idsT).take f.ids.length⟩ : Q1),(bA,bB))]),_,_,_,_,_]) (fun _ _=>Z) (fun c1 c2=>(Q2J 1 Z (H':=V14 ..) Z (Qx (d:=87) (v':=.slice c1 ((j ++ [(⟨f.rule,(f.ids ++ f.idsT).take f.ids.length⟩ : Q1)]).length) c2) (S':=V14 ..) Z Z (by rw [Q2t bS]) (Q1r 8 (φ':=.own 45 2 Qa.pair (.slice c1 ((j ++ [(⟨f.rule,(f.ids ++ f.idsT).take f.ids.length⟩ : Q1)]).length) c2) (bM ++ [((⟨f.rule,(f.ids ++ f.idsT).take f.ids.length⟩ : Q1),(bA,bB))])) Z (by rw [Q2t bS]) (H':=V14 ..) Z (Q1S [1,0,2,3,4,5,6,7,8,9,10,11,12,13] Z (H':=V14 ..) Z (Q1t [Q1w Qa (bM ++ [((⟨f.rule,(f.ids ++ f.idsT).take f.ids.length⟩ : Q1),(bA,bB))]) none,_,_,_,_,_,_,_,_,_,_,_,_] (fun _ h=>QU.bagPush (T:=Qa) (x:=(⟨f.rule,(f.ids ++ f.idsT).take f.ids.length⟩ : Q1)) (r:=(bA,bB)) (zs:=bM) (H:=V13 ..) h 0 Z) (Q1t [_,_,_,_,_,_,Q1e Qa 45 2 (.slice c1 ((j ++ [(⟨f.rule,(f.ids ++ f.idsT).take f.ids.length⟩ : Q1)]).length) c2) (j ++ [(⟨f.rule,(f.ids ++ f.idsT).take f.ids.length⟩ : Q1)]),_,_,_,_,_] (fun _ h=>h.treeIn 7 0 Z Z Z bS) (Q2 (Qs [0] [0] Z Z (xP hok 9 Z (Qm hok 10 Z Z Z Zq Z Z Z Q5j (xS hok 11 Z (wS 4 1 Z Q1O (all':=V4 ..) Z (H':=V12 ..) Z (Q2 ?_))))))))))))))
 refine Qs [0] [] Z Z (QI hok Z (Qi ?_))
 have hE:=(Zi hm).symm
 refine Q17 [1,0,2,3,4,5,6,7,8,9,10,11] Z (H':=V12 ..) Z (Q6J [_,_,_,_,_,_,_,_,Q1w QC (b5.set a7 (f,y)) none,_,_] (fun _ h=>QU.bagClose (T:=QC) (x:=f) (r:=y) (i:=a7) (zs:=b5) (H:=V11 ..) h 8 Z) (Qa1 8 (φ':=Q1w QC b5 none) Z (by rw [Q8E bJ]) (H':=[.blk bK [.int .i64 (f.rule),.slice y.1 f.ids.length y.2] 45,.own 45 2 QC.pair (.slice (some ⟨c8,0,none⟩) aU aE) b5,Q1Y (Q1h (QZ Q1Z)) false Q13 bE aF,.blk aW [.slice (some aQ) aR aS,.slice c1 ((j ++ [(⟨f.rule,(f.ids ++ f.idsT).take f.ids.length⟩ : Q1)]).length) c2,.slice a2 a4 a3,.map (some aD)] 66,.own 3 1 Qh (.slice (some aQ) aR aS) l0,Q1e Qa 45 2 (.slice c1 ((j ++ [(⟨f.rule,(f.ids ++ f.idsT).take f.ids.length⟩ : Q1)]).length) c2) (j ++ [(⟨f.rule,(f.ids ++ f.idsT).take f.ids.length⟩ : Q1)]),Q1e Qa 45 2 (.slice a2 a4 a3) o,Q1Y (Q1h (QZ Q1Z)) false Q13 aD e3,Q1w QC b5 none,.own 45 2 Q8 (.slice aX aY aZ) l1,.own 45 2 Q8 (.slice b0 b1 b2) l2]) Z (Q6J [_,Q1e QC 45 2 (.slice (some ⟨c8,0,none⟩) aU aE) l4,_,_,_,_,_,_,_,_] (fun _ h=>h.treeIn 1 8 Z Z Z c7) (Q17 [1,2,3,4,5,6,7,8,9] Z (H':=V9 ..) Z ?_))))
 refine Qp (aF,(j ++ [(⟨f.rule,(f.ids ++ f.idsT).take f.ids.length⟩ : Q1)]),o,c1,c2,((j ++ [(⟨f.rule,(f.ids ++ f.idsT).take f.ids.length⟩ : Q1)]).length),a2,a3,a4) hE [54,53,52,8,0] Z (asK [0] Z) Z
 rintro ⟨b4,aI,aJ,aK,aL,aM,aN,aO,aP⟩ hE
 try dsimp only
 have hm:=hLj_4
 try rw [hE] at hm
 try dsimp only at hm
 refine Q3 (wP Z ?_)
 obtain ⟨dQ,hm⟩:=Qd hm
 refine Qx (d:=90) (v':=.int .i64 ((a7 + 1:Nat):Int)) (S':=V5 ..) Z Z (Q1f (a:=a7) (b:=1) dQ) (QM (S':=V5 ..) Z Z Z Z Z (Q2 ?_))
 have hE:=(Zi hm).symm
 replace hE:=Q11 hLu2 hE
 refine Q14 (_,a7 + 1,b4,aI,aJ,aK,aL,aM,aN,aO,aP) (Nat.lt_succ_self _) hE [54,53,52,8,0] Z (asK [0] Z) Z
 replace hm:=Q1l hm cK
 refine Q5 [8,0] (S':=[_,_]) Z (Q19 (Qc (Qc (Qu ?_))))
 have hE:=(Zi hm).symm
 replace hE:=QE hLu2 hE
 refine Q17 [1,2,3,4,5,6,7,8,0] Z (H':=V9 ..) Z ?_
 refine Qp (aF,j,o,z,a0,a1,a2,a3,a4) hE [8,0] Z (asK [0] Z) Z
 rintro ⟨b7,a5,a6,a8,a9,aG,aA,aB,aH⟩ hE
 try dsimp only
 have hm:=hLj_3
 try rw [hE] at hm
 try dsimp only at hm
 refine Q6 (Q3 (wP Z (wP Z (wP Z (wF Z Qaj (wS 1 3 Z tS_64 (all':=V4 ..) Z (H':=V9 ..) Z (Q2 (Q4 (Q5 [0] (S':=[_]) Z (Q6 ?_))))))))))
 obtain ⟨⟨cU,cV⟩,d2,hm⟩:=Q7 hm
 try dsimp only at hm
 obtain ⟨cC,hm⟩:=Qd hm
 refine QV [0,1,2,3,4,5,6,7] Z Z (fun hok=>(xP hok 0 Z (xP hok 1 Z (Qm hok 2 Z Z Z Zq Z Z Z Q5j (Qr hok 3 1 1 Z Z Z Zq Z Z Z Z (cs:=[_]) Z Q1O Q2I Z Z (xP hok 4 Z (xP hok 5 Z (Qm hok 6 Z Z Z Zq Z Z Z Q61 (Qr hok 7 1 0 Z Z Z Zq Z Z Z Z (cs:=[_]) Z Q8G Q8F Z Z (xS hok 8 Z (Q71 Z Z Z Zq Z Z Z (Q2 (Qs [0] [1] Z Z (xS hok 9 Z ?_))))))))))))))
 refine Q1t [_,_,_,.own 45 2 Q8 (.slice a8 aG a9) a5,_,_,_,_,_] (fun _ h=>h.letgo Q3a 3 Z) (QQ 3 Z (fun bP _=>?_))
 subst bP
 refine wC [3,2] [0,1,4,5,6,7,8] Z fn_43 Z (Q25 N a8 a5.length a9 a5 aQ aR aS l0 _ _ d2) (asK [0] Z) Z (H':=V7 ..) Z ?_
 rintro _ _ _ ⟨dR,rfl,rfl,rfl⟩
 refine QQ 0 Z (fun cD _=>?_)
 subst cD
 refine Q1r 0 (φ':=.own 45 2 Q8 (.slice a8 a5.length a9) cU) Z (by rw [cC]) (H':=V9 ..) Z (Q2 (Qs [0] [3] Z Z (QI hok Z (Q4 (Q5 [0] (S':=[_]) Z (Q6 ?_))))))
 obtain ⟨⟨cW,dS⟩,d3,hm⟩:=Q7 hm
 try dsimp only at hm
 obtain ⟨cE,hm⟩:=Qd hm
 refine QV [0,1,2,3,4,5,6,7] Z Z (fun hok=>(xP hok 0 Z (xP hok 1 Z (Qm hok 2 Z Z Z Zq Z Z Z Q5K (Qr hok 3 3 2 Z Z Z Zq Z Z Z Z (cs:=[_]) Z Q1O Q2I Z Z (xP hok 4 Z (xP hok 5 Z (Qm hok 6 Z Z Z Zq Z Z Z Q61 (Qr hok 7 3 0 Z Z Z Zq Z Z Z Z (cs:=[_]) Z Q8G Q8F Z Z (xS hok 8 Z (Q71 Z Z Z Zq Z Z Z (Q2 (Qs [0] [3] Z Z (xS hok 9 Z ?_))))))))))))))
 refine Q1t [_,_,_,_,.own 45 2 Q8 (.slice aA aH aB) a6,_,_,_,_] (fun _ h=>h.letgo Q3a 4 Z) (QQ 4 Z (fun bQ _=>?_))
 subst bQ
 refine wC [4,1] [0,2,3,5,6,7,8] Z fn_43 Z (Q25 N aA a6.length aB a6 aQ aR aS cV _ _ d3) (asK [0] Z) Z (H':=V7 ..) Z ?_
 rintro _ _ _ ⟨dT,rfl,rfl,rfl⟩
 refine QQ 0 Z (fun cF _=>?_)
 subst cF
 refine Q1r 0 (φ':=.own 45 2 Q8 (.slice aA a6.length aB) cW) Z (by rw [cE]) (H':=V9 ..) Z (Q2 (Qs [0] [4] Z Z (QI hok Z (Q4 (Q5 [] (S':=[]) Z (Q6 (Q3 (wP Z (Q2 (Q4 (QJ ?_)))))))))))
 have hE:=(Zi hm).symm
 obtain ⟨hE0,hF1⟩:=Prod.mk.inj hE
 obtain ⟨hE1,hF2⟩:=Prod.mk.inj hF1
 obtain ⟨hE2,hF3⟩:=Prod.mk.inj hF2
 obtain ⟨hE3,hE4⟩:=Prod.mk.inj hF3
 clear hE hF1 hF2 hF3
 replace hE0:=hE0.symm
 subst hE0
 replace hE1:=hE1.symm
 subst hE1
 replace hE2:=hE2.symm
 subst hE2
 replace hE3:=hE3.symm
 subst hE3
 replace hE4:=hE4.symm
 subst hE4
 refine QA (Hr:=V6 ..) [4,1,2,0,3,8] Tryz.results21 (Qy Z) ⟨a8,a9,a5.length,aA,aB,a6.length,bE,Z,Z,Z⟩ (asK [] Z) Z Z (.inl Z)
theorem Q4Z (N:Nat) (y:OA) (z:Nat) (l0:List Q1) (a1:Int) (o:OA) (q:Nat) (l2:List Int) (o0:Int) (hm:Q4q N l0 a1 l2 = some o0):Q1z Tryz.prog 50 [.slice y l0.length z,.agg #[.int .i64 a1,.slice o l2.length q]] [.sli 2 Q8 y z l0,.sli 1 Qh o q l2,tF] [] (fun v Φr Hr=>v = .int .i64 o0 ∧ Φr = [] ∧ Hr = []):=by
 unfold Q4q at hm
 refine Q12 Tryz.func50 Z Tryz.ntmps50 Z (S:=[_,_]) Z (fun C=>(Q6 (Q3 (wB Z (fun g3=>(wP Z (Q2 (Q4 (Q5 [3,0] (S':=[_,_]) Z (Q6 ?_))))))))))
 obtain ⟨a2,hm,hLj_1⟩:=Q1R hm
 refine Q15 (σ:=Unit) (fun _=>a2 = .inl ()) (fun _=>[]) (fun _=>[tF]) (fun _=>[]) ?_ ?_
 refine Q6 (Q3 (wP Z (Q2 (Q4 (Qn (Q1b (σ:=Nat × Nat) (fun (j,f)=>Q1B (Q6h N l0 a1 l2) j f = some a2) (fun (j,f)=>j) (fun (j,f)=>[(5,.int .i64 ((f:Nat):Int)),(3,.pointer (some ⟨g3,0,none⟩)),(0,.slice y l0.length z)]) (fun (j,f)=>[.sli 1 Qh o q l2,.sli 2 Q8 y z l0,tF]) (fun (j,f)=>[.blk g3 [.int .i64 a1,.slice o l2.length q] 45]) (N,0) hm [5,3,0] Z (asK [1,0,2] Z) Z (fun s_ hm=>?_)))))))
 obtain ⟨j,f⟩:=s_
 try dsimp only at hm ⊢
 obtain ⟨aH,aI,a6,hq,hLu1⟩:=Q18 hm
 clear hm
 subst a6
 replace hm:=hq
 clear hq
 unfold Q6h at hm
 try dsimp only at hm
 refine Q6 (Q6 (Q3 (wP Z (wP Z (wN Z QG (wP Z (Qx (d:=9) (v':=.bool (decide (f < l0.length))) (S':=V6 ..) Z Z (Q20 (a:=f) (b:=l0.length)) (Q2 (Q4 (Q5 [9,5,3,0] (S':=V4 ..) Z ?_))))))))))
 refine Qv Z (fun a4=>?_) (fun a4=>?_)
 replace hm:=Q1m hm a4
 refine Q5 [5,3,0] (S':=V3 ..) Z (Qt (Q4 (Q6 (Qn (Q6 ?_)))))
 obtain ⟨a7,a8,hm⟩:=Q7 hm
 obtain ⟨aJ,a9,hm⟩:=Q7 hm
 refine QV [0,1,2,3,4] Z Z (fun hok=>(xP hok 0 Z (xP hok 1 Z (Q1o hok 2 1 f Z Z Z Zq Z Z Z Z Z Z a8 QG Qg (fun aK aL aG aD=>(Q1u Qb 1 Z (fun aA aB _=>?_)))))))
 subst aB
 refine Q1I hok 3 1 0 Z Z Z Zq Z Z Z Z (cs:=[_,_]) Z Qg QT Z Z (Qr hok 4 0 0 Z Z Z Zq Z Z Z Z (cs:=[_,_]) Z Qg QT Z Z (xS hok 5 Z (wC [] [0] Z fn_13 Z (Q4o N a7.rule aA.1 aA.2 a7.ids a1 o q l2 _ a9) (asK [0,3] Z) Z (H':=[_]) Z ?_)))
 rintro _ _ _ ⟨rfl,rfl,rfl⟩
 refine Q2 (Qs [0,1,2,3,4,5] [] Z Z (QI hok Z (Q4 (Q5 [17,5,3,0] (S':=V4 ..) Z ?_))))
 refine Qv Z (fun s=>?_) (fun s=>?_)
 replace hm:=Q1m hm s
 refine Q5 [5] (S':=[_]) Z (Q6 (Q3 (wP Z (wP Z (Q2 (Q4 (Q5 [4] (S':=[_]) Z (QJ (QR (Qj (Qj (QR (Qj ?_)))))))))))))
 have hE:=(Zi hm).symm
 replace hE:=QE hLu1 hE
 replace hE:=QE hLj_1 hE
 replace hE:=hE.symm
 subst hE
 refine QA (Hr:=[]) [] Tryz.results50 (Qy Z) ⟨Z,Z,Z⟩ (asK [] Z) Z Z (.inl Z)
 replace hm:=Q1l hm s
 refine Q5 [5,3,0] (S':=V3 ..) Z (Qt (Qi (Q4 (Q3 (wP Z (wP Z ?_))))))
 obtain ⟨aC,hm⟩:=Qd hm
 refine Qx (d:=11) (v':=.int .i64 ((f + 1:Nat):Int)) (S':=V4 ..) Z Z (Q1f (a:=f) (b:=1) aC) (QM (S':=V4 ..) Z Z Z Z Z (Q2 ?_))
 have hE:=(Zi hm).symm
 replace hE:=Q11 hLu1 hE
 refine Q14 (_,f + 1) (Nat.lt_succ_self _) hE [5,3,0] Z (asK [3,4,5] Z) Z
 replace hm:=Q1l hm a4
 refine Q5 [] (S':=[]) Z (Q19 (Qc (Qc (Qu ?_))))
 have hE:=(Zi hm).symm
 replace hE:=QE hLu1 hE
 refine Q17 [] Z (H':=[]) Z ?_
 refine Qp () hE [] Z (asK [2] Z) Z
 rintro _ hE
 try dsimp only
 have hm:=Q11 hLj_1 hE
 try dsimp only at hm
 refine Q6 (Q3 (wP Z (Q2 (Q4 (QJ ?_)))))
 have hE:=(Zi hm).symm
 replace hE:=hE.symm
 subst hE
 refine QA (Hr:=[]) [] Tryz.results50 (Qy Z) ⟨Z,Z,Z⟩ (asK [] Z) Z Z (.inl Z)
theorem Q9T (N:Nat) (qp0:OA) (qc1:Nat) (l0:List Int)  (hm:Q6Q N l0 = some ()):Q1z Tryz.prog 160 [.slice qp0 l0.length qc1] [.sli 1 Qh qp0 qc1 l0] [] (fun v Φr Hr=>∃ (o0:OA) (o1:Nat),v = .slice o0 (l0).length o1 ∧ Φr = [] ∧ Hr = [.own 3 1 Qh (.slice o0 (l0).length o1) l0]):=by
 unfold Q6Q at hm
 refine Q12 Tryz.func160 Z Tryz.ntmps160 Z (S:=[_]) Z (fun C=>(Q6 (Q3 (wP Z (Q2 (Q4 (Q5 [0] (S':=[_]) Z (Q6 (Q3 (wP Z (Q2 (Q4 (Q6 (Q3 ?_))))))))))))))
 refine wP Z (wP Z (Q6D 3 1 Qh ?_))
 obtain ⟨hg6,hm⟩:=Qd hm
 refine Q8v 0 0 Z Z Z Zq Z Z Z Z Z Q1a tR_3 Z Z (Nat.le_trans hg6 (by decide)) (Nat.le_trans (Nat.mul_le_mul_right _ hg6) (by decide)) (H2:=fun p6 c6=>[.own 3 1 Qh (.slice p6 (l0).length c6) l0]) (fun _ _=>Z) (fun p6 c6=>(wP Z (Q2 (Q4 (Q5 [2] (S':=[_]) Z (QJ ?_))))))
 have hE:=(Zi hm).symm
 refine QA (Hr:=[_]) [0] Tryz.results160 (Qy Z) ⟨p6,c6,Z,Z,Z⟩ (asK [] Z) Z Z (.inl Z)
theorem Q9z (N:Nat) (a0:Int) (qp0:OA) (qc1:Nat) (l1:List Int)  (hm:Q6o N a0 l1 = some ()):Q1z Tryz.prog 100 [.agg #[.int .i64 a0,.slice qp0 l1.length qc1]] [.sli 1 Qh qp0 qc1 l1] [] (fun v Φr Hr=>∃ (o0:OA) (o1:Nat),v = .agg #[.int .i64 a0,.slice o0 (l1).length o1] ∧ Φr = [] ∧ Hr = [.own 3 1 Qh (.slice o0 (l1).length o1) l1]):=by
 unfold Q6o at hm
 refine Q12 Tryz.func100 Z Tryz.ntmps100 Z (S:=[_]) Z (fun C=>(Q6 (Q3 (wB Z (fun g1=>(Q1s Z Z Z Zq Z Q1X Z (fun g2=>(Q2 (Q4 (Q5 [2,1] (S':=[_,_]) Z (Q6 (Q3 (wF Z Q2i (wD 1 1 Z Q1T Q2Q Z ?_))))))))))))))
 obtain ⟨_,hc5,hm⟩:=Q7 hm
 try dsimp only at hm
 refine wC [] [0,1] Z fn_160 Z (Q9T N qp0 qc1 l1 hc5) (asK [0] Z) Z (H':=[_,_]) Z ?_
 rintro _ _ _ ⟨p5_0,c5_1,rfl,rfl,rfl⟩
 refine wF Z Q2i (wS 2 1 Z Q1T (all':=[_,_]) Z (H':=V3 ..) Z (Q2 (Q4 (Q5 [2,1] (S':=[_,_]) Z (Q6 (Q3 (Q1E 2 0 Z Z Z Zq Z Z Z (cs:=[_,_]) Z Qg QT Z Z (wS 1 0 Z Qg (all':=[_,_]) Z (H':=V3 ..) Z (Q2 (Q4 (Q5 [2] (S':=[_]) Z (QJ ?_))))))))))))
 have hE:=(Zi hm).symm
 refine QA (Hr:=[_]) [0] Tryz.results100 (Q4Q 1 Z Z Qg QT Z Z) ⟨p5_0,c5_1,Z,Z,Z⟩ (asK [] Z) Z Z (.inl Z)
theorem Q9n (N:Nat) (aD:OA) (aE:Nat) (l0:List Q1) (o2:List Q1) (hm:Q6a N l0 = some o2):Q1z Tryz.prog 51 [.slice aD l0.length aE] [.sli 2 Q8 aD aE l0] [] (fun v Φr Hr=>∃ (o0:OA) (o1:Nat) (o3:Nat),v = .slice o0 o3 o1 ∧ Φr = [] ∧ Hr = [Q1e Qa 45 2 (.slice o0 o3 o1) o2]):=by
 unfold Q6a at hm
 refine Q12 Tryz.func51 Z Tryz.ntmps51 Z (S:=[_]) Z (fun C=>(Q6 (Q3 (wP Z (Q2 (Q4 (Q5 [0] (S':=[_]) Z (Q6 (Q3 (wP Z (Q2 (Q4 (Q6 ?_)))))))))))))
 obtain ⟨aG,hm,hLj_1⟩:=Q7 hm
 refine Q15 (σ:=(List Q1) × OA × Nat × Nat) (fun (a3,s,y,z)=>aG = a3) (fun (a3,s,y,z)=>[(3,.slice s z y)]) (fun (a3,s,y,z)=>[]) (fun (a3,s,y,z)=>[Q1e Qa 45 2 (.slice s z y) a3]) ?_ ?_
 refine Q6 (Q3 (wP Z (Q2 (Q4 (Qn (Q77 [Q1e Qa 45 2 (V1) []] (fun _ h=>h.treeNil Qa 45 2) (Q1b (σ:=Nat × Nat × (List Q1) × OA × Nat × Nat) (fun (a6,a4,f,a0,a1,a2)=>Q1B (Q5b N l0) a6 (a4,f) = some aG) (fun (a6,a4,f,a0,a1,a2)=>a6) (fun (a6,a4,f,a0,a1,a2)=>[(4,.int .i64 ((a4:Nat):Int)),(3,.slice a0 a2 a1),(0,.slice aD l0.length aE)]) (fun (a6,a4,f,a0,a1,a2)=>[.sli 2 Q8 aD aE l0]) (fun (a6,a4,f,a0,a1,a2)=>[Q1e Qa 45 2 (.slice a0 a2 a1) f]) (N,0,[],none,0,0) hm [4,3,0] Z (asK [0] Z) Z (fun s_ hm=>?_))))))))
 obtain ⟨a6,a4,f,a0,a1,a2⟩:=s_
 try dsimp only at hm ⊢
 obtain ⟨aX,aY,aJ,hq,hLu1⟩:=Q18 hm
 clear hm
 subst aJ
 replace hm:=hq
 clear hq
 unfold Q5b at hm
 try dsimp only at hm
 refine Q6 (Q6 (Q3 (wP Z (wP Z (wN Z QG (wP Z (Qx (d:=9) (v':=.bool (decide (a4 < l0.length))) (S':=V6 ..) Z Z (Q20 (a:=a4) (b:=l0.length)) (Q2 (Q4 (Q5 [9,4,3,0] (S':=V4 ..) Z ?_))))))))))
 refine Qv Z (fun aH=>?_) (fun aH=>?_)
 replace hm:=Q1m hm aH
 refine Q5 [4,3,0] (S':=V3 ..) Z (Qt (Q4 (Q6 (Qn (Q6 (Q3 (wP Z (wP Z ?_))))))))
 obtain ⟨j,aK,hm⟩:=Q7 hm
 refine Q3z 0 a4 Z Z Z Zq Z Z Z Z Z aK QG Qg (fun aZ b0 aW aQ=>(Q5m Qb 1 Z (fun aL aM _=>?_)))
 subst aM
 refine Q5l 1 0 Z Z Z Zq Z Z Z (cs:=[_,_]) Z Qg QT Z Z ?_
 obtain ⟨_,aN,hm⟩:=Q7 hm
 try dsimp only at hm
 refine wC [] [0] Z fn_100 Z (Q9z N j.rule aL.1 aL.2 j.ids aN) (asK [0] Z) Z (H':=[_]) Z ?_
 rintro _ _ _ ⟨o,q,rfl,rfl,rfl⟩
 refine Q1s Z Z Z Zq Z Q1X Z (fun g5=>(wS 0 0 Z Qg (all':=[_,_]) Z (H':=V3 ..) Z (Q2 (Q4 (Q5 [5,4,3,0] (S':=V4 ..) Z (Q3 (wP Z (Q1E 0 0 Z Z Z Zq Z Z Z (cs:=[_,_]) Z Qg QT Z Z (Qq Z Z Z Zq Z QG Qg Q1X Z (zs:=[.int .i64 0,V1]) (by kernel_rfl) Z (out:=[_,_]) Z (fun aR=>(Q1J 3 Z (fun aI _=>?_))))))))))))
 subst aI
 refine QQ 2 Z (fun a8 _=>(Q23 1 (v':=.agg #[.int .i64 (j.rule),.slice o j.ids.length q]) Z (by first | rfl | (rw [a8]; done) | simp) (Q1r 0 (φ':=.blk aR [.int .i64 (j.rule),.slice o j.ids.length q] 45) Z (by first | rfl | (rw [a8]; done) | simp) (H':=V4 ..) Z (Q1r 1 (φ':=.blk g5 [.int .i64 (j.rule),.slice o j.ids.length q] 45) Z (by first | rfl | (rw [a8]; done) | simp) (H':=V4 ..) Z (Q1r 2 (φ':=.own 3 1 Qh (.slice o j.ids.length q) j.ids) Z (by first | rfl | (rw [a8]; done) | simp) (H':=V4 ..) Z (Q39 3 Z (fun a5 aB=>?_)))))))
 obtain ⟨aO,hm⟩:=Qd hm
 have a7:List.map (fun x:Q1 × (OA × Nat)=>x.1) (a5 ++ [(j,(o,q))]) = f ++ [j]:=Q8D aB (us:=[j]) rfl
 have aC:a5.length + ([(j,(o,q))] : List (Q1 × (OA × Nat))).length ≤ 4398046511104:=by rw [Q2t aB]; exact aO
 refine Q21 (R:=Qa.pair) ([(j,(o,q))]) 4 1 Z Z Z Zq Z Z Z Z Z (fun F w hφ=>⟨[.int .i64 (j.rule),.slice o j.ids.length q],[],Z,Z,Z,Z⟩) QG Q8i Z Z (Nat.le_trans aC (by decide)) (Nat.le_trans (Nat.mul_le_mul_right _ aC) (by decide)) (H2:=fun a9 aA=>[_,_,_,_,.own 45 2 Qa.pair (.slice a9 ((a5 ++ [(j,(o,q))]).length) aA) (a5 ++ [(j,(o,q))])]) (fun _ _=>Z) (fun a9 aA=>(Q2J 1 Z (H':=V4 ..) Z (Qx (d:=20) (v':=.slice a9 ((f ++ [j]).length) aA) (S':=V7 ..) Z Z (by rw [Q2t a7]) (Q1r 3 (φ':=.own 45 2 Qa.pair (.slice a9 ((f ++ [j]).length) aA) (a5 ++ [(j,(o,q))])) Z (by rw [Q2t a7]) (H':=V4 ..) Z (Q1S [2,0,1,3] Z (H':=V4 ..) Z (Q1t [Q1w Qa (a5 ++ [(j,(o,q))]) none,_,_] (fun _ h=>QU.bagPush (T:=Qa) (x:=j) (r:=(o,q)) (zs:=a5) (H:=V3 ..) h 0 Z) (Q1t [_,Q1e Qa 45 2 (.slice a9 ((f ++ [j]).length) aA) (f ++ [j])] (fun _ h=>h.treeIn 2 0 Z Z Z a7) (QM (S':=V7 ..) Z Z Z Z Z (Q2 (Qi (Q4 (Q5 [3,4,0] (S':=V3 ..) Z (Q3 (wP Z ?_))))))))))))))
 refine wP Z ?_
 obtain ⟨aP,hm⟩:=Qd hm
 refine Qx (d:=11) (v':=.int .i64 ((a4 + 1:Nat):Int)) (S':=V4 ..) Z Z (Q1f (a:=a4) (b:=1) aP) (QM (S':=V4 ..) Z Z Z Z Z (Q2 ?_))
 have hE:=(Zi hm).symm
 replace hE:=Q11 hLu1 hE
 refine Q17 [1] Z (H':=[_]) Z ?_
 refine Q14 (_,a4 + 1,f ++ [j],a9,aA,(f ++ [j]).length) (Nat.lt_succ_self _) hE [4,3,0] Z (asK [3] Z) Z
 replace hm:=Q1l hm aH
 refine Q5 [3] (S':=[_]) Z (Q19 (Qc (Qc (Qu ?_))))
 have hE:=(Zi hm).symm
 replace hE:=QE hLu1 hE
 refine Qp (f,a0,a1,a2) hE [3] Z (asK [] Z) Z
 rintro ⟨a3,s,y,z⟩ hE
 try dsimp only
 have hm:=hLj_1
 try rw [hE] at hm
 refine Q6 (Q3 (wP Z (wP Z (Q2 (Q4 (Q5 [2] (S':=[_]) Z (QJ ?_)))))))
 have hE:=(Zi hm).symm
 replace hE:=hE.symm
 subst hE
 refine QA (Hr:=[_]) [0] Tryz.results51 (Qy Z) ⟨s,y,z,Z,Z,Z⟩ (asK [] Z) Z Z (.inl Z)
theorem Q75 (N:Nat) (aK:Nat) (aC:OA) (aD:Nat) (aE:Nat) (l0:List Qw) (aF:OA) (aG:Nat) (aH:Nat) (l1:List QP) (aI:OA) (aL:Nat) (aJ:Nat) (l2:List Q1) (a7:OA) (a8:Nat) (a9:Nat) (l3:List Bool) (aA:OA) (a6:Nat) (l4:List Q1) (o0:Nat) (o3:List Q1) (o7:List Bool) (hm:Q5F N l0 l1 l2 l3 l4 = some (o0,o3,o7)):Q1z Tryz.prog 28 [.pointer (some ⟨aK,0,none⟩),.slice aA l4.length a6] [.sli 2 Q8 aA a6 l4,tF] [.blk aK [.slice aC aD aE,.slice aF aG aH,.slice aI aL aJ,.slice a7 a8 a9] 70,.own 213 2 QL (.slice aC aD aE) l0,.own 38 5 QO (.slice aF aG aH) l1,.own 45 2 Q8 (.slice aI aL aJ) l2,.own 4 1 Q13 (.slice a7 a8 a9) l3] (fun v Φr Hr=>∃ (o1:OA) (o2:Nat) (o4:Nat) (o5:OA) (o6:Nat) (o8:Nat),v = .int .i64 ((o0:Nat):Int) ∧ Φr = [] ∧ Hr = [.blk aK [.slice aC aD aE,.slice aF aG aH,.slice o1 o4 o2,.slice o5 o8 o6] 70,.own 213 2 QL (.slice aC aD aE) l0,.own 38 5 QO (.slice aF aG aH) l1,.own 45 2 Q8 (.slice o1 o4 o2) o3,.own 4 1 Q13 (.slice o5 o8 o6) o7]):=by
 unfold Q5F at hm
 refine Q12 Tryz.func28 Z Tryz.ntmps28 Z (S:=[_,_]) Z (fun C=>(Q6 (Q3 (wP Z (Q2 (Q4 (Q5 [0,1] (S':=[_,_]) Z (Q6 (Q3 (wP Z (Q2 (Q4 (Q6 ?_)))))))))))))
 obtain ⟨b7,hm,hLj_1⟩:=Q1R hm
 refine Q15 (σ:=(List Bool) × OA × Nat × Nat) (fun (a5,y,z,a0)=>b7 = .inl a5) (fun (a5,y,z,a0)=>[(0,.pointer (some ⟨aK,0,none⟩)),(1,.slice aA l4.length a6),(5,.slice y a0 z)]) (fun (a5,y,z,a0)=>[.sli 2 Q8 aA a6 l4,tF]) (fun (a5,y,z,a0)=>[.blk aK [.slice aC aD aE,.slice aF aG aH,.slice aI aL aJ,.slice a7 a8 a9] 70,.own 213 2 QL (.slice aC aD aE) l0,.own 38 5 QO (.slice aF aG aH) l1,.own 45 2 Q8 (.slice aI aL aJ) l2,.own 4 1 Q13 (.slice a7 a8 a9) l3,.own 4 1 Q13 (.slice y a0 z) a5]) ?_ ?_
 refine Q6 (Q3 (wP Z (Q2 (Q4 (Qn (Q3K 4 1 Q13 (Q1b (σ:=Nat × Nat × (List Bool) × OA × Nat × Nat) (fun (aP,j,f,o,q,s)=>Q1B (Q4K N l4 l1 l2 l3) aP (j,f) = some b7) (fun (aP,j,f,o,q,s)=>aP) (fun (aP,j,f,o,q,s)=>[(6,.int .i64 ((j:Nat):Int)),(5,.slice o s q),(0,.pointer (some ⟨aK,0,none⟩)),(1,.slice aA l4.length a6)]) (fun (aP,j,f,o,q,s)=>[.sli 2 Q8 aA a6 l4,tF]) (fun (aP,j,f,o,q,s)=>[.own 4 1 Q13 (.slice o s q) f,.blk aK [.slice aC aD aE,.slice aF aG aH,.slice aI aL aJ,.slice a7 a8 a9] 70,.own 213 2 QL (.slice aC aD aE) l0,.own 38 5 QO (.slice aF aG aH) l1,.own 45 2 Q8 (.slice aI aL aJ) l2,.own 4 1 Q13 (.slice a7 a8 a9) l3]) (N,0,[],none,0,0) hm [6,5,0,1] Z (asK [0,1] Z) Z (fun s_ hm=>?_))))))))
 obtain ⟨aP,j,f,o,q,s⟩:=s_
 try dsimp only at hm ⊢
 obtain ⟨cM,cN,bF,hq,hLu1⟩:=Q18 hm
 clear hm
 subst bF
 replace hm:=hq
 clear hq
 unfold Q4K at hm
 try dsimp only at hm
 refine Q6 (Q6 (Q3 (wP Z (wP Z (wN Z QG (wP Z (Qx (d:=11) (v':=.bool (decide (j < l4.length))) (S':=V7 ..) Z Z (Q20 (a:=j) (b:=l4.length)) (Q2 (Q4 (Q5 [11,6,5,0,1] (S':=V5 ..) Z ?_))))))))))
 refine Qv Z (fun aU=>?_) (fun aU=>?_)
 replace hm:=Q1m hm aU
 refine Q5 [6,5,0,1] (S':=V4 ..) Z (Qt (Q4 (Q6 ?_)))
 obtain ⟨bG,hm,hLj_2⟩:=Q1R hm
 unfold Q6G at hm
 refine Q15 (σ:=(List Bool) × OA × Nat × Nat) (fun (a1,a2,a3,a4)=>bG = .inl a1) (fun (a1,a2,a3,a4)=>[(6,.int .i64 ((j:Nat):Int)),(5,.slice a2 a4 a3),(0,.pointer (some ⟨aK,0,none⟩)),(1,.slice aA l4.length a6)]) (fun (a1,a2,a3,a4)=>[.sli 2 Q8 aA a6 l4,tF]) (fun (a1,a2,a3,a4)=>[.own 4 1 Q13 (.slice a2 a4 a3) a1,.blk aK [.slice aC aD aE,.slice aF aG aH,.slice aI aL aJ,.slice a7 a8 a9] 70,.own 213 2 QL (.slice aC aD aE) l0,.own 38 5 QO (.slice aF aG aH) l1,.own 45 2 Q8 (.slice aI aL aJ) l2,.own 4 1 Q13 (.slice a7 a8 a9) l3]) ?_ ?_
 refine Qn (Q6 (Q6 ?_))
 obtain ⟨bH,hm,hLj_3⟩:=Q7 hm
 unfold Q6H at hm
 refine Q15 (σ:=Bool) (fun aB=>bH = aB) (fun aB=>[(6,.int .i64 ((j:Nat):Int)),(5,.slice o s q),(0,.pointer (some ⟨aK,0,none⟩)),(1,.slice aA l4.length a6),(44,.bool aB)]) (fun aB=>[.sli 2 Q8 aA a6 l4,tF]) (fun aB=>[.own 4 1 Q13 (.slice o s q) f,.blk aK [.slice aC aD aE,.slice aF aG aH,.slice aI aL aJ,.slice a7 a8 a9] 70,.own 213 2 QL (.slice aC aD aE) l0,.own 38 5 QO (.slice aF aG aH) l1,.own 45 2 Q8 (.slice aI aL aJ) l2,.own 4 1 Q13 (.slice a7 a8 a9) l3]) ?_ ?_
 obtain ⟨cO,aV,hm⟩:=Q7 hm
 rcases Q2k hm with ⟨aT,hm⟩ | ⟨aT,hm⟩
 refine QV [0,1,2,3,4,5,6,7,8,9,10,11,12,13,14,15,16,17,18,19,20,21,22,24,25,26,27,29,30] Z Z (fun hok=>(xP hok 0 Z (xP hok 1 Z (Q1o hok 2 0 j Z Z Z Zq Z Z Z Z Z Z aV QG Qg (fun bI bJ b8 aW=>(Q1u Qb 1 Z (fun bK aM _=>?_)))))))
 subst aM
 refine Qm hok 3 Z Z Z Zq Z Z Z Q22 (Q1I hok 4 1 0 Z Z Z Zq Z Z Z Z (cs:=[_]) Z Q1i Q2d Z Z (xP hok 5 Z (xP hok 6 Z (Q1g (d:=20) (v':=.bool true) (S':=V10 ..) Z Z (Q16 aT) (xO hok 7 Z (xO hok 8 Z (xO hok 9 Z (xO hok 10 Z (xO hok 11 Z (xO hok 12 Z (xO hok 13 Z (xO hok 14 Z (xO hok 15 Z ?_)))))))))))))
 refine xO hok 16 Z (xO hok 17 Z (xO hok 18 Z (xP hok 19 Z (xP hok 20 Z (xO hok 21 Z (xO hok 22 Z (xO hok 24 Z (xO hok 25 Z (xO hok 26 Z (xO hok 27 Z (xS hok 23 Z (wO Z (Q2 ?_)))))))))))))
 refine Qs [0,1,2,3,4] [] Z Z (xS hok 28 Z (wO Z (Q2 (Qs [0,1,2,3,4] [] Z Z (xO hok 29 Z (xP hok 30 Z (QI hok Z ?_)))))))
 have hE:=(Zi hm).symm
 refine Qp true hE [6,5,0,1,44] Z (asK [3,4] Z) Z
 obtain ⟨cP,b9,hm⟩:=Q7 hm
 rcases Q2k hm with ⟨aX,hm⟩ | ⟨aX,hm⟩
 refine QV [0,1,2,3,4,5,6,7,8,9,10,11,12,13,14,15,16,17,18,19,20,21,22,24,25,26,27,29,30] Z Z (fun hok=>(xP hok 0 Z (xP hok 1 Z (Q1o hok 2 0 j Z Z Z Zq Z Z Z Z Z Z aV QG Qg (fun bI bJ b8 aW=>(Q1u Qb 1 Z (fun bK aM _=>?_)))))))
 subst aM
 refine Qm hok 3 Z Z Z Zq Z Z Z Q22 (Q1I hok 4 1 0 Z Z Z Zq Z Z Z Z (cs:=[_]) Z Q1i Q2d Z Z (xP hok 5 Z (xP hok 6 Z (Q1g (d:=20) (v':=.bool false) (S':=V10 ..) Z Z (Q16 aT) (xP hok 7 Z (xP hok 8 Z (Q1o hok 9 3 j Z Z Z Zq Z Z Z Z Z Z b9 QG Qg (fun c2 c3 bL bD=>(Q1u Qb 1 Z (fun c4 aY _=>?_))))))))))
 subst aY
 refine Qm hok 10 Z Z Z Zq Z Z Z Q22 (Q1I hok 11 1 0 Z Z Z Zq Z Z Z Z (cs:=[_]) Z Q1i Q2d Z Z (xP hok 12 Z (xP hok 13 Z (Qm hok 14 Z Z Z Zq Z Z Z tF_70_0 (Qm hok 15 Z Z Z Zq Z Z Z Q4a (Qr hok 16 1 1 Z Z Z Zq Z Z Z Z (cs:=[_]) Z Q7q Q85 Z Z (Q6E 3 Z (fun aZ _=>(Q3r hok 17 Z Z Z Zq Z Z Z Q60 (Q1g (d:=31) (v':=.int .i64 ((l1.length:Nat):Int)) (S':=V21 ..) Z Z (Q3F aZ) (xP hok 18 Z (xP hok 19 Z (xP hok 20 Z (Q1g (d:=34) (v':=.bool true) (S':=V24 ..) Z Z (Q16 aX) ?_))))))))))))))
 refine xO hok 21 Z (xO hok 22 Z (xO hok 24 Z (xO hok 25 Z (xO hok 26 Z (xO hok 27 Z (xS hok 23 Z (wO Z (Q2 (Qs [0,1,2,3,4,5,6,7] [1] Z Z (xS hok 28 Z (wO Z (Q2 (Qs [0,1,2,3,4,5,6,7] [1] Z Z ?_)))))))))))))
 refine xO hok 29 Z (xP hok 30 Z (QI hok Z ?_))
 have hE:=(Zi hm).symm
 refine Qp true hE [6,5,0,1,44] Z (asK [6,7] Z) Z
 obtain ⟨bM,hm⟩:=Qd hm
 obtain ⟨bN,bO,hm⟩:=Q7 hm
 obtain ⟨c5,bP,hm⟩:=Q7 hm
 refine QV [0,1,2,3,4,5,6,7,8,9,10,11,12,13,14,15,16,17,18,19,20,21,22,24,25,26,27,29,30] Z Z (fun hok=>(xP hok 0 Z (xP hok 1 Z (Q1o hok 2 0 j Z Z Z Zq Z Z Z Z Z Z aV QG Qg (fun bI bJ b8 aW=>(Q1u Qb 1 Z (fun bK aM _=>?_)))))))
 subst aM
 refine Qm hok 3 Z Z Z Zq Z Z Z Q22 (Q1I hok 4 1 0 Z Z Z Zq Z Z Z Z (cs:=[_]) Z Q1i Q2d Z Z (xP hok 5 Z (xP hok 6 Z (Q1g (d:=20) (v':=.bool false) (S':=V10 ..) Z Z (Q16 aT) (xP hok 7 Z (xP hok 8 Z (Q1o hok 9 3 j Z Z Z Zq Z Z Z Z Z Z b9 QG Qg (fun c2 c3 bL bD=>(Q1u Qb 1 Z (fun c4 aY _=>?_))))))))))
 subst aY
 refine Qm hok 10 Z Z Z Zq Z Z Z Q22 (Q1I hok 11 1 0 Z Z Z Zq Z Z Z Z (cs:=[_]) Z Q1i Q2d Z Z (xP hok 12 Z (xP hok 13 Z (Qm hok 14 Z Z Z Zq Z Z Z tF_70_0 (Qm hok 15 Z Z Z Zq Z Z Z Q4a (Qr hok 16 1 1 Z Z Z Zq Z Z Z Z (cs:=[_]) Z Q7q Q85 Z Z (Q6E 3 Z (fun aZ _=>(Q3r hok 17 Z Z Z Zq Z Z Z Q60 (Q1g (d:=31) (v':=.int .i64 ((l1.length:Nat):Int)) (S':=V21 ..) Z Z (Q3F aZ) (xP hok 18 Z (xP hok 19 Z (xP hok 20 Z (Q1g (d:=34) (v':=.bool false) (S':=V24 ..) Z Z (Q16 aX) ?_))))))))))))))
 refine xP hok 21 Z (xP hok 22 Z (xP hok 24 Z (xP hok 25 Z (Q1o hok 26 6 j Z Z Z Zq Z Z Z Z Z Z bO QG Qg (fun cQ cR cK c6=>(Q1u Qb 1 Z (fun bQ bR _=>?_)))))))
 subst bR
 refine Q1I hok 27 1 0 Z Z Z Zq Z Z Z Z (cs:=[_,_]) Z Qg QT Z Z (xS hok 23 Z (wl_sliTo 9 Z Z Z Zq Z Z Z Z Z QG Qg bM (fun c7=>(Q2 (Qs [1,2,3,4,5,6,7,8,9,10,11] [1] Z Z (xS hok 28 Z (wC [] [0,1,2,3,4,5] Z fn_50 Z (Q4Z N c7 a6 (l4.take j) bN.rule bQ.1 bQ.2 bN.ids _ bP) (asK [0,1,11] Z) Z (H':=V6 ..) Z ?_)))))))
 rintro _ _ _ ⟨rfl,rfl,rfl⟩
 refine Q2 (Qs [0,1,2,3,4,5,6,7,8,9,10,11] [1] Z Z (xP hok 29 Z (xP hok 30 Z (QI hok Z ?_))))
 have hE:=(Zi hm).symm
 refine Qp (decide (c5 ≥ 0)) hE [6,5,0,1,44] Z (asK [10,11] Z) Z
 rintro aB hE
 try dsimp only
 have hm:=hLj_3
 try rw [hE] at hm
 refine Qv Z (fun b0=>?_) (fun b0=>?_)
 replace hm:=Q1m hm b0
 refine Q5 [] (S':=[]) Z (Q6 (Q3 (wP Z (Q2 (Q4 (QJ (Qj (QR (Qj (Qj (QR (Qj ?_))))))))))))
 have hE:=(Zi hm).symm
 replace hE:=QE hLj_2 hE
 replace hE:=QE hLu1 hE
 replace hE:=QE hLj_1 hE
 obtain ⟨hE0,hF1⟩:=Prod.mk.inj hE
 obtain ⟨hE1,hE2⟩:=Prod.mk.inj hF1
 clear hE hF1
 replace hE0:=hE0.symm
 subst hE0
 replace hE1:=hE1.symm
 subst hE1
 replace hE2:=hE2.symm
 subst hE2
 refine QA (Hr:=V5 ..) [1,2,3,4,5] Tryz.results28 (Qy Z) ⟨aI,aJ,aL,a7,a9,a8,Z,Z,Z⟩ (asK [] Z) Z Z (.inl Z)
 replace hm:=Q1l hm b0
 refine Q5 [6,5,0,1] (S':=V4 ..) Z (Qt (Q4 (Q6 ?_)))
 obtain ⟨bS,bT,hm⟩:=Q7 hm
 obtain ⟨bU,bV,hm⟩:=Q7 hm
 refine QV [0,1,2,3,4,5,6,7] Z Z (fun hok=>(xP hok 0 Z (xP hok 1 Z (Qm hok 2 Z Z Z Zq Z Z Z Q8h (Qr hok 3 1 2 Z Z Z Zq Z Z Z Z (cs:=[_]) Z Q1O Q2I Z Z (xP hok 4 Z (xP hok 5 Z (Q1o hok 6 0 j Z Z Z Zq Z Z Z Z Z Z bT QG Qg (fun cS cT cL c8=>(Q1u Qb 1 Z (fun bW bX _=>?_)))))))))))
 subst bX
 refine Q1I hok 7 1 0 Z Z Z Zq Z Z Z Z (cs:=[_,_]) Z Qg QT Z Z (xS hok 8 Z (QQ 4 Z (fun bE _=>?_)))
 subst bE
 refine Q1y [] [0,1,2,3,4,5] [4] Z Z Z Zq Z Z fn_50 Z (Q4Z N aI aJ l2 bS.rule bW.1 bW.2 bS.ids _ bV) (fun F w hφ hh=>(Qe (Q1d (hh _ (Qo (k:=0) Z))) (Qe (hφ _ (Qo (k:=0) Z)) (Qe (hφ _ (Qo (k:=4) Z)) Ql)))) (fun _ _ _ hR=>by obtain ⟨rfl,rfl,rfl⟩:=hR; exact ⟨Z,(fun _ h=>Q1q h)⟩) Z Z (H':=V6 ..) Z ?_
 rintro _ _ _ ⟨rfl,rfl,rfl⟩
 refine Q2 (Qs [0,1,2,3,4] [] Z Z (xS hok 9 Z (wP Z (Q2 (Qs [0,1,2,3,4] [] Z Z (QI hok Z (Q4 (Q5 [7,6,5,0,1] (S':=V5 ..) Z (Q3 (wP Z (wP Z (wP Z (wP Z ?_)))))))))))))
 refine Q28 (d:=57) (S':=V8 ..) Z Z (fun b1=>?_) (fun b1=>?_)
 replace hm:=Q1m hm b1
 refine wP Z (wP Z (wF Z Q8w (wD 1 3 Z tS_68 tA_68 Z (wP Z ?_))))
 obtain ⟨bY,hm⟩:=Qd hm
 obtain ⟨aQ,bA,hm⟩:=Q7 hm
 refine Q24 5 bU.toNat Z Z Z Zq Z Z Z Z (QK bY) (QB bA) tE_68 tS_4 (fun cU bZ=>?_)
 subst bZ
 refine Qk Q40 5 bU.toNat 0 Z Z Z Zq Z Z Z bA tS_4 tA_4 (v:=fun _=>.bool aQ) (fun _=>Z) (fun _=>Z) (fun _ _=>(wP Z (Qq Z Z Z Zq Z tE_68 tS_4 tZ_4 Z (zs:=[.bool false]) (by kernel_rfl) Z (out:=[_]) Z (fun c9=>?_))))
 obtain ⟨aN,hm⟩:=Qd hm
 refine Q21 [aQ] 1 0 Z Z Z Zq Z Z Z Z Z (fun F w hφ=>⟨[.bool aQ],[],Z,Z,⟨(),Z,Ql⟩,Z⟩) tE_68 tR_4 Z Z (Nat.le_trans aN (by decide)) (Nat.le_trans (Nat.mul_le_mul_right _ aN) (by decide)) (H2:=fun aR aS=>[_,.own 4 1 Q13 (.slice aR ((f ++ [aQ]).length) aS) (f ++ [aQ]),_,_,_,_,_]) (fun _ _=>Z) (fun aR aS=>(Q2J 0 Z (H':=V6 ..) Z (QM (S':=V18 ..) Z Z Z Z Z (Q2 (Qi ?_)))))
 have hE:=(Zi hm).symm
 refine Qp (f ++ [aQ],aR,aS,(f ++ [aQ]).length) hE [6,5,0,1] Z (asK [3,4] Z) Z
 replace hm:=Q1l hm b1
 refine wO Z (wO Z (wO Z (wO Z (wO Z (wO Z (wO Z (wP Z (Qq Z Z Z Zq Z tE_68 tS_4 tZ_4 Z (zs:=[.bool false]) (by kernel_rfl) Z (out:=[_]) Z (fun c9=>?_)))))))))
 obtain ⟨aN,hm⟩:=Qd hm
 refine Q21 [false] 1 0 Z Z Z Zq Z Z Z Z Z (fun F w hφ=>⟨[.bool false],[],Z,Z,⟨(),Z,Ql⟩,Z⟩) tE_68 tR_4 Z Z (Nat.le_trans aN (by decide)) (Nat.le_trans (Nat.mul_le_mul_right _ aN) (by decide)) (H2:=fun aR aS=>[_,.own 4 1 Q13 (.slice aR ((f ++ [false]).length) aS) (f ++ [false]),_,_,_,_,_]) (fun _ _=>Z) (fun aR aS=>(Q2J 0 Z (H':=V6 ..) Z (QM (S':=V18 ..) Z Z Z Z Z (Q2 (Qi ?_)))))
 have hE:=(Zi hm).symm
 refine Qp (f ++ [false],aR,aS,(f ++ [false]).length) hE [6,5,0,1] Z (asK [3,4] Z) Z
 rintro ⟨a1,a2,a3,a4⟩ hE
 try dsimp only
 have hm:=Q11 hLj_2 hE
 refine Q3 (wP Z (wP Z ?_))
 obtain ⟨c0,hm⟩:=Qd hm
 refine Qx (d:=13) (v':=.int .i64 ((j + 1:Nat):Int)) (S':=V5 ..) Z Z (Q1f (a:=j) (b:=1) c0) (QM (S':=V5 ..) Z Z Z Z Z (Q2 ?_))
 have hE:=(Zi hm).symm
 replace hE:=Q11 hLu1 hE
 refine Q14 (_,j + 1,a1,a2,a3,a4) (Nat.lt_succ_self _) hE [6,5,0,1] Z (asK [0,1] Z) Z
 replace hm:=Q1l hm aU
 refine Q5 [5,0,1] (S':=V3 ..) Z (Q19 (Qc (Qc (Qu ?_))))
 have hE:=(Zi hm).symm
 replace hE:=QE hLu1 hE
 refine Q17 [1,2,3,4,5,0] Z (H':=V6 ..) Z ?_
 refine Qp (f,o,q,s) hE [0,1,5] Z (asK [0,1] Z) Z
 rintro ⟨a5,y,z,a0⟩ hE
 try dsimp only
 have hm:=Q11 hLj_1 hE
 refine Q6 (Q3 (wP Z (wP Z ?_)))
 obtain ⟨cA,c1,hm⟩:=Q7 hm
 refine wC [] [0,1,2,3,4,5] Z fn_51 Z (Q9n N aA a6 l4 _ c1) (asK [0] Z) Z (H':=V6 ..) Z ?_
 rintro _ _ _ ⟨b2,b3,b4,rfl,rfl,rfl⟩
 refine wP Z (wF Z Q8h (wS 1 2 Z Q1O (all':=V4 ..) Z (H':=V7 ..) Z (Q2 (Q4 (Q5 [0,5] (S':=[_,_]) Z (Q6 (Q3 (wP Z (wP Z (wP Z (wF Z Q8w (wS 1 3 Z tS_68 (all':=V4 ..) Z (H':=V7 ..) Z (Q2 ?_)))))))))))))
 refine Q4 (Q5 [] (S':=[]) Z (Q6 (Q3 (wP Z (Q2 (Q4 (QJ ?_)))))))
 have hE:=(Zi hm).symm
 obtain ⟨hE0,hF1⟩:=Prod.mk.inj hE
 obtain ⟨hE1,hE2⟩:=Prod.mk.inj hF1
 clear hE hF1
 replace hE0:=hE0.symm
 subst hE0
 replace hE1:=hE1.symm
 subst hE1
 replace hE2:=hE2.symm
 subst hE2
 refine Q6J [.own 45 2 Q8 (.slice b2 b4 b3) cA,_,_,_,_,_,_] (fun _ h=>h.letgo Q3a 0 Z) ?_
 refine QA (Hr:=V5 ..) [1,2,3,0,6] Tryz.results28 (Qy Z) ⟨b2,b3,b4,y,z,a0,Z,Z,Z⟩ (asK [] Z) Z Z (.inl Z)
theorem Q8V (N:Nat) (aV:OA) (a6:Nat) (l0:List Qz) (k1:Nat) (a7:OA) (a8:Nat) (j:List Q1) (o0:Bool) (hm:Q5z N l0 k1 j = some o0):Q1z Tryz.prog 29 [.slice aV k1 a6,.slice a7 j.length a8] [.sli 2 Q7M aV a6 l0,.sli 2 Q8 a7 a8 j] [] (fun v Φr Hr=>v = .bool o0 ∧ Φr = [] ∧ Hr = []):=by
 unfold Q5z at hm
 refine Q12 Tryz.func29 Z Tryz.ntmps29 Z (S:=[_,_]) Z (fun C=>(Q6 (Q3 (wP Z (Q2 (Q4 (Q5 [0,1] (S':=[_,_]) Z (Q6 (Q6 (Q3 (wP Z (wN Z QG (wP Z (wN Z QG ?_))))))))))))))
 refine wP Z (Qx (d:=11) (v':=.bool (k1 != j.length)) (S':=V6 ..) Z Z (Q8e (a:=k1) (b:=j.length)) (Q2 (Q4 (Q5 [11,0,1] (S':=V3 ..) Z ?_))))
 refine Qv Z (fun aA=>?_) (fun aA=>?_)
 replace hm:=Q1m hm aA
 refine Q5 [] (S':=[]) Z (Q6 (Q3 (wP Z (Q2 (Q4 (QJ (Qj ?_)))))))
 have hE:=(Zi hm).symm
 replace hE:=hE.symm
 subst hE
 refine QA (Hr:=[]) [] Tryz.results29 (Qy Z) ⟨Z,Z,Z⟩ (asK [] Z) Z Z (.inl Z)
 replace hm:=Q1l hm aA
 refine Q5 [0,1] (S':=[_,_]) Z (Qt (Q4 (Q6 (Q3 (wP Z (wP Z (wN Z QG (wP Z ?_))))))))
 obtain ⟨aW,hm⟩:=Qd hm
 refine Qx (d:=15) (v':=.int .i64 ((j.length + 12:Nat):Int)) (S':=V5 ..) Z Z (Q1f (a:=j.length) (b:=12) aW) ?_
 obtain ⟨aX,hm⟩:=Qd hm
 refine wl_sliToF 0 Z Z Z Zq Z Z Z Z Z QG Qg aX (fun aP=>(wP Z (Q2 (Q4 (Q5 [5,1] (S':=[_,_]) Z (Q6 ?_))))))
 obtain ⟨aQ,hm,hLj_1⟩:=Q1R hm
 refine Q15 (σ:=Unit) (fun _=>aQ = .inl ()) (fun _=>[]) (fun _=>[]) (fun _=>[]) ?_ ?_
 refine Q6 (Q3 (wP Z (Q2 (Q4 (Qn (Q1b (σ:=Nat × Nat) (fun (a4,f)=>Q1B (Q4F N l0 j) a4 f = some aQ) (fun (a4,f)=>a4) (fun (a4,f)=>[(6,.int .i64 ((f:Nat):Int)),(5,.slice aP ((l0.take (j.length + 12)).length) a6),(1,.slice a7 j.length a8)]) (fun (a4,f)=>[.sli 2 Q7M aP a6 (l0.take (j.length + 12)),.sli 2 Q8 a7 a8 j]) (fun (a4,f)=>[]) (N,0) hm [6,5,1] Z (asK [0,2] Z) Z (fun s_ hm=>?_)))))))
 obtain ⟨a4,f⟩:=s_
 try dsimp only at hm ⊢
 obtain ⟨bA,bB,aY,hq,hLu1⟩:=Q18 hm
 clear hm
 subst aY
 replace hm:=hq
 clear hq
 unfold Q4F at hm
 try dsimp only at hm
 refine Q6 (Q6 (Q3 (wP Z (wP Z (wN Z QG (wP Z (Qx (d:=20) (v':=.bool (decide (f < ((l0.take (j.length + 12)).length)))) (S':=V6 ..) Z Z (Q20 (a:=f) (b:=(l0.take (j.length + 12)).length)) (Q2 (Q4 (Q5 [20,6,5,1] (S':=V4 ..) Z ?_))))))))))
 refine Qv Z (fun aB=>?_) (fun aB=>?_)
 replace hm:=Q1m hm aB
 refine Q5 [6,5,1] (S':=V3 ..) Z (Qt (Q4 (Q6 (Qn (Q6 ?_)))))
 obtain ⟨aZ,hm,hLj_2⟩:=Q7 hm
 unfold Q6F at hm
 refine Q15 (σ:=Bool) (fun o=>aZ = o) (fun o=>[(6,.int .i64 ((f:Nat):Int)),(5,.slice aP ((l0.take (j.length + 12)).length) a6),(1,.slice a7 j.length a8),(57,.bool o)]) (fun o=>[.sli 2 Q7M aP a6 (l0.take (j.length + 12)),.sli 2 Q8 a7 a8 j]) (fun o=>[]) ?_ ?_
 rcases Q2k hm with ⟨y,hm⟩ | ⟨y,hm⟩
 obtain ⟨q,aC,hm⟩:=Q7 hm
 obtain ⟨a9,aD,hm⟩:=Q7 hm
 obtain ⟨bC,aE,hm⟩:=Q7 hm
 rcases Q2k hm with ⟨a5,hm⟩ | ⟨a5,hm⟩
 refine QV [0,1,2,3,4,5,6,7,8,9,10,11,12,14,15,16,17,18,19,20,21,22,23,24,25,26,27,28,29,32,33,34] Z Z (fun hok=>(xP hok 0 Z (xP hok 1 Z (Q3r hok 2 Z Z Z Zq Z Z Z QG (xP hok 3 Z (Q1g (d:=26) (v':=.bool (decide (f < j.length))) (S':=V6 ..) Z Z (Q20 (a:=f) (b:=j.length)) (xP hok 4 Z (Q1g (d:=27) (v':=.bool true) (S':=V7 ..) Z Z (Q16 y) (xP hok 5 Z (xP hok 6 Z (Q1o hok 7 0 f Z Z Z Zq Z Z Z Z Z Z aC QG Qg (fun b0 b1 aR aF=>(Q1u Q55 1 Z (fun a0 a1 _=>?_))))))))))))))
 subst a1
 refine Q1I hok 8 1 0 Z Z Z Zq Z Z Z Z (cs:=[_,_]) Z Qg QT Z Z (xP hok 9 Z (xP hok 10 Z (Q1o hok 11 4 f Z Z Z Zq Z Z Z Z Z Z aD QG Qg (fun b2 b3 aS aG=>(Q1u Qb 1 Z (fun a2 a3 _=>?_))))))
 subst a3
 refine Q1I hok 12 1 0 Z Z Z Zq Z Z Z Z (cs:=[_,_]) Z Qg QT Z Z (xS hok 13 Z (wC [] [] Z fn_39 Z (Q3f N q.rule a0.1 a0.2 (q.ids ++ q.idsT) q.ids.length a9.rule a2.1 a2.2 a9.ids _ aE) (asK [3,0] Z) Z (H':=[]) Z ?_))
 rintro _ _ _ ⟨rfl,rfl,rfl⟩
 refine Q2 (Qs [0,1,2,3,4,5,6,7] [] Z Z (xP hok 14 Z (xP hok 15 Z (xP hok 16 Z (Q1g (d:=39) (v':=.bool true) (S':=V19 ..) Z Z (Q16 a5) (xO hok 17 Z (xO hok 18 Z (xO hok 19 Z (xO hok 20 Z (xO hok 21 Z (xO hok 22 Z (xO hok 23 Z (xO hok 24 Z ?_)))))))))))))
 refine xO hok 25 Z (xO hok 26 Z (xO hok 27 Z (xO hok 28 Z (xO hok 29 Z (xS hok 30 Z (wO Z (Q2 (Qs [0,1,2,3,4,5,6,7] [] Z Z (xS hok 31 Z (wO Z (Q2 (Qs [0,1,2,3,4,5,6,7] [] Z Z (xO hok 32 Z ?_)))))))))))))
 refine xO hok 33 Z (xP hok 34 Z (QI hok Z ?_))
 have hE:=(Zi hm).symm
 refine Qp true hE [6,5,1,57] Z (asK [6,7] Z) Z
 rcases Q2k hm with ⟨s,hm⟩ | ⟨s,hm⟩
 obtain ⟨z,aH,hm⟩:=Q7 hm
 obtain ⟨aI,hm⟩:=Qd hm
 obtain ⟨_,aJ,hm⟩:=Q7 hm
 try dsimp only at hm
 obtain ⟨aT,aK,hm⟩:=Q7 hm
 refine QV [0,1,2,3,4,5,6,7,8,9,10,11,12,14,15,16,17,18,19,20,21,22,23,24,25,26,27,28,29,32,33,34] Z Z (fun hok=>(xP hok 0 Z (xP hok 1 Z (Q3r hok 2 Z Z Z Zq Z Z Z QG (xP hok 3 Z (Q1g (d:=26) (v':=.bool (decide (f < j.length))) (S':=V6 ..) Z Z (Q20 (a:=f) (b:=j.length)) (xP hok 4 Z (Q1g (d:=27) (v':=.bool true) (S':=V7 ..) Z Z (Q16 y) (xP hok 5 Z (xP hok 6 Z (Q1o hok 7 0 f Z Z Z Zq Z Z Z Z Z Z aC QG Qg (fun b0 b1 aR aF=>(Q1u Q55 1 Z (fun a0 a1 _=>?_))))))))))))))
 subst a1
 refine Q1I hok 8 1 0 Z Z Z Zq Z Z Z Z (cs:=[_,_]) Z Qg QT Z Z (xP hok 9 Z (xP hok 10 Z (Q1o hok 11 4 f Z Z Z Zq Z Z Z Z Z Z aD QG Qg (fun b2 b3 aS aG=>(Q1u Qb 1 Z (fun a2 a3 _=>?_))))))
 subst a3
 refine Q1I hok 12 1 0 Z Z Z Zq Z Z Z Z (cs:=[_,_]) Z Qg QT Z Z (xS hok 13 Z (wC [] [] Z fn_39 Z (Q3f N q.rule a0.1 a0.2 (q.ids ++ q.idsT) q.ids.length a9.rule a2.1 a2.2 a9.ids _ aE) (asK [3,0] Z) Z (H':=[]) Z ?_))
 rintro _ _ _ ⟨rfl,rfl,rfl⟩
 refine Q2 (Qs [0,1,2,3,4,5,6,7] [] Z Z (xP hok 14 Z (xP hok 15 Z (xP hok 16 Z (Q1g (d:=39) (v':=.bool false) (S':=V19 ..) Z Z (Q16 a5) (xP hok 17 Z (xP hok 18 Z (Q3r hok 19 Z Z Z Zq Z Z Z QG (xP hok 20 Z (Q1g (d:=43) (v':=.bool (decide (j.length ≤ f))) (S':=V23 ..) Z Z (natge (a:=f) (b:=j.length)) (xP hok 21 Z (Q1g (d:=44) (v':=.bool true) (S':=V24 ..) Z Z (Q16 s) (xP hok 22 Z ?_)))))))))))))
 refine xP hok 23 Z (Q1o hok 24 6 f Z Z Z Zq Z Z Z Z Z Z aH QG Qg (fun b7 b8 b4 aU=>(Q1u Q55 1 Z (fun aL aM _=>?_))))
 subst aM
 refine Q1I hok 25 1 0 Z Z Z Zq Z Z Z Z (cs:=[_,_]) Z Qg QT Z Z (xP hok 26 Z (xP hok 27 Z (Q3r hok 28 Z Z Z Zq Z Z Z QG (xP hok 29 Z (Q1g (d:=52) (v':=.int .i64 (((f:Nat):Int) - ((j.length:Nat):Int))) (S':=V32 ..) Z Z (i64_in aI) (xS hok 30 Z (wC [] [] Z fn_49 Z (Q3E N 1 (((f:Nat):Int) - ((j.length:Nat):Int)) aJ) (asK [] Z) Z (H':=[]) Z ?_)))))))
 rintro _ _ _ ⟨rfl,rfl,rfl⟩
 refine Q2 (Qs [0,1,2,3,4,5,6,7,8,9,10] [] Z Z (xS hok 31 Z (Q2j (.sli 1 Qh none 0 ([] : List Int)) (fun _ _ _=>Q2m) (wC [] [] Z fn_13 Z (Q5k N z.rule aL.1 aL.2 (z.ids ++ z.idsT) z.ids.length (IntKind.wrap .i64 ((IntKind.wrap .i64 (1000003 * (IntKind.wrap .i64 (1 + 7)))) + (((f:Nat):Int) - ((j.length:Nat):Int)))) none 0 ([] : List Int) _ aK) (asK [1,0] Z) Z (H':=[]) Z ?_))))
 rintro _ _ _ ⟨rfl,rfl,rfl⟩
 refine Q2 (Qs [1,2,3,4,5,6,7,8,9,10,11] [] Z Z (xP hok 32 Z (xP hok 33 Z (xP hok 34 Z (QI hok Z ?_)))))
 have hE:=(Zi hm).symm
 refine Qp (!aT) hE [6,5,1,57] Z (asK [10,11] Z) Z
 refine QV [0,1,2,3,4,5,6,7,8,9,10,11,12,14,15,16,17,18,19,20,21,22,23,24,25,26,27,28,29,32,33,34] Z Z (fun hok=>(xP hok 0 Z (xP hok 1 Z (Q3r hok 2 Z Z Z Zq Z Z Z QG (xP hok 3 Z (Q1g (d:=26) (v':=.bool (decide (f < j.length))) (S':=V6 ..) Z Z (Q20 (a:=f) (b:=j.length)) (xP hok 4 Z (Q1g (d:=27) (v':=.bool true) (S':=V7 ..) Z Z (Q16 y) (xP hok 5 Z (xP hok 6 Z (Q1o hok 7 0 f Z Z Z Zq Z Z Z Z Z Z aC QG Qg (fun b0 b1 aR aF=>(Q1u Q55 1 Z (fun a0 a1 _=>?_))))))))))))))
 subst a1
 refine Q1I hok 8 1 0 Z Z Z Zq Z Z Z Z (cs:=[_,_]) Z Qg QT Z Z (xP hok 9 Z (xP hok 10 Z (Q1o hok 11 4 f Z Z Z Zq Z Z Z Z Z Z aD QG Qg (fun b2 b3 aS aG=>(Q1u Qb 1 Z (fun a2 a3 _=>?_))))))
 subst a3
 refine Q1I hok 12 1 0 Z Z Z Zq Z Z Z Z (cs:=[_,_]) Z Qg QT Z Z (xS hok 13 Z (wC [] [] Z fn_39 Z (Q3f N q.rule a0.1 a0.2 (q.ids ++ q.idsT) q.ids.length a9.rule a2.1 a2.2 a9.ids _ aE) (asK [3,0] Z) Z (H':=[]) Z ?_))
 rintro _ _ _ ⟨rfl,rfl,rfl⟩
 refine Q2 (Qs [0,1,2,3,4,5,6,7] [] Z Z (xP hok 14 Z (xP hok 15 Z (xP hok 16 Z (Q1g (d:=39) (v':=.bool false) (S':=V19 ..) Z Z (Q16 a5) (xP hok 17 Z (xP hok 18 Z (Q3r hok 19 Z Z Z Zq Z Z Z QG (xP hok 20 Z (Q1g (d:=43) (v':=.bool (decide (j.length ≤ f))) (S':=V23 ..) Z Z (natge (a:=f) (b:=j.length)) (xP hok 21 Z (Q1g (d:=44) (v':=.bool false) (S':=V24 ..) Z Z (Q16 s) (xO hok 22 Z ?_)))))))))))))
 refine xO hok 23 Z (xO hok 24 Z (xO hok 25 Z (xO hok 26 Z (xO hok 27 Z (xO hok 28 Z (xO hok 29 Z (xS hok 30 Z (wO Z (Q2 (Qs [0,1,2,3,4,5,6,7] [] Z Z (xS hok 31 Z (wO Z (Q2 ?_)))))))))))))
 refine Qs [0,1,2,3,4,5,6,7] [] Z Z (xO hok 32 Z (xP hok 33 Z (xP hok 34 Z (QI hok Z ?_))))
 have hE:=(Zi hm).symm
 refine Qp false hE [6,5,1,57] Z (asK [6,7] Z) Z
 rcases Q2k hm with ⟨s,hm⟩ | ⟨s,hm⟩
 obtain ⟨z,aH,hm⟩:=Q7 hm
 obtain ⟨aI,hm⟩:=Qd hm
 obtain ⟨_,aJ,hm⟩:=Q7 hm
 try dsimp only at hm
 obtain ⟨aT,aK,hm⟩:=Q7 hm
 refine QV [0,1,2,3,4,5,6,7,8,9,10,11,12,14,15,16,17,18,19,20,21,22,23,24,25,26,27,28,29,32,33,34] Z Z (fun hok=>(xP hok 0 Z (xP hok 1 Z (Q3r hok 2 Z Z Z Zq Z Z Z QG (xP hok 3 Z (Q1g (d:=26) (v':=.bool (decide (f < j.length))) (S':=V6 ..) Z Z (Q20 (a:=f) (b:=j.length)) (xP hok 4 Z (Q1g (d:=27) (v':=.bool false) (S':=V7 ..) Z Z (Q16 y) (xO hok 5 Z (xO hok 6 Z (xO hok 7 Z (xO hok 8 Z (xO hok 9 Z (xO hok 10 Z ?_))))))))))))))
 refine xO hok 11 Z (xO hok 12 Z (xS hok 13 Z (wO Z (Q2 (Qs [0,1] [] Z Z (xO hok 14 Z (xP hok 15 Z (xP hok 16 Z (xP hok 17 Z (xP hok 18 Z (Q3r hok 19 Z Z Z Zq Z Z Z QG (xP hok 20 Z (Q1g (d:=43) (v':=.bool (decide (j.length ≤ f))) (S':=V23 ..) Z Z (natge (a:=f) (b:=j.length)) ?_)))))))))))))
 refine xP hok 21 Z (Q1g (d:=44) (v':=.bool true) (S':=V24 ..) Z Z (Q16 s) (xP hok 22 Z (xP hok 23 Z (Q1o hok 24 0 f Z Z Z Zq Z Z Z Z Z Z aH QG Qg (fun b7 b8 b4 aU=>(Q1u Q55 1 Z (fun aL aM _=>?_)))))))
 subst aM
 refine Q1I hok 25 1 0 Z Z Z Zq Z Z Z Z (cs:=[_,_]) Z Qg QT Z Z (xP hok 26 Z (xP hok 27 Z (Q3r hok 28 Z Z Z Zq Z Z Z QG (xP hok 29 Z (Q1g (d:=52) (v':=.int .i64 (((f:Nat):Int) - ((j.length:Nat):Int))) (S':=V32 ..) Z Z (i64_in aI) (xS hok 30 Z (wC [] [] Z fn_49 Z (Q3E N 1 (((f:Nat):Int) - ((j.length:Nat):Int)) aJ) (asK [] Z) Z (H':=[]) Z ?_)))))))
 rintro _ _ _ ⟨rfl,rfl,rfl⟩
 refine Q2 (Qs [0,1,2,3,4] [] Z Z (xS hok 31 Z (Q2j (.sli 1 Qh none 0 ([] : List Int)) (fun _ _ _=>Q2m) (wC [] [] Z fn_13 Z (Q5k N z.rule aL.1 aL.2 (z.ids ++ z.idsT) z.ids.length (IntKind.wrap .i64 ((IntKind.wrap .i64 (1000003 * (IntKind.wrap .i64 (1 + 7)))) + (((f:Nat):Int) - ((j.length:Nat):Int)))) none 0 ([] : List Int) _ aK) (asK [1,0] Z) Z (H':=[]) Z ?_))))
 rintro _ _ _ ⟨rfl,rfl,rfl⟩
 refine Q2 (Qs [1,2,3,4,5] [] Z Z (xP hok 32 Z (xP hok 33 Z (xP hok 34 Z (QI hok Z ?_)))))
 have hE:=(Zi hm).symm
 refine Qp (!aT) hE [6,5,1,57] Z (asK [4,5] Z) Z
 refine QV [0,1,2,3,4,5,6,7,8,9,10,11,12,14,15,16,17,18,19,20,21,22,23,24,25,26,27,28,29,32,33,34] Z Z (fun hok=>(xP hok 0 Z (xP hok 1 Z (Q3r hok 2 Z Z Z Zq Z Z Z QG (xP hok 3 Z (Q1g (d:=26) (v':=.bool (decide (f < j.length))) (S':=V6 ..) Z Z (Q20 (a:=f) (b:=j.length)) (xP hok 4 Z (Q1g (d:=27) (v':=.bool false) (S':=V7 ..) Z Z (Q16 y) (xO hok 5 Z (xO hok 6 Z (xO hok 7 Z (xO hok 8 Z (xO hok 9 Z (xO hok 10 Z ?_))))))))))))))
 refine xO hok 11 Z (xO hok 12 Z (xS hok 13 Z (wO Z (Q2 (Qs [0,1] [] Z Z (xO hok 14 Z (xP hok 15 Z (xP hok 16 Z (xP hok 17 Z (xP hok 18 Z (Q3r hok 19 Z Z Z Zq Z Z Z QG (xP hok 20 Z (Q1g (d:=43) (v':=.bool (decide (j.length ≤ f))) (S':=V23 ..) Z Z (natge (a:=f) (b:=j.length)) ?_)))))))))))))
 refine xP hok 21 Z (Q1g (d:=44) (v':=.bool false) (S':=V24 ..) Z Z (Q16 s) (xO hok 22 Z (xO hok 23 Z (xO hok 24 Z (xO hok 25 Z (xO hok 26 Z (xO hok 27 Z (xO hok 28 Z (xO hok 29 Z (xS hok 30 Z (wO Z (Q2 (Qs [0,1] [] Z Z ?_)))))))))))))
 refine xS hok 31 Z (wO Z (Q2 (Qs [0,1] [] Z Z (xO hok 32 Z (xP hok 33 Z (xP hok 34 Z (QI hok Z ?_)))))))
 have hE:=(Zi hm).symm
 refine Qp false hE [6,5,1,57] Z (asK [0,1] Z) Z
 rintro o hE
 try dsimp only
 have hm:=hLj_2
 try rw [hE] at hm
 refine Qv Z (fun aN=>?_) (fun aN=>?_)
 replace hm:=Q1m hm aN
 refine Q5 [] (S':=[]) Z (Q6 (Q3 (wP Z (Q2 (Q4 (QJ (QR (Qj (Qj (QR (Qj ?_)))))))))))
 have hE:=(Zi hm).symm
 replace hE:=QE hLu1 hE
 replace hE:=QE hLj_1 hE
 replace hE:=hE.symm
 subst hE
 refine QA (Hr:=[]) [] Tryz.results29 (Qy Z) ⟨Z,Z,Z⟩ (asK [] Z) Z Z (.inl Z)
 replace hm:=Q1l hm aN
 refine Q5 [6,5,1] (S':=V3 ..) Z (Qt (Qi (Q4 (Q3 (wP Z (wP Z ?_))))))
 obtain ⟨b5,hm⟩:=Qd hm
 refine Qx (d:=22) (v':=.int .i64 ((f + 1:Nat):Int)) (S':=V4 ..) Z Z (Q1f (a:=f) (b:=1) b5) (QM (S':=V4 ..) Z Z Z Z Z (Q2 ?_))
 have hE:=(Zi hm).symm
 replace hE:=Q11 hLu1 hE
 refine Q14 (_,f + 1) (Nat.lt_succ_self _) hE [6,5,1] Z (asK [0,1] Z) Z
 replace hm:=Q1l hm aB
 refine Q5 [] (S':=[]) Z (Q19 (Qc (Qc (Qu ?_))))
 have hE:=(Zi hm).symm
 replace hE:=QE hLu1 hE
 refine Qp () hE [] Z (asK [] Z) Z
 rintro _ hE
 try dsimp only
 have hm:=Q11 hLj_1 hE
 try dsimp only at hm
 refine Q6 (Q3 (wP Z (Q2 (Q4 (QJ ?_)))))
 have hE:=(Zi hm).symm
 replace hE:=hE.symm
 subst hE
 refine QA (Hr:=[]) [] Tryz.results29 (Qy Z) ⟨Z,Z,Z⟩ (asK [] Z) Z Z (.inl Z)
theorem Q9q (N:Nat) (q:OA) (a2:Nat) (s:Nat) (l0:List Int) (z:Nat) (o0:List Int) (hm:Q6d N l0 z = some o0):Q1z Tryz.prog 101 [.slice q z s] [] [.own 3 1 Qh (.slice q a2 s) l0] (fun v Φr Hr=>v = .tuple #[] ∧ Φr = [] ∧ Hr = [.own 3 1 Qh (.slice q a2 s) o0]):=by
 unfold Q6d at hm
 refine Q12 Tryz.func101 Z Tryz.ntmps101 Z (S:=[_]) Z (fun C=>(Q6 (Q3 (wP Z (wP Z (wN Z Q1a (wP Z ?_)))))))
 obtain ⟨aB,hm⟩:=Qd hm
 refine Qx (d:=7) (v':=.int .i64 ((z + 12:Nat):Int)) (S':=V4 ..) Z Z (Q1f (a:=z) (b:=12) aB) ?_
 obtain ⟨aC,hm⟩:=Qd hm
 refine Q9t 0 Z (fun a4 a0=>(Q82 Z Z Z Zq Z Z Z Z Q1a Q1i (Nat.le_trans aC (by rw [← a0.2]; exact a0.1)) a4 (wP Z (Q2 (Q4 (Q5 [2] (S':=[_]) Z (Q6 (Q3 (wP Z (Q2 (Q4 (Qn (Q1b (σ:=Nat × Nat × (List Int)) (fun (o,f,j)=>Q1B (Q5f N z) o (f,j) = some o0) (fun (o,f,j)=>o) (fun (o,f,j)=>[(3,.int .i64 ((f:Nat):Int)),(2,.slice q (z + 12) s)]) (fun (o,f,j)=>[]) (fun (o,f,j)=>[.own 3 1 Qh (.slice q a2 s) j]) (N,0,l0) hm [3,2] Z (asK [] Z) Z (fun s_ hm=>?_))))))))))))))
 obtain ⟨o,f,j⟩:=s_
 try dsimp only at hm ⊢
 obtain ⟨aD,aE,a5,hq,hLu1⟩:=Q18 hm
 clear hm
 subst a5
 replace hm:=hq
 clear hq
 unfold Q5f at hm
 try dsimp only at hm
 refine Q6 (Q6 (Q3 (wP Z (wP Z (wN Z Q1a (wP Z (Qx (d:=12) (v':=.bool (decide (f < (z + 12)))) (S':=V5 ..) Z Z (Q20 (a:=f) (b:=z + 12)) (Q2 (Q4 (Q5 [12,3,2] (S':=V3 ..) Z ?_))))))))))
 refine Qv Z (fun y=>?_) (fun y=>?_)
 replace hm:=Q1m hm y
 refine Q5 [3,2] (S':=[_,_]) Z (Qt (Q4 (Q6 (Qn (Q3 (wP Z (wP Z (wP Z ?_))))))))
 obtain ⟨_,a6,hm⟩:=Q7 hm
 try dsimp only at hm
 refine wC [] [0] Z fn_99 Z (Q3V N 2 ((f:Nat):Int) a6) (asK [] Z) Z (H':=[_]) Z ?_
 rintro _ _ _ ⟨rfl,rfl,rfl⟩
 obtain ⟨aF,a1,hm⟩:=Q7 hm
 obtain ⟨a3,hm⟩:=Qd hm
 refine Qa9 0 f Z Z Z Zq Z Z Z Z Z a3 (QB a1) Q1a Q1i (fun aG a7=>?_)
 subst a7
 refine Q10 (u:=(IntKind.wrap .i64 ((IntKind.wrap .i64 (1000003 * (IntKind.wrap .i64 (2 + 7)))) + ((f:Nat):Int)))) 0 f Z Z Z Z Z (QB a1) Z Z Q1i Z (fun F w hφ=>⟨(),Z,Ql⟩) (H':=[_]) Z (Q2 (Qi (Q4 (Q5 [3,2] (S':=[_,_]) Z (Q3 (wP Z (wP Z ?_)))))))
 obtain ⟨a8,hm⟩:=Qd hm
 refine Qx (d:=14) (v':=.int .i64 ((f + 1:Nat):Int)) (S':=V3 ..) Z Z (Q1f (a:=f) (b:=1) a8) (QM (S':=V3 ..) Z Z Z Z Z (Q2 ?_))
 have hE:=(Zi hm).symm
 replace hE:=Q11 hLu1 hE
 refine Q14 (_,f + 1,(j.set f (IntKind.wrap .i64 ((IntKind.wrap .i64 (1000003 * (IntKind.wrap .i64 (2 + 7)))) + ((f:Nat):Int))))) (Nat.lt_succ_self _) hE [3,2] Z (asK [] Z) Z
 replace hm:=Q1l hm y
 refine Q5 [] (S':=[]) Z (Q19 (Qc (Qc (Qu ?_))))
 have hE:=(Zi hm).symm
 replace hE:=QE hLu1 hE
 replace hE:=hE.symm
 subst hE
 refine Q4R (Hr:=[_]) [0] Tryz.results101 ⟨Z,Z,Z⟩ (asK [] Z) Z Z (.inr Z)
theorem Q9b (N:Nat) (a0:Int) (qp0:OA) (qn1:Nat) (qc2:Nat) (l1:List Int) (k2:Nat) (o0:List Int) (hm:Q5S N a0 l1 k2 = some o0):Q1z Tryz.prog 52 [.agg #[.int .i64 a0,.slice qp0 k2 qc2]] [] [.own 3 1 Qh (.slice qp0 qn1 qc2) l1] (fun v Φr Hr=>v = .tuple #[] ∧ Φr = [] ∧ Hr = [.own 3 1 Qh (.slice qp0 qn1 qc2) o0]):=by
 unfold Q5S at hm
 refine Q12 Tryz.func52 Z Tryz.ntmps52 Z (S:=[_]) Z (fun C=>(Q6 (Q3 (wB Z (fun g1=>(Q2 (Q4 (Q5 [1] (S':=[_]) Z (Q3 (wF Z Q2i (wD 0 1 Z Q1T Q2Q Z (QQ 1 Z (fun hzqn1 _=>?_)))))))))))))
 subst hzqn1
 obtain ⟨v4,hc4,hm⟩:=Q7 hm
 refine wC [1] [0] Z fn_101 Z (Q9q N qp0 l1.length qc2 l1 k2 _ hc4) (asK [] Z) Z (H':=[_]) Z ?_
 rintro _ _ _ ⟨rfl,rfl,rfl⟩
 refine Q2 ?_
 have hE:=(Zi hm).symm
 replace hE:=hE.symm
 subst hE
 refine Q4R (Hr:=[_]) [0] Tryz.results52 ⟨Z,Z,Z⟩ (asK [] Z) Z Z (.inr Z)
theorem Q8W (N:Nat) (a3:OA) (a4:Nat) (a1:Nat) (l0:List Qz) (k1:Nat) (o0:List Qz) (hm:Q5A N l0 k1 = some o0):Q1z Tryz.prog 30 [.slice a3 k1 a1] [] [Q1e QC 45 2 (.slice a3 a4 a1) l0] (fun v Φr Hr=>v = .tuple #[] ∧ Φr = [] ∧ Hr = [Q1e QC 45 2 (.slice a3 a4 a1) o0]):=by
 unfold Q5A at hm
 refine Q12 Tryz.func30 Z Tryz.ntmps30 Z (S:=[_]) Z (fun C=>(Q6 ?_))
 obtain ⟨aH,hm,hLj_1⟩:=Q7 hm
 refine Q15 (σ:=List Qz) (fun y=>aH = y) (fun y=>[(0,.slice a3 k1 a1)]) (fun y=>[]) (fun y=>[Q1e QC 45 2 (.slice a3 a4 a1) y]) ?_ ?_
 refine Q6 (Q3 (wP Z (Q2 (Q4 (Qn (Q1b (σ:=Nat × Nat × (List Qz)) (fun (a8,o,q)=>Q1B (Q4G N k1) a8 (o,q) = some aH) (fun (a8,o,q)=>a8) (fun (a8,o,q)=>[(2,.int .i64 ((o:Nat):Int)),(0,.slice a3 k1 a1)]) (fun (a8,o,q)=>[]) (fun (a8,o,q)=>[Q1e QC 45 2 (.slice a3 a4 a1) q]) (N,0,l0) hm [2,0] Z (asK [] Z) Z (fun s_ hm=>?_)))))))
 obtain ⟨a8,o,q⟩:=s_
 try dsimp only at hm ⊢
 obtain ⟨bB,bC,aN,hq,hLu1⟩:=Q18 hm
 clear hm
 subst aN
 replace hm:=hq
 clear hq
 unfold Q4G at hm
 try dsimp only at hm
 refine Q6 (Q6 (Q3 (wP Z (wP Z (wN Z QG (wP Z (Qx (d:=8) (v':=.bool (decide (o < k1))) (S':=V5 ..) Z Z (Q20 (a:=o) (b:=k1)) (Q2 (Q4 (Q5 [8,2,0] (S':=V3 ..) Z ?_))))))))))
 refine Qv Z (fun aJ=>?_) (fun aJ=>?_)
 replace hm:=Q1m hm aJ
 refine Q5 [2,0] (S':=[_,_]) Z (Qt (Q4 (Q6 (Qn (Q3 (wP Z (wP Z (Q39 0 Z (fun a2 aC=>?_)))))))))
 obtain ⟨j,aO,hm⟩:=Q7 hm
 obtain ⟨z,a6⟩:=zip_at aC aO
 obtain ⟨aP,hm⟩:=Qd hm
 refine Qa9 1 o Z Z Z Zq Z Z Z Z Z aP (QB a6) QG Qg (fun aK aQ=>?_)
 subst aQ
 refine Q1t [.own 3 1 Qh (.slice z.1 ((j.ids ++ j.idsT).length) z.2) (j.ids ++ j.idsT),Q1w QC a2 (some o),_] (fun _ h=>h.bagOpen 0 o Z a6) (Qk Q7Z 2 o 0 Z Z Z Zq Z Z Z a6 Qg QT (v:=fun _=>.agg #[.int .i64 (j.rule),.slice z.1 j.ids.length z.2]) (fun _=>Z) (fun _=>Z) (fun _ _=>?_))
 obtain ⟨a0,aR,hm⟩:=Q7 hm
 refine wC [0] [1,2] Z fn_52 Z (Q9b N j.rule z.1 ((j.ids ++ j.idsT).length) z.2 (j.ids ++ j.idsT) j.ids.length _ aR) (asK [] Z) Z (H':=[_,_]) Z ?_
 rintro _ _ _ ⟨rfl,rfl,rfl⟩
 refine Q2 (Qi (Q4 (Q5 [2,0] (S':=[_,_]) Z (Q3 (wP Z (wP Z ?_))))))
 obtain ⟨aS,hm⟩:=Qd hm
 refine Qx (d:=10) (v':=.int .i64 ((o + 1:Nat):Int)) (S':=V3 ..) Z Z (Q1f (a:=o) (b:=1) aS) (QM (S':=V3 ..) Z Z Z Z Z (Q2 ?_))
 have hE:=(Zi hm).symm
 replace hE:=Q11 hLu1 hE
 refine we_ownLen 0 Z (fun aT _=>(Qa1 0 (φ':=.own 3 1 Qh (.slice z.1 a0.length z.2) a0) Z (by first | rfl | (rw [aT]; done) | simp) (H':=V3 ..) Z ?_))
 have aU:(a0.take j.ids.length).length = j.ids.length:=Q1K (by first | (have hh:=congrArg (· + 0) aT; simp only [List.length_append,List.length_set,List.length_take] at hh ⊢; omega) | (simp only [List.length_append,List.length_set,List.length_take]; omega))
 refine Qa1 0 (φ':=.own 3 1 Qh (.slice z.1 ((a0.take j.ids.length ++ a0.drop j.ids.length).length) z.2) (a0.take j.ids.length ++ a0.drop j.ids.length)) Z (by rw [List.take_append_drop]) (H':=[.own 3 1 Qh (.slice z.1 ((a0.take j.ids.length ++ a0.drop j.ids.length).length) z.2) (a0.take j.ids.length ++ a0.drop j.ids.length),Q1w QC a2 (some o),.own 45 2 QC.pair (.slice (some ⟨aK,0,none⟩) a4 a1) a2]) Z (Q6J [_,_,.own 45 2 QC.pair (.slice (some ⟨aK,0,none⟩) a4 a1) (a2.set o ((⟨j.rule,a0.take j.ids.length,a0.drop j.ids.length⟩ : Qz),z))] (fun _ h=>h.pairAs (zs:=a2) (x:=j) (r:=z) 2 Z a6 (by show Q5n _ _ = Q5n _ _; simp only [Q5n,aU])) (Q6J [Q1w QC (a2.set o ((⟨j.rule,a0.take j.ids.length,a0.drop j.ids.length⟩ : Qz),z)) none,_] (fun _ h=>QU.bagClose (T:=QC) (x:=(⟨j.rule,a0.take j.ids.length,a0.drop j.ids.length⟩ : Qz)) (r:=z) (i:=o) (zs:=a2) (H:=[_,_]) h 0 Z) ?_))
 have aV:List.map (fun x:Qz × (OA × Nat)=>x.1) (a2.set o ((⟨j.rule,a0.take j.ids.length,a0.drop j.ids.length⟩ : Qz),z)) = q.set o (⟨j.rule,a0.take j.ids.length,a0.drop j.ids.length⟩ : Qz):=pair_set aC
 refine Q6J [Q1e QC 45 2 (.slice (some ⟨aK,0,none⟩) a4 a1) (q.set o (⟨j.rule,a0.take j.ids.length,a0.drop j.ids.length⟩ : Qz))] (fun _ h=>h.treeIn 1 0 Z Z Z aV) ?_
 refine Q14 (_,o + 1,(q.set o (⟨j.rule,a0.take j.ids.length,a0.drop j.ids.length⟩ : Qz))) (Nat.lt_succ_self _) hE [2,0] Z (asK [] Z) Z
 replace hm:=Q1l hm aJ
 refine Q5 [0] (S':=[_]) Z (Q19 (Qc (Qc (Qu ?_))))
 have hE:=(Zi hm).symm
 replace hE:=QE hLu1 hE
 refine Qp q hE [0] Z (asK [] Z) Z
 rintro y hE
 try dsimp only
 have hm:=hLj_1
 try rw [hE] at hm
 refine Q6 (Q3 (wP Z (wP Z (wN Z QG (wP Z ?_)))))
 obtain ⟨aW,hm⟩:=Qd hm
 refine Qx (d:=19) (v':=.int .i64 ((k1 + 12:Nat):Int)) (S':=V4 ..) Z Z (Q1f (a:=k1) (b:=12) aW) ?_
 obtain ⟨aX,hm⟩:=Qd hm
 refine Q39 0 Z (fun aY aD=>?_)
 have aL:k1 + 12 ≤ aY.length:=by rw [Q2t aD]; exact aX
 refine Q9t 1 Z (fun aM aE=>(Q82 Z Z Z Zq Z Z Z Z QG Qg (Nat.le_trans aL (by rw [← aE.2]; exact aE.1)) aM (wP Z (Q2 (Q4 (Q5 [3] (S':=[_]) Z (Q6 (Q3 (wP Z (Q2 (Q4 (Qn (Q77 [Q1e QC 45 2 (.slice a3 a4 a1) y] (fun _ h=>h.treeIn 1 0 Z Z Z aD) (Q1b (σ:=Nat × Nat × (List Qz)) (fun (a9,f,s)=>Q1B (Q4H N k1) a9 (f,s) = some o0) (fun (a9,f,s)=>a9) (fun (a9,f,s)=>[(4,.int .i64 ((f:Nat):Int)),(3,.slice a3 (k1 + 12) a1)]) (fun (a9,f,s)=>[]) (fun (a9,f,s)=>[Q1e QC 45 2 (.slice a3 a4 a1) s]) (N,0,y) hm [4,3] Z (asK [] Z) Z (fun s_ hm=>?_)))))))))))))))
 obtain ⟨a9,f,s⟩:=s_
 try dsimp only at hm ⊢
 obtain ⟨bD,bE,aZ,hq,hLu2⟩:=Q18 hm
 clear hm
 subst aZ
 replace hm:=hq
 clear hq
 unfold Q4H at hm
 try dsimp only at hm
 refine Q6 (Q6 (Q3 (wP Z (wP Z (wN Z QG (wP Z (Qx (d:=24) (v':=.bool (decide (f < (k1 + 12)))) (S':=V5 ..) Z Z (Q20 (a:=f) (b:=k1 + 12)) (Q2 (Q4 (Q5 [24,4,3] (S':=V3 ..) Z ?_))))))))))
 refine Qv Z (fun aF=>?_) (fun aF=>?_)
 replace hm:=Q1m hm aF
 refine Q5 [4,3] (S':=[_,_]) Z (Qt (Q4 (Q6 (Qn (Q3 (wP Z (wP Z (wP Z ?_))))))))
 obtain ⟨_,b0,hm⟩:=Q7 hm
 try dsimp only at hm
 refine wC [] [0] Z fn_49 Z (Q3E N 2 ((f:Nat):Int) b0) (asK [] Z) Z (H':=[_]) Z ?_
 rintro _ _ _ ⟨rfl,rfl,rfl⟩
 refine Q39 0 Z (fun a5 aA=>?_)
 obtain ⟨aG,b1,hm⟩:=Q7 hm
 obtain ⟨aI,a7⟩:=zip_at aA b1
 obtain ⟨b2,hm⟩:=Qd hm
 refine Qa9 1 f Z Z Z Zq Z Z Z Z Z b2 (QB a7) QG Qg (fun b8 b3=>?_)
 subst b3
 refine Q1t [.own 3 1 Qh (.slice aI.1 ((aG.ids ++ aG.idsT).length) aI.2) (aG.ids ++ aG.idsT),Q1w QC a5 (some f),_] (fun _ h=>h.bagOpen 0 f Z a7) (Q6D 3 1 Qh (Q1r 0 (φ':=.own 3 1 Qh (.slice none ((([] : List Int) ++ []).length) 0) (([] : List Int) ++ [])) Z Z (H':=V4 ..) Z (Q10 (u:=((⟨(IntKind.wrap .i64 ((IntKind.wrap .i64 (1000003 * (IntKind.wrap .i64 (2 + 7)))) + ((f:Nat):Int))),([] : List Int),[]⟩ : Qz),(none,0))) 3 f Z Z Z Z Z (QB a7) Z Z Qg Z (fun _ _ _=>Z) (H':=V4 ..) Z ?_)))
 have b9:(a5.set f ((⟨(IntKind.wrap .i64 ((IntKind.wrap .i64 (1000003 * (IntKind.wrap .i64 (2 + 7)))) + ((f:Nat):Int))),([] : List Int),[]⟩ : Qz),(none,0)))[f]? = some ((⟨(IntKind.wrap .i64 ((IntKind.wrap .i64 (1000003 * (IntKind.wrap .i64 (2 + 7)))) + ((f:Nat):Int))),([] : List Int),[]⟩ : Qz),(none,0)):=set_atZ a7
 have bA:List.map (fun x:Qz × (OA × Nat)=>x.1) (a5.set f ((⟨(IntKind.wrap .i64 ((IntKind.wrap .i64 (1000003 * (IntKind.wrap .i64 (2 + 7)))) + ((f:Nat):Int))),([] : List Int),[]⟩ : Qz),(none,0))) = s.set f (⟨(IntKind.wrap .i64 ((IntKind.wrap .i64 (1000003 * (IntKind.wrap .i64 (2 + 7)))) + ((f:Nat):Int))),([] : List Int),[]⟩ : Qz):=pair_set aA
 refine Q2 (Qi (Q4 (Q5 [4,3] (S':=[_,_]) Z (Q3 (wP Z (wP Z ?_))))))
 obtain ⟨b4,hm⟩:=Qd hm
 refine Qx (d:=26) (v':=.int .i64 ((f + 1:Nat):Int)) (S':=V3 ..) Z Z (Q1f (a:=f) (b:=1) b4) (QM (S':=V3 ..) Z Z Z Z Z (Q2 ?_))
 have hE:=(Zi hm).symm
 replace hE:=Q11 hLu2 hE
 refine Q6J [_,Q1w QC (a5.set f ((⟨(IntKind.wrap .i64 ((IntKind.wrap .i64 (1000003 * (IntKind.wrap .i64 (2 + 7)))) + ((f:Nat):Int))),([] : List Int),[]⟩ : Qz),(none,0))) none,_] (fun _ h=>QU.bagClose (T:=QC) (x:=(⟨(IntKind.wrap .i64 ((IntKind.wrap .i64 (1000003 * (IntKind.wrap .i64 (2 + 7)))) + ((f:Nat):Int))),([] : List Int),[]⟩ : Qz)) (r:=(none,0)) (i:=f) (zs:=a5) (H:=V3 ..) h 1 Z) ?_
 have b5:List.map (fun x:Qz × (OA × Nat)=>x.1) (a5.set f ((⟨(IntKind.wrap .i64 ((IntKind.wrap .i64 (1000003 * (IntKind.wrap .i64 (2 + 7)))) + ((f:Nat):Int))),([] : List Int),[]⟩ : Qz),(none,0))) = s.set f (⟨(IntKind.wrap .i64 ((IntKind.wrap .i64 (1000003 * (IntKind.wrap .i64 (2 + 7)))) + ((f:Nat):Int))),([] : List Int),[]⟩ : Qz):=pair_set aA
 refine Q6J [_,Q1e QC 45 2 (.slice (some ⟨b8,0,none⟩) a4 a1) (s.set f (⟨(IntKind.wrap .i64 ((IntKind.wrap .i64 (1000003 * (IntKind.wrap .i64 (2 + 7)))) + ((f:Nat):Int))),([] : List Int),[]⟩ : Qz))] (fun _ h=>h.treeIn 2 1 Z Z Z b5) (Q17 [1] Z (H':=[_]) Z ?_)
 refine Q14 (_,f + 1,(s.set f (⟨(IntKind.wrap .i64 ((IntKind.wrap .i64 (1000003 * (IntKind.wrap .i64 (2 + 7)))) + ((f:Nat):Int))),([] : List Int),[]⟩ : Qz))) (Nat.lt_succ_self _) hE [4,3] Z (asK [] Z) Z
 replace hm:=Q1l hm aF
 refine Q5 [] (S':=[]) Z (Q19 (Qc (Qc (Qu ?_))))
 have hE:=(Zi hm).symm
 replace hE:=QE hLu2 hE
 replace hE:=hE.symm
 subst hE
 refine Q4R (Hr:=[_]) [0] Tryz.results30 ⟨Z,Z,Z⟩ (asK [] Z) Z Z (.inr Z)
theorem Q8K (N:Nat) (a6:Nat) (z:OA) (a0:Nat) (a1:Nat) (l0:List Qw) (a2:OA) (a3:Nat) (a5:Nat) (l1:List QP) (s:OA) (aC:Nat) (y:Nat) (l2:List Q1) (j:OA) (o:Nat) (q:Nat) (l3:List Bool) (a4:Int) (a7:OA) (a8:Nat) (l5:List Int) (o0:Nat) (o1:List Bool) (hm:Q2x N l0 l1 l2 l3 a4 l5 = some (o0,o1)):Q1z Tryz.prog 31 [.pointer (some ⟨a6,0,none⟩),.agg #[.int .i64 a4,.slice a7 l5.length a8]] [.sli 1 Qh a7 a8 l5,tF] [.blk a6 [.slice z a0 a1,.slice a2 a3 a5,.slice s aC y,.slice j o q] 70,.own 213 2 QL (.slice z a0 a1) l0,.own 38 5 QO (.slice a2 a3 a5) l1,.own 45 2 Q8 (.slice s aC y) l2,.own 4 1 Q13 (.slice j o q) l3] (fun v Φr Hr=>v = .int .i64 ((o0:Nat):Int) ∧ Φr = [] ∧ Hr = [.blk a6 [.slice z a0 a1,.slice a2 a3 a5,.slice s aC y,.slice j o q] 70,.own 213 2 QL (.slice z a0 a1) l0,.own 38 5 QO (.slice a2 a3 a5) l1,.own 45 2 Q8 (.slice s aC y) l2,.own 4 1 Q13 (.slice j o q) o1]):=by
 unfold Q2x at hm
 refine Q12 Tryz.func31 Z Tryz.ntmps31 Z (S:=[_,_]) Z (fun C=>(Q6 (Q3 (wB Z (fun g3=>(wP Z (Q2 (Q4 (Q5 [3,0] (S':=[_,_]) Z (Q6 ?_))))))))))
 obtain ⟨a9,aH,hm⟩:=Q7 hm
 refine QV [0,1,2,3,4] Z Z (fun hok=>(xP hok 0 Z (xP hok 1 Z (Qm hok 2 Z Z Z Zq Z Z Z Q8h (Qr hok 3 1 2 Z Z Z Zq Z Z Z Z (cs:=[_]) Z Q1O Q2I Z Z (Qr hok 4 0 0 Z Z Z Zq Z Z Z Z (cs:=[_,_]) Z Qg QT Z Z (xS hok 5 Z (QQ 4 Z (fun aG _=>?_)))))))))
 subst aG
 refine Q1y [] [0,1,2,3,4,5] [4] Z Z Z Zq Z Z fn_50 Z (Q4Z N s y l2 a4 a7 a8 l5 _ aH) (fun F w hφ hh=>(Qe (Q1d (hh _ (Qo (k:=0) Z))) (Qe (hφ _ (Qo (k:=0) Z)) (Qe (hφ _ (Qo (k:=1) Z)) Ql)))) (fun _ _ _ hR=>by obtain ⟨rfl,rfl,rfl⟩:=hR; exact ⟨Z,(fun _ h=>Q1q h)⟩) Z Z (H':=V6 ..) Z ?_
 rintro _ _ _ ⟨rfl,rfl,rfl⟩
 refine Q2 (Qs [0,1] [] Z Z (xS hok 6 Z (wP Z (Q2 (Qs [0,1] [] Z Z (QI hok Z (Q4 (Q5 [5,0] (S':=[_,_]) Z (Q6 (Q6 ?_))))))))))
 obtain ⟨aI,hm,hLj_1⟩:=Q7 hm
 refine Q15 (σ:=Bool) (fun f=>aI = f) (fun f=>[(5,.int .i64 a9),(0,.pointer (some ⟨a6,0,none⟩)),(22,.bool f)]) (fun f=>[tF]) (fun f=>[.blk a6 [.slice z a0 a1,.slice a2 a3 a5,.slice s l2.length y,.slice j o q] 70,.own 213 2 QL (.slice z a0 a1) l0,.own 38 5 QO (.slice a2 a3 a5) l1,.own 45 2 Q8 (.slice s l2.length y) l2,.own 4 1 Q13 (.slice j o q) l3]) ?_ ?_
 refine Q3 (wP Z (wP Z (wP Z ?_)))
 refine Q28 (d:=14) (S':=V4 ..) Z Z (fun aA=>?_) (fun aA=>?_)
 replace hm:=Q1m hm aA
 refine wO Z (wO Z (wO Z (wO Z (wO Z (wO Z (wO Z (wP Z (Q2 ?_))))))))
 have hE:=(Zi hm).symm
 refine Q17 [1,2,3,4,5] Z (H':=V5 ..) Z ?_
 refine Qp true hE [5,0,22] Z (asK [1] Z) Z
 replace hm:=Q1l hm aA
 refine wP Z (wP Z (wF Z Q8w (wD 1 3 Z tS_68 tA_68 Z (wP Z ?_))))
 obtain ⟨aJ,hm⟩:=Qd hm
 obtain ⟨aK,aD,hm⟩:=Q7 hm
 refine Q24 5 a9.toNat Z Z Z Zq Z Z Z Z (QK aJ) (QB aD) tE_68 tS_4 (fun aV aL=>?_)
 subst aL
 refine Qk Q40 5 a9.toNat 0 Z Z Z Zq Z Z Z aD tS_4 tA_4 (v:=fun _=>.bool aK) (fun _=>Z) (fun _=>Z) (fun _ _=>(wP Z (Q2 ?_)))
 have hE:=(Zi hm).symm
 refine Q17 [1,2,3,4,5] Z (H':=V5 ..) Z ?_
 refine Qp aK hE [5,0,22] Z (asK [1] Z) Z
 rintro f hE
 try dsimp only
 have hm:=hLj_1
 try rw [hE] at hm
 refine Qv Z (fun aB=>?_) (fun aB=>?_)
 replace hm:=Q1m hm aB
 refine Q5 [] (S':=[]) Z (Q6 (Q3 (wP Z (Q2 (Q4 (QJ (Qj ?_)))))))
 have hE:=(Zi hm).symm
 obtain ⟨hE0,hE1⟩:=Prod.mk.inj hE
 clear hE
 replace hE0:=hE0.symm
 subst hE0
 replace hE1:=hE1.symm
 subst hE1
 refine QA (Hr:=V5 ..) [0,1,2,3,4] Tryz.results31 (Qy Z) ⟨Z,Z,Z⟩ (asK [] Z) Z Z (.inl Z)
 replace hm:=Q1l hm aB
 refine Q5 [5,0] (S':=[_,_]) Z (Qt (Q4 (Q6 (Q3 (wP Z (wP Z (wF Z Q8w (wD 0 3 Z tS_68 tA_68 Z (wP Z ?_)))))))))
 obtain ⟨aM,hm⟩:=Qd hm
 obtain ⟨aW,aE,hm⟩:=Q7 hm
 refine Q24 4 a9.toNat Z Z Z Zq Z Z Z Z (QK aM) (QB aE) tE_68 tS_4 (fun aX aN=>?_)
 subst aN
 refine Q10 (u:=true) 4 a9.toNat Z Z Z Z Z (QB aE) Z Z tS_4 Z (fun F w hφ=>⟨(),Z,Ql⟩) (H':=V5 ..) Z (Q2 (Q4 (Q5 [] (S':=[]) Z (Q6 (Q3 (wP Z (Q2 (Q4 (QJ ?_)))))))))
 have hE:=(Zi hm).symm
 obtain ⟨hE0,hE1⟩:=Prod.mk.inj hE
 clear hE
 replace hE0:=hE0.symm
 subst hE0
 replace hE1:=hE1.symm
 subst hE1
 refine QA (Hr:=V5 ..) [0,1,2,3,4] Tryz.results31 (Qy Z) ⟨Z,Z,Z⟩ (asK [] Z) Z Z (.inl Z)
theorem Q99 (N:Nat) (a0:Int) (aB:OA) (aC:Nat) (l1:List Int) (aD:Nat) (a4:Nat) (a1:Addr) (a5:Nat) (a2:Nat) (l2:List Int) (a7:OA) (a8:Nat) (a9:Nat) (l3:List Q1) (o:OA) (q:Nat) (s:Nat) (l4:List Q1) (y:Nat) (e5:List (ByteArray × Bool)) (a3:Nat) (a6:Int) (f:OA) (z:Nat) (j:Nat) (l7:List Int) (o0:Bool) (hm:Q2M N a0 l1 l2 l3 l4 e5 a6 l7 = some o0):Q1z Tryz.prog 45 [.agg #[.int .i64 a0,.slice aB l1.length aC],.pointer (some ⟨aD,0,none⟩),.pointer (some ⟨a3,0,none⟩)] [.sli 1 Qh aB aC l1,tF] [.blk aD [.pointer (some ⟨a4,0,none⟩)] 30,.blk a4 [.slice (some a1) a5 a2,.slice a7 a8 a9,.slice o q s,.map (some y)] 66,.own 3 1 Qh (.slice (some a1) a5 a2) l2,.own 45 2 Q8 (.slice a7 a8 a9) l3,.own 45 2 Q8 (.slice o q s) l4,Q1Y (Q1h (QZ Q1Z)) false Q13 y e5,.blk a3 [.int .i64 a6,.slice f z j] 45,.own 3 1 Qh (.slice f z j) l7] (fun v Φr Hr=>v = .bool o0 ∧ Φr = [] ∧ Hr = [.blk aD [.pointer (some ⟨a4,0,none⟩)] 30,.blk a4 [.slice (some a1) a5 a2,.slice a7 a8 a9,.slice o q s,.map (some y)] 66,.own 3 1 Qh (.slice (some a1) a5 a2) l2,.own 45 2 Q8 (.slice a7 a8 a9) l3,.own 45 2 Q8 (.slice o q s) l4,Q1Y (Q1h (QZ Q1Z)) false Q13 y e5,.blk a3 [.int .i64 a6,.slice f z j] 45,.own 3 1 Qh (.slice f z j) l7]):=by
 unfold Q2M at hm
 refine Q12 Tryz.func45 Z Tryz.ntmps45 Z (S:=V3 ..) Z (fun C=>(Q6 (Q3 (wB Z (fun g3=>(wP Z (Q2 (Q4 (Q5 [3,1,2] (S':=V3 ..) Z (Q6 ?_))))))))))
 obtain ⟨aP,aF,hm⟩:=Q7 hm
 refine QV [0,1,2,3,4,5,7] Z Z (fun hok=>(Qr hok 0 1 0 Z Z Z Zq Z Z Z Z (cs:=[_]) Z Q5N Q5M Z Z (xP hok 1 Z (Qm hok 2 Z Z Z Zq Z Z Z Q61 (Qr hok 3 2 0 Z Z Z Zq Z Z Z Z (cs:=[_]) Z Q8G Q8F Z Z (Qr hok 4 7 0 Z Z Z Zq Z Z Z Z (cs:=[_,_]) Z Qg QT Z Z (Qr hok 5 0 0 Z Z Z Zq Z Z Z Z (cs:=[_,_]) Z Qg QT Z Z (xS hok 6 Z (QQ 3 Z (fun aE _=>?_))))))))))
 subst aE
 refine QQ 8 Z (fun aA _=>?_)
 subst aA
 refine Q1y [] [0,1,2,3,4,5,6,7,8] [3,8] Z Z Z Zq Z Z Q5o Z (Q4D N (some a1) a2 l2 a6 f j l7 a0 aB aC l1 _ aF) (fun F w hφ hh=>(Qe (Q1d (hh _ (Qo (k:=0) Z))) (Qe (Q1d (hh _ (Qo (k:=1) Z))) (Qe (hφ _ (Qo (k:=0) Z)) (Qe (hφ _ (Qo (k:=1) Z)) Ql))))) (fun _ _ _ hR=>by obtain ⟨rfl,rfl,rfl⟩:=hR; exact ⟨Z,(fun _ h=>Q1q h)⟩) Z Z (H':=V9 ..) Z ?_
 rintro _ _ _ ⟨rfl,rfl,rfl⟩
 refine Q2 (Qs [0,1] [1] Z Z (xP hok 7 Z (xS hok 8 Z (wP Z (Q2 (Qs [0,1] [] Z Z (QI hok Z (Q4 (Q5 [4] (S':=[_]) Z (QJ ?_))))))))))
 have hE:=(Zi hm).symm
 replace hE:=hE.symm
 subst hE
 refine QA (Hr:=V8 ..) [1,2,3,4,5,6,7,8] Tryz.results45 (Qy Z) ⟨Z,Z,Z⟩ (asK [] Z) Z Z (.inl Z)
theorem Q8O (N:Nat) (a2:OA) (z:Nat) (a0:Nat) (l0:List Q1) (aA:Nat) (a3:Nat) (a5:Addr) (a6:Nat) (a7:Nat) (l1:List Int) (a8:OA) (a9:Nat) (j:Nat) (l2:List Q1) (o:Nat) (e3:List (ByteArray × Bool)) (a1:Nat) (a4:Int) (q:OA) (s:Nat) (y:Nat) (l5:List Int) (o0:Int) (hm:Q2u N l0 l1 l2 e3 a4 l5 = some o0):Q1z Tryz.prog 44 [.slice a2 z a0,.func (.func 45) #[] #[.pointer (some ⟨aA,0,none⟩),.pointer (some ⟨a1,0,none⟩)]] [tF] [.own 45 2 Q8 (.slice a2 z a0) l0,.blk aA [.pointer (some ⟨a3,0,none⟩)] 30,.blk a3 [.slice (some a5) a6 a7,.slice a2 z a0,.slice a8 a9 j,.map (some o)] 66,.own 3 1 Qh (.slice (some a5) a6 a7) l1,.own 45 2 Q8 (.slice a8 a9 j) l2,Q1Y (Q1h (QZ Q1Z)) false Q13 o e3,.blk a1 [.int .i64 a4,.slice q s y] 45,.own 3 1 Qh (.slice q s y) l5] (fun v Φr Hr=>v = .int .i64 o0 ∧ Φr = [] ∧ Hr = [.own 45 2 Q8 (.slice a2 z a0) l0,.blk aA [.pointer (some ⟨a3,0,none⟩)] 30,.blk a3 [.slice (some a5) a6 a7,.slice a2 z a0,.slice a8 a9 j,.map (some o)] 66,.own 3 1 Qh (.slice (some a5) a6 a7) l1,.own 45 2 Q8 (.slice a8 a9 j) l2,Q1Y (Q1h (QZ Q1Z)) false Q13 o e3,.blk a1 [.int .i64 a4,.slice q s y] 45,.own 3 1 Qh (.slice q s y) l5]):=by
 unfold Q2u at hm
 refine Q12 Tryz.func44 Z Tryz.ntmps44 Z (S:=[_,_]) Z (fun C=>(Q6 (Q3 (wP Z (Q2 (Q4 (Q5 [0,1] (S':=[_,_]) Z (Q6 ?_))))))))
 obtain ⟨aG,hm,hLj_1⟩:=Q1R hm
 refine Q15 (σ:=Unit) (fun _=>aG = .inl ()) (fun _=>[]) (fun _=>[tF]) (fun _=>[.own 45 2 Q8 (.slice a2 z a0) l0,.blk aA [.pointer (some ⟨a3,0,none⟩)] 30,.blk a3 [.slice (some a5) a6 a7,.slice a2 z a0,.slice a8 a9 j,.map (some o)] 66,.own 3 1 Qh (.slice (some a5) a6 a7) l1,.own 45 2 Q8 (.slice a8 a9 j) l2,Q1Y (Q1h (QZ Q1Z)) false Q13 o e3,.blk a1 [.int .i64 a4,.slice q s y] 45,.own 3 1 Qh (.slice q s y) l5]) ?_ ?_
 refine Q6 (Q3 (wP Z (QQ 0 Z (fun aS _=>(wN Z QG (Qx (d:=7) (v':=.int .i64 ((l0.length:Nat):Int)) (S':=V3 ..) Z Z (Q3F aS) (wP Z (Q2 (Q4 (Q5 [8,7,0,1] (S':=V4 ..) Z (Qn (Q1b (σ:=Nat × Nat) (fun (aB,f)=>Q1B (Q2c N l0 l1 l2 e3 a4 l5) aB f = some aG) (fun (aB,f)=>aB) (fun (aB,f)=>[(8,.int .i64 ((f:Nat):Int)),(7,.int .i64 ((l0.length:Nat):Int)),(0,.slice a2 z a0),(1,.func (.func 45) #[] #[.pointer (some ⟨aA,0,none⟩),.pointer (some ⟨a1,0,none⟩)])]) (fun (aB,f)=>[tF]) (fun (aB,f)=>[.own 45 2 Q8 (.slice a2 z a0) l0,.blk aA [.pointer (some ⟨a3,0,none⟩)] 30,.blk a3 [.slice (some a5) a6 a7,.slice a2 z a0,.slice a8 a9 j,.map (some o)] 66,.own 3 1 Qh (.slice (some a5) a6 a7) l1,.own 45 2 Q8 (.slice a8 a9 j) l2,Q1Y (Q1h (QZ Q1Z)) false Q13 o e3,.blk a1 [.int .i64 a4,.slice q s y] 45,.own 3 1 Qh (.slice q s y) l5]) (N,0) hm [8,7,0,1] Z (asK [0] Z) Z (fun s_ hm=>?_)))))))))))))
 obtain ⟨aB,f⟩:=s_
 try dsimp only at hm ⊢
 obtain ⟨aV,aW,aO,hq,hLu1⟩:=Q18 hm
 clear hm
 subst aO
 replace hm:=hq
 clear hq
 unfold Q2c at hm
 try dsimp only at hm
 refine Q6 (Q3 (wP Z (Qx (d:=9) (v':=.bool (decide (f < l0.length))) (S':=V4 ..) Z Z (Q20 (a:=f) (b:=l0.length)) (Q2 (Q4 (Q6 ?_))))))
 refine Qv Z (fun aN=>?_) (fun aN=>?_)
 replace hm:=Q1m hm aN
 refine Q5 [8,7,0,1] (S':=V4 ..) Z (Qt (Q4 (Q6 (Qn (Q6 (Q3 (wP Z (wP Z (Q2 (Q4 (Q5 [5,8,7,0,1] (S':=V5 ..) Z (Q6 (Q3 ?_)))))))))))))
 refine wP Z (wP Z (wP Z ?_))
 obtain ⟨aF,aH,hm⟩:=Q7 hm
 refine Q24 0 f Z Z Z Zq Z Z Z Z Z (QB aH) QG Qg (fun aT aP=>?_)
 subst aP
 refine Qk Qb 0 f 0 Z Z Z Zq Z Z Z aH Qg QT (v:=fun aD=>.agg #[.int .i64 (aF.rule),.slice aD.1 aF.ids.length aD.2]) (fun _=>Z) (fun _=>Z) (fun aD _=>?_)
 obtain ⟨aX,aQ,hm⟩:=Q7 hm
 refine wl_callDyn [1,2,3,0,4,5,6,7] [] Z Z Z Zq Z Z Z fn_45 Z Z (Q99 N aF.rule aD.1 aD.2 aF.ids aA a3 a5 a6 a7 l1 (some ⟨aT,0,none⟩) z a0 l0 a8 a9 j l2 o e3 a1 a4 q s y l5 _ aQ) (asK [0,1] Z) Z (H':=[]) Z ?_
 rintro _ _ _ ⟨rfl,rfl,rfl⟩
 refine Q2 (Q4 (Q5 [16,5,8,7,0,1] (S':=V6 ..) Z ?_))
 refine Qv Z (fun aE=>?_) (fun aE=>?_)
 replace hm:=Q1m hm aE
 refine Q5 [5] (S':=[_]) Z (Q6 (Q3 (wP Z (wP Z (Q2 (Q4 (Q5 [4] (S':=[_]) Z (QJ (QR (Qj (Qj (QR (Qj ?_)))))))))))))
 have hE:=(Zi hm).symm
 replace hE:=QE hLu1 hE
 replace hE:=QE hLj_1 hE
 replace hE:=hE.symm
 subst hE
 refine QA (Hr:=V8 ..) [3,0,1,2,4,5,6,7] Tryz.results44 (Qy Z) ⟨Z,Z,Z⟩ (asK [] Z) Z Z (.inl Z)
 replace hm:=Q1l hm aE
 refine Q5 [8,7,0,1] (S':=V4 ..) Z (Qt (Qi (Q4 (Q3 (wP Z ?_)))))
 obtain ⟨aR,hm⟩:=Qd hm
 refine Qx (d:=18) (v':=.int .i64 ((f + 1:Nat):Int)) (S':=V4 ..) Z Z (Q1f (a:=f) (b:=1) aR) (QM (S':=V4 ..) Z Z Z Z Z (Q2 ?_))
 have hE:=(Zi hm).symm
 replace hE:=Q11 hLu1 hE
 refine Q17 [3,0,1,2,4,5,6,7] Z (H':=V8 ..) Z ?_
 refine Q14 (_,f + 1) (Nat.lt_succ_self _) hE [8,7,0,1] Z (asK [1] Z) Z
 replace hm:=Q1l hm aN
 refine Q5 [] (S':=[]) Z (Q19 (Qc (Qc (Qu ?_))))
 have hE:=(Zi hm).symm
 replace hE:=QE hLu1 hE
 refine Qp () hE [] Z (asK [0] Z) Z
 rintro _ hE
 try dsimp only
 have hm:=Q11 hLj_1 hE
 try dsimp only at hm
 refine Q6 (Q3 (wP Z (Q2 (Q4 (QJ ?_)))))
 have hE:=(Zi hm).symm
 replace hE:=hE.symm
 subst hE
 refine QA (Hr:=V8 ..) [0,1,2,3,4,5,6,7] Tryz.results44 (Qy Z) ⟨Z,Z,Z⟩ (asK [] Z) Z Z (.inl Z)
end Go.Proofs.YtgangmegcejllaaGreatDoor
