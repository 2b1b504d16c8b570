import Derived.Test.YtgangmegcejllaaGreatDoorXW7
namespace Go.Proofs.YtgangmegcejllaaGreatDoor
open Go.RowKit
set_option maxRecDepth 100000
set_option maxHeartbeats 4000000
theorem Q9w (N:Nat) (a1:Nat) (s:Addr) (y:Nat) (z:Nat) (l0:List Int) (aB:OA) (aL:Nat) (aC:Nat) (l1:List Q1) (a3:OA) (a5:Nat) (a6:Nat) (l2:List Q1) (f:Nat) (e3:List (ByteArray × Bool)) (a4:Int) (j:OA) (aA:Nat) (o:Nat) (l5:List Int) (o0:Nat) (o1:List Int) (o4:List Q1) (o8:List Q1) (aT:List (ByteArray × Bool)) (hm:Q2e N l0 l1 l2 e3 a4 l5 = some (o0,o1,o4,o8,aT)):Q1z Tryz.prog 23 [.pointer (some ⟨a1,0,none⟩),.agg #[.int .i64 a4,.slice j aA o]] [tF] [.blk a1 [.slice (some s) y z,.slice aB aL aC,.slice a3 a5 a6,.map (some f)] 66,.own 3 1 Qh (.slice (some s) y z) l0,.own 45 2 Q8 (.slice aB aL aC) l1,.own 45 2 Q8 (.slice a3 a5 a6) l2,Q1Y (Q1h (QZ Q1Z)) false Q13 f e3,.own 3 1 Qh (.slice j aA o) l5] (fun v Φr Hr=>∃ (o2:OA) (o3:Nat) (o5:Nat) (o6:OA) (o7:Nat) (o9:Nat),v = .int .i64 ((o0:Nat):Int) ∧ Φr = [] ∧ Hr = [.blk a1 [.slice (some s) y z,.slice o2 o5 o3,.slice o6 o9 o7,.map (some f)] 66,.own 3 1 Qh (.slice (some s) y z) o1,.own 45 2 Q8 (.slice o2 o5 o3) o4,.own 45 2 Q8 (.slice o6 o9 o7) o8,Q1Y (Q1h (QZ Q1Z)) false Q13 f aT,.own 3 1 Qh (.slice j aA o) l5]):=by
 unfold Q2e at hm
 refine Q12 Tryz.func23 Z Tryz.ntmps23 Z (S:=[_,_]) Z (fun C=>(Q6 (Q3 (wB Z (fun g2=>(wB Z (fun g3=>(wP Z (Q2 (Q4 (Q5 [3,2] (S':=[_,_]) Z (Q6 (Q6 (Q3 (wD 1 0 Z Q5N Q5M Z ?_)))))))))))))))
 obtain ⟨_,b1,hm⟩:=Q7 hm
 try dsimp only at hm
 refine wC [2,3,4,5,6] [0,1,7] Z fn_32 Z (Q2F N a1 s y z l0 aB aL aC l1 a3 a5 a6 l2 f e3 b1) (asK [0] Z) Z (H':=V3 ..) Z ?_
 rintro _ _ _ ⟨rfl,rfl,rfl⟩
 refine wP Z (Q2 (Q4 (Q5 [8,3,2] (S':=V3 ..) Z (Q2X Z (Q5 [3,2] (S':=[_,_]) Z (Qt (Q4 (Q6 (Q3 (wD 6 0 Z Q5N Q5M Z (wP Z (wF Z Q5j (wD 0 1 Z Q1O Q2I Z ?_)))))))))))))
 refine QaE Z Z Z Zq Z Z (QQ 2 Z (fun aM _=>?_))
 subst aM
 obtain ⟨q,aU,hm⟩:=Q7 hm
 refine wC [2,6,0,1,3,4,5,7] [] Z fn_44 Z (Q8O N aB l1.length aC l1 g2 a1 s y z l0 a3 a5 a6 l2 f e3 g3 a4 j aA o l5 _ aU) (asK [0] Z) Z (H':=[]) Z ?_
 rintro _ _ _ ⟨rfl,rfl,rfl⟩
 refine wP Z (Q2 (Q4 (Q5 [5,3,2] (S':=V3 ..) Z (Q6 (Q6 (Q3 (wP Z (wP Z (Q2 (Q4 (Q5 [16,5,3,2] (S':=V4 ..) Z ?_)))))))))))
 refine Qv Z (fun aE=>?_) (fun aE=>?_)
 replace hm:=Q1m hm aE
 refine Q5 [] (S':=[]) Z (Q6 (Q3 (wP Z (Q2 (Q4 (QJ (Qj ?_)))))))
 have hE:=(Zi hm).symm
 obtain ⟨hE0,hF1⟩:=Prod.mk.inj hE
 obtain ⟨hE1,hF2⟩:=Prod.mk.inj hF1
 obtain ⟨hE2,hF3⟩:=Prod.mk.inj hF2
 obtain ⟨hE3,hE4⟩:=Prod.mk.inj hF3
 clear hE hF1 hF2 hF3
 replace hE0:=hE0.symm
 subst hE0
 replace hE1:=hE1.symm
 subst hE1
 replace hE2:=hE2.symm
 subst hE2
 replace hE3:=hE3.symm
 subst hE3
 replace hE4:=hE4.symm
 subst hE4
 refine QA (Hr:=V6 ..) [2,3,0,4,5,7] Tryz.results23 (Qy Z) ⟨aB,aC,l1.length,a3,a6,a5,Z,Z,Z⟩ (asK [] Z) Z Z (.inl Z)
 replace hm:=Q1l hm aE
 refine Q5 [5,3,2] (S':=V3 ..) Z (Qt (Q4 (Q6 ?_)))
 obtain ⟨aV,hm⟩:=Qd hm
 obtain ⟨aW,hm⟩:=Qd hm
 obtain ⟨aN,hm⟩:=Qd hm
 refine QV [0,1,2,3,4,5,6,7,9,10] Z Z (fun hok=>(Qr hok 0 1 0 Z Z Z Zq Z Z Z Z (cs:=[_]) Z Q5N Q5M Z Z (Qr hok 1 1 0 Z Z Z Zq Z Z Z Z (cs:=[_]) Z Q5N Q5M Z Z (xP hok 2 Z (Qm hok 3 Z Z Z Zq Z Z Z Q5j (Qr hok 4 2 1 Z Z Z Zq Z Z Z Z (cs:=[_]) Z Q1O Q2I Z Z (xP hok 5 Z (xP hok 6 Z (xP hok 7 Z (Q1g (d:=24) (v':=.int .i64 (q + 1)) (S':=V10 ..) Z Z (i64_in aV) (xS hok 8 Z (wC [0] [1,2,3,4,5,6,7] Z fn_46 Z (Delete46_s aB aC q l1 aW aN) (asK [] Z) Z (H':=V7 ..) Z ?_))))))))))))
 rintro _ _ _ ⟨aO,aP,rfl,rfl,rfl⟩
 refine Q2 (Qs [0] [1,1] Z Z (xP hok 9 Z (Qm hok 10 Z Z Z Zq Z Z Z Q5j (xS hok 11 Z (wS 2 1 Z Q1O (all':=V4 ..) Z (H':=V8 ..) Z (Q2 (Qs [0] [] Z Z (QI hok Z (Q4 (Q5 [3,2] (S':=[_,_]) Z (Q6 ?_)))))))))))
 obtain ⟨aX,aY,hm⟩:=Q7 hm
 refine QV [0,1,2,3,4] Z Z (fun hok=>(Qr hok 0 1 0 Z Z Z Zq Z Z Z Z (cs:=[_]) Z Q5N Q5M Z Z (xP hok 1 Z (Qm hok 2 Z Z Z Zq Z Z Z Qaj (Qr hok 3 2 3 Z Z Z Zq Z Z Z Z (cs:=[_]) Z tS_64 tA_64 Z Z (Qr hok 4 6 0 Z Z Z Zq Z Z Z Z (cs:=[_,_]) Z Qg QT Z Z (xS hok 5 Z (QQ 7 Z (fun aJ _=>?_)))))))))
 subst aJ
 refine Q1y [] [0,1,2,3,4,5,6,7] [7] Z Z Z Zq Z Z fn_42 Z (Q2W N a4 j o l5 _ aY) (fun F w hφ hh=>(Qe (Q1d (hh _ (Qo (k:=0) Z))) (Qe (hφ _ (Qo (k:=0) Z)) Ql))) (fun _ _ _ hR=>by obtain ⟨rfl,rfl,rfl⟩:=hR; exact ⟨Z,(fun _ h=>Q1q h)⟩) Z Z (H':=V8 ..) Z ?_
 rintro _ _ _ ⟨rfl,rfl,rfl⟩
 refine Q2 (Qs [0] [2,1] Z Z (xS hok 6 Z (Q81 (i:=aX) (u:=true) (cs:=[.bool true]) ltB 5 Z Z (.inl Z) Z Z Z Z Q9i trivial Z (fun F w hφ=>⟨(),Z,Ql⟩) (H':=[.own 45 2 Q8 (.slice aO ((l1.take q.toNat ++ l1.drop (q.toNat + 1)).length) aP) (l1.take q.toNat ++ l1.drop (q.toNat + 1)),.blk g2 [.pointer (some ⟨a1,0,none⟩)] 30,.blk a1 [.slice (some s) y z,.slice aO ((l1.take q.toNat ++ l1.drop (q.toNat + 1)).length) aP,.slice a3 a5 a6,.map (some f)] 66,.own 3 1 Qh (.slice (some s) y z) l0,.own 45 2 Q8 (.slice a3 a5 a6) l2,Q1Y (Q1h (QZ Q1Z)) false Q13 f (Q7p ltB aX true e3),.blk g3 [.int .i64 a4,.slice j l5.length o] 45,.own 3 1 Qh (.slice j l5.length o) l5]) Z (Q2 (Qs [0] [] Z Z (QI hok Z (Q4 (Q5 [3,2] (S':=[_,_]) Z (Q6 ?_)))))))))
 obtain ⟨_,aZ,hm⟩:=Q7 hm
 try dsimp only at hm
 obtain ⟨aK,hm⟩:=Qd hm
 refine QV [0,1,2,3,4,5,9,10] Z Z (fun hok=>(Qr hok 0 1 0 Z Z Z Zq Z Z Z Z (cs:=[_]) Z Q5N Q5M Z Z (Qr hok 1 1 0 Z Z Z Zq Z Z Z Z (cs:=[_]) Z Q5N Q5M Z Z (xP hok 2 Z (Qm hok 3 Z Z Z Zq Z Z Z Q5K (Qr hok 4 2 2 Z Z Z Zq Z Z Z Z (cs:=[_]) Z Q1O Q2I Z Z (Qr hok 5 6 0 Z Z Z Zq Z Z Z Z (cs:=[_,_]) Z Qg QT Z Z (xS hok 6 Z (Q1y [] [0,1,2,3,4,5,6,7] [7] Z Z Z Zq Z Z fn_33 Z (Q4c N a4 j o l5 aZ) (fun F w hφ hh=>(Qe (Q1d (hh _ (Qo (k:=0) Z))) (Qe (hφ _ (Qo (k:=0) Z)) Ql))) (fun _ _ _ hR=>by obtain ⟨_,_,rfl,rfl,rfl⟩:=hR; exact ⟨Z,(Q7u (Q8g Q6Z) (fun _ h=>Q1q h))⟩) Z Z (H':=V8 ..) Z ?_)))))))))
 rintro _ _ _ ⟨a7,a8,rfl,rfl,rfl⟩
 refine Q2 (Qs [0] [3,2,2] Z Z (xS hok 7 Z (Qq Z Z Z Zq Z QG Qg Q1X Z (zs:=[.int .i64 0,V1]) (by kernel_rfl) Z (out:=[_,_]) Z (fun bG=>(Q2 (Qs [0] [8,4,3,3] Z Z (xS hok 8 Z (Q6B 1 Z (H':=V9 ..) Z (Q2j (.sli 1 Qh a7 a8 l5) (fun F w hφ=>Q1d (hφ _ (Qo (k:=0) Z))) (Q21 ([(⟨a4,l5⟩ : Q1)]) 5 0 Z Z Z Zq Z Z Z Z Z (fun F w hφ=>⟨[.int .i64 a4,.slice a7 l5.length a8],[],Z,Z,⟨(a7,a8),Z,(Qe (hφ _ (Qo (k:=0) Z)) Ql)⟩,Z⟩) QG Q8i Z Z (Nat.le_trans aK (by decide)) (Nat.le_trans (Nat.mul_le_mul_right _ aK) (by decide)) (H2:=fun aF aG=>[_,_,_,_,_,.own 45 2 Q8 (.slice aF ((l2 ++ ([(⟨a4,l5⟩ : Q1)])).length) aG) (l2 ++ ([(⟨a4,l5⟩ : Q1)])),_,_,_]) (fun _ _=>Z) (fun aF aG=>(Q2J 0 Z (H':=V8 ..) Z (Q2 (Qs [2] [6,1,1] Z Z (xP hok 9 Z ?_)))))))))))))))
 refine Qm hok 10 Z Z Z Zq Z Z Z Q5K (xS hok 11 Z (wS 2 2 Z Q1O (all':=V4 ..) Z (H':=V8 ..) Z (Q2 (Qs [0,1,2] [] Z Z (QI hok Z (Q4 (Q5 [2] (S':=[_]) Z (Q6 ?_))))))))
 obtain ⟨⟨aQ,b2⟩,b0,hm⟩:=Q7 hm
 try dsimp only at hm
 obtain ⟨aH,hm⟩:=Qd hm
 refine QV [0,1,2,3,4,5,6,7] Z Z (fun hok=>(Qr hok 0 1 0 Z Z Z Zq Z Z Z Z (cs:=[_]) Z Q5N Q5M Z Z (xP hok 1 Z (Qm hok 2 Z Z Z Zq Z Z Z Q5K (Qr hok 3 2 2 Z Z Z Zq Z Z Z Z (cs:=[_]) Z Q1O Q2I Z Z (Qr hok 4 1 0 Z Z Z Zq Z Z Z Z (cs:=[_]) Z Q5N Q5M Z Z (xP hok 5 Z (Qm hok 6 Z Z Z Zq Z Z Z Q61 (Qr hok 7 2 0 Z Z Z Zq Z Z Z Z (cs:=[_]) Z Q8G Q8F Z Z (xS hok 8 Z (Q71 Z Z Z Zq Z Z Z (Q2 (Qs [0,1,2] [1,2,1] Z Z (xS hok 9 Z ?_))))))))))))))
 refine wC [4,3] [0,1,2,5,6,7] Z fn_43 Z (Q25 N aF ((l2 ++ ([(⟨a4,l5⟩ : Q1)])).length) aG (l2 ++ ([(⟨a4,l5⟩ : Q1)])) s y z l0 _ _ b0) (asK [2] Z) Z (H':=V6 ..) Z ?_
 rintro _ _ _ ⟨b3,rfl,rfl,rfl⟩
 refine QQ 0 Z (fun aI _=>?_)
 subst aI
 refine Q1r 0 (φ':=.own 45 2 Q8 (.slice aF ((l2 ++ ([(⟨a4,l5⟩ : Q1)])).length) aG) aQ) Z (by rw [aH]) (H':=V8 ..) Z (Q2 (Qs [0,1,2] [4,3,3] Z Z (QI hok Z (Q4 (Q5 [] (S':=[]) Z (Q6 (Q3 (wP Z (Q2 (Q4 (QJ ?_)))))))))))
 have hE:=(Zi hm).symm
 obtain ⟨hE0,hF1⟩:=Prod.mk.inj hE
 obtain ⟨hE1,hF2⟩:=Prod.mk.inj hF1
 obtain ⟨hE2,hF3⟩:=Prod.mk.inj hF2
 obtain ⟨hE3,hE4⟩:=Prod.mk.inj hF3
 clear hE hF1 hF2 hF3
 replace hE0:=hE0.symm
 subst hE0
 replace hE1:=hE1.symm
 subst hE1
 replace hE2:=hE2.symm
 subst hE2
 replace hE3:=hE3.symm
 subst hE3
 replace hE4:=hE4.symm
 subst hE4
 refine QA (Hr:=V6 ..) [4,1,2,0,5,7] Tryz.results23 (Qy Z) ⟨aO,aP,(l1.take q.toNat ++ l1.drop (q.toNat + 1)).length,aF,aG,(l2 ++ ([(⟨a4,l5⟩ : Q1)])).length,Z,Z,Z⟩ (asK [] Z) Z Z (.inl Z)
theorem Q8j (N:Nat) (a8:Nat) (a1:OA) (a2:Nat) (a3:Nat) (l0:List Qw) (a5:OA) (a6:Nat) (a7:Nat) (l1:List QP) (z:OA) (aD:Nat) (a0:Nat) (l2:List Q1) (j:OA) (o:Nat) (q:Nat) (l3:List Bool) (a4:Int) (s:OA) (a9:Nat) (y:Nat) (l5:List Int) (o0:Nat) (o1:List Bool) (hm:Q2x N l0 l1 l2 l3 a4 l5 = some (o0,o1)):Q1z Tryz.prog 31 [.pointer (some ⟨a8,0,none⟩),.agg #[.int .i64 a4,.slice s a9 y]] [tF] [.blk a8 [.slice a1 a2 a3,.slice a5 a6 a7,.slice z aD a0,.slice j o q] 70,.own 213 2 QL (.slice a1 a2 a3) l0,.own 38 5 QO (.slice a5 a6 a7) l1,.own 45 2 Q8 (.slice z aD a0) l2,.own 4 1 Q13 (.slice j o q) l3,.own 3 1 Qh (.slice s a9 y) l5] (fun v Φr Hr=>v = .int .i64 ((o0:Nat):Int) ∧ Φr = [] ∧ Hr = [.blk a8 [.slice a1 a2 a3,.slice a5 a6 a7,.slice z aD a0,.slice j o q] 70,.own 213 2 QL (.slice a1 a2 a3) l0,.own 38 5 QO (.slice a5 a6 a7) l1,.own 45 2 Q8 (.slice z aD a0) l2,.own 4 1 Q13 (.slice j o q) o1,.own 3 1 Qh (.slice s a9 y) l5]):=by
 unfold Q2x at hm
 refine Q12 Tryz.func31 Z Tryz.ntmps31 Z (S:=[_,_]) Z (fun C=>(Q6 (Q3 (wB Z (fun g3=>(wP Z (Q2 (Q4 (Q5 [3,0] (S':=[_,_]) Z (Q6 ?_))))))))))
 obtain ⟨aA,aK,hm⟩:=Q7 hm
 refine QV [0,1,2,3,4] Z Z (fun hok=>(xP hok 0 Z (xP hok 1 Z (Qm hok 2 Z Z Z Zq Z Z Z Q8h (Qr hok 3 1 2 Z Z Z Zq Z Z Z Z (cs:=[_]) Z Q1O Q2I Z Z (Qr hok 4 0 0 Z Z Z Zq Z Z Z Z (cs:=[_,_]) Z Qg QT Z Z (xS hok 5 Z (QQ 4 Z (fun aI _=>?_)))))))))
 subst aI
 refine QQ 6 Z (fun aE _=>?_)
 subst aE
 refine Q1y [] [0,1,2,3,4,5,6] [4,6] Z Z Z Zq Z Z fn_50 Z (Q4Z N z a0 l2 a4 s y l5 _ aK) (fun F w hφ hh=>(Qe (Q1d (hh _ (Qo (k:=0) Z))) (Qe (Q1d (hh _ (Qo (k:=1) Z))) (Qe (hφ _ (Qo (k:=0) Z)) Ql)))) (fun _ _ _ hR=>by obtain ⟨rfl,rfl,rfl⟩:=hR; exact ⟨Z,(fun _ h=>Q1q h)⟩) Z Z (H':=V7 ..) Z ?_
 rintro _ _ _ ⟨rfl,rfl,rfl⟩
 refine Q2 (Qs [0] [] Z Z (xS hok 6 Z (wP Z (Q2 (Qs [0] [] Z Z (QI hok Z (Q4 (Q5 [5,0] (S':=[_,_]) Z (Q6 (Q6 ?_))))))))))
 obtain ⟨aL,hm,hLj_1⟩:=Q7 hm
 refine Q15 (σ:=Bool) (fun f=>aL = f) (fun f=>[(5,.int .i64 aA),(0,.pointer (some ⟨a8,0,none⟩)),(22,.bool f)]) (fun f=>[tF]) (fun f=>[.blk a8 [.slice a1 a2 a3,.slice a5 a6 a7,.slice z l2.length a0,.slice j o q] 70,.own 213 2 QL (.slice a1 a2 a3) l0,.own 38 5 QO (.slice a5 a6 a7) l1,.own 45 2 Q8 (.slice z l2.length a0) l2,.own 4 1 Q13 (.slice j o q) l3,.own 3 1 Qh (.slice s l5.length y) l5]) ?_ ?_
 refine Q3 (wP Z (wP Z (wP Z ?_)))
 refine Q28 (d:=14) (S':=V4 ..) Z Z (fun aB=>?_) (fun aB=>?_)
 replace hm:=Q1m hm aB
 refine wO Z (wO Z (wO Z (wO Z (wO Z (wO Z (wO Z (wP Z (Q2 ?_))))))))
 have hE:=(Zi hm).symm
 refine Q17 [1,2,3,4,5,6] Z (H':=V6 ..) Z ?_
 refine Qp true hE [5,0,22] Z (asK [0] Z) Z
 replace hm:=Q1l hm aB
 refine wP Z (wP Z (wF Z Q8w (wD 1 3 Z tS_68 tA_68 Z (wP Z ?_))))
 obtain ⟨aM,hm⟩:=Qd hm
 obtain ⟨aN,aF,hm⟩:=Q7 hm
 refine Q24 5 aA.toNat Z Z Z Zq Z Z Z Z (QK aM) (QB aF) tE_68 tS_4 (fun aX aO=>?_)
 subst aO
 refine Qk Q40 5 aA.toNat 0 Z Z Z Zq Z Z Z aF tS_4 tA_4 (v:=fun _=>.bool aN) (fun _=>Z) (fun _=>Z) (fun _ _=>(wP Z (Q2 ?_)))
 have hE:=(Zi hm).symm
 refine Q17 [1,2,3,4,5,6] Z (H':=V6 ..) Z ?_
 refine Qp aN hE [5,0,22] Z (asK [0] Z) Z
 rintro f hE
 try dsimp only
 have hm:=hLj_1
 try rw [hE] at hm
 refine Qv Z (fun aC=>?_) (fun aC=>?_)
 replace hm:=Q1m hm aC
 refine Q5 [] (S':=[]) Z (Q6 (Q3 (wP Z (Q2 (Q4 (QJ (Qj ?_)))))))
 have hE:=(Zi hm).symm
 obtain ⟨hE0,hE1⟩:=Prod.mk.inj hE
 clear hE
 replace hE0:=hE0.symm
 subst hE0
 replace hE1:=hE1.symm
 subst hE1
 refine QA (Hr:=V6 ..) [0,1,2,3,4,5] Tryz.results31 (Qy Z) ⟨Z,Z,Z⟩ (asK [] Z) Z Z (.inl Z)
 replace hm:=Q1l hm aC
 refine Q5 [5,0] (S':=[_,_]) Z (Qt (Q4 (Q6 (Q3 (wP Z (wP Z (wF Z Q8w (wD 0 3 Z tS_68 tA_68 Z (wP Z ?_)))))))))
 obtain ⟨aP,hm⟩:=Qd hm
 obtain ⟨aY,aG,hm⟩:=Q7 hm
 refine Q24 4 aA.toNat Z Z Z Zq Z Z Z Z (QK aP) (QB aG) tE_68 tS_4 (fun aZ aQ=>?_)
 subst aQ
 refine Q10 (u:=true) 4 aA.toNat Z Z Z Z Z (QB aG) Z Z tS_4 Z (fun F w hφ=>⟨(),Z,Ql⟩) (H':=V6 ..) Z (Q2 (Q4 (Q5 [] (S':=[]) Z (Q6 (Q3 (wP Z (Q2 (Q4 (QJ ?_)))))))))
 have hE:=(Zi hm).symm
 obtain ⟨hE0,hE1⟩:=Prod.mk.inj hE
 clear hE
 replace hE0:=hE0.symm
 subst hE0
 replace hE1:=hE1.symm
 subst hE1
 refine QA (Hr:=V6 ..) [0,1,2,3,4,5] Tryz.results31 (Qy Z) ⟨Z,Z,Z⟩ (asK [] Z) Z Z (.inl Z)
theorem Qal (N:Nat) (b3:Nat) (aX:Addr) (aY:Nat) (aZ:Nat) (l0:List Int) (b4:OA) (b5:Nat) (b6:Nat) (l1:List Q1) (b7:OA) (b8:Nat) (b9:Nat) (l2:List Q1) (aI:Nat) (e3:List (ByteArray × Bool)) (aV:Nat) (aJ:OA) (aK:Nat) (aL:Nat) (l4:List Qw) (aM:OA) (aN:Nat) (aO:Nat) (l5:List QP) (aP:OA) (aQ:Nat) (aR:Nat) (l6:List Q1) (aS:OA) (aT:Nat) (aU:Nat) (l7:List Bool) (a8:Int) (a9:Int) (bA:OA) (bB:Nat) (aW:List Q1) (o0:Bool) (o1:List Int) (o4:List Q1) (o8:List Q1) (d2:List (ByteArray × Bool)) (d3:List Q1) (d4:List Bool) (hm:Q7n N l0 l1 l2 e3 l4 l5 l6 l7 a8 a9 aW = some (o0,o1,o4,o8,d2,d3,d4)):Q1z Tryz.prog 10 [.pointer (some ⟨b3,0,none⟩),.pointer (some ⟨aV,0,none⟩),.agg #[.int .i64 a8,.int .i64 a9,.slice bA aW.length bB]] [.sli 2 Q8 bA bB aW,tF] [.blk b3 [.slice (some aX) aY aZ,.slice b4 b5 b6,.slice b7 b8 b9,.map (some aI)] 66,.own 3 1 Qh (.slice (some aX) aY aZ) l0,.own 45 2 Q8 (.slice b4 b5 b6) l1,.own 45 2 Q8 (.slice b7 b8 b9) l2,Q1Y (Q1h (QZ Q1Z)) false Q13 aI e3,.blk aV [.slice aJ aK aL,.slice aM aN aO,.slice aP aQ aR,.slice aS aT aU] 70,.own 213 2 QL (.slice aJ aK aL) l4,.own 38 5 QO (.slice aM aN aO) l5,.own 45 2 Q8 (.slice aP aQ aR) l6,.own 4 1 Q13 (.slice aS aT aU) l7] (fun v Φr Hr=>∃ (o2:OA) (o3:Nat) (o5:Nat) (o6:OA) (o7:Nat) (o9:Nat) (d5:Nat) (d6:OA) (d7:Nat) (d8:Nat) (d9:OA) (dA:Nat) (dB:Nat),v = .bool o0 ∧ Φr = [] ∧ Hr = [.blk b3 [.slice (some aX) aY aZ,.slice o2 o5 o3,.slice o6 o9 o7,.map (some d5)] 66,.own 3 1 Qh (.slice (some aX) aY aZ) o1,.own 45 2 Q8 (.slice o2 o5 o3) o4,.own 45 2 Q8 (.slice o6 o9 o7) o8,Q1Y (Q1h (QZ Q1Z)) false Q13 d5 d2,.blk aV [.slice aJ aK aL,.slice aM aN aO,.slice d6 d8 d7,.slice d9 dB dA] 70,.own 213 2 QL (.slice aJ aK aL) l4,.own 38 5 QO (.slice aM aN aO) l5,.own 45 2 Q8 (.slice d6 d8 d7) d3,.own 4 1 Q13 (.slice d9 dB dA) d4]):=by
 unfold Q7n at hm
 refine Q12 Tryz.func10 Z Tryz.ntmps10 Z (S:=V3 ..) Z (fun C=>(Q6 (Q3 (wB Z (fun g5=>(wP Z (Q2 (Q4 (Q5 [5,0,1] (S':=V3 ..) Z (Q6 (Q6 (Q3 (wF Z tF_42_0 (wD 0 0 Z Q1i Q2d Z ?_))))))))))))))
 obtain ⟨eN,dC,hm⟩:=Q7 hm
 refine wC [] [0,1,2,3,4,5,6,7,8,9,10] Z fn_26 Z (Q8J N a8 4 _ dC) (asK [] Z) Z (H':=V11 ..) Z ?_
 rintro _ _ _ ⟨rfl,rfl,rfl⟩
 refine Q2 (Q4 (Q5 [14,5,0,1] (S':=V4 ..) Z (Qn (Q6 (Q3 (wP Z (wP Z (Q2 (Q4 (Q5 [15,14,5,0,1] (S':=V5 ..) Z ?_))))))))))
 refine Qv Z (fun bU=>?_) (fun bU=>?_)
 replace hm:=Q1m hm bU
 refine Q5 [5,0,1] (S':=V3 ..) Z (Q6 (Q3 (wF Z Q9L (wD 0 2 Z Q1O Q2I Z ?_))))
 obtain ⟨bF,dD,hm⟩:=Q7 hm
 refine wC [] [0,1,2,3,4,5,6,7,8,9,10] Z fn_27 Z (Q9p N bA bB aW _ dD) (asK [0] Z) Z (H':=V11 ..) Z ?_
 rintro _ _ _ ⟨b0,b1,cN,rfl,rfl,rfl⟩
 refine wP Z (Q2 (Q4 (Q5 [7,5,0,1] (S':=V4 ..) Z (Q6 ?_))))
 obtain ⟨dE,hm,hLj_1⟩:=Q7 hm
 unfold Q83 at hm
 refine Q15 (σ:=Bool × (List Int) × (List Q1) × (List Q1) × (List (ByteArray × Bool)) × (List Q1) × (List Bool) × OA × Nat × Nat × OA × Nat × Nat × Nat × OA × Nat × Nat × OA × Nat × Nat) (fun (b2,aB,aC,aD,aE,aF,aG,q,s,y,z,a0,a1,a2,a3,a4,a5,a6,a7,aA)=>dE = (b2,aB,aC,aD,aE,aF,aG)) (fun (b2,aB,aC,aD,aE,aF,aG,q,s,y,z,a0,a1,a2,a3,a4,a5,a6,a7,aA)=>[(7,.slice b0 aW.length b1),(8,.bool b2)]) (fun (b2,aB,aC,aD,aE,aF,aG,q,s,y,z,a0,a1,a2,a3,a4,a5,a6,a7,aA)=>[tF]) (fun (b2,aB,aC,aD,aE,aF,aG,q,s,y,z,a0,a1,a2,a3,a4,a5,a6,a7,aA)=>[Q1e QC 45 2 (.slice b0 cN b1) bF,.blk b3 [.slice (some aX) aY aZ,.slice q y s,.slice z a1 a0,.map (some a2)] 66,.own 3 1 Qh (.slice (some aX) aY aZ) aB,.own 45 2 Q8 (.slice q y s) aC,.own 45 2 Q8 (.slice z a1 a0) aD,Q1Y (Q1h (QZ Q1Z)) false Q13 a2 aE,.blk aV [.slice aJ aK aL,.slice aM aN aO,.slice a3 a5 a4,.slice a6 aA a7] 70,.own 213 2 QL (.slice aJ aK aL) l4,.own 38 5 QO (.slice aM aN aO) l5,.own 45 2 Q8 (.slice a3 a5 a4) aF,.own 4 1 Q13 (.slice a6 aA a7) aG]) ?_ ?_
 obtain ⟨⟨bC,bV,bW,bX,bY⟩,cJ,hm⟩:=Q7 hm
 try dsimp only at hm
 obtain ⟨⟨bD,bZ,c0⟩,cK,hm⟩:=Q7 hm
 try dsimp only at hm
 rcases Q2k hm with ⟨c1,hm⟩ | ⟨c1,hm⟩
 obtain ⟨eO,dF,hm⟩:=Q7 hm
 obtain ⟨cO,hm⟩:=Qd hm
 refine QV [0,1,3,4,5,7,8,9,10,11,13] Z Z (fun hok=>(xP hok 0 Z (xP hok 1 Z (xP hok 3 Z (Qm hok 4 Z Z Z Zq Z Z Z Q9L (Qr hok 5 1 2 Z Z Z Zq Z Z Z Z (cs:=[_]) Z Q1O Q2I Z Z (xS hok 2 Z (Q1J 0 Z (fun bG _=>?_)))))))))
 subst bG
 refine wC [2,3,4,5,6,0] [1,7,8,9,10,11] Z fn_21 Z (Q87 N b3 aX aY aZ l0 b4 b5 b6 l1 b7 b8 b9 l2 aI e3 b0 bF.length b1 bF aW.length _ _ _ _ _ cJ) (asK [1] Z) Z (H':=V6 ..) Z ?_
 rintro _ _ _ ⟨bH,bI,bJ,bK,bL,bM,bN,rfl,rfl,rfl⟩
 refine Q2 (Qs [0,1] [6] Z Z (xS hok 6 Z (wC [7,8,9,10,11] [0,1,2,3,4,5,6] Z fn_28 Z (Q75 N aV aJ aK aL l4 aM aN aO l5 aP aQ aR l6 aS aT aU l7 bA bB aW _ _ _ cK) (asK [0,1] Z) Z (H':=V7 ..) Z ?_)))
 rintro _ _ _ ⟨bO,bP,bQ,bR,bS,bT,rfl,rfl,rfl⟩
 refine Q2 (Qs [0,1] [] Z Z (xP hok 7 Z (Q1g (d:=27) (v':=.bool (bC == bD)) (S':=V11 ..) Z Z (nateq (a:=bC) (b:=bD)) (xP hok 8 Z (Q1g (d:=28) (v':=.bool true) (S':=V12 ..) Z Z (Q16 c1) (xP hok 9 Z (Qm hok 10 Z Z Z Zq Z Z Z Q9L (Qr hok 11 11 2 Z Z Z Zq Z Z Z Z (cs:=[_]) Z Q1O Q2I Z Z (xS hok 12 Z (Q1y [] [0,1,2,3,4,5,6,7,8,9,10,11] [10] Z Z Z Zq Z Z fn_29 Z (Q8V N b0 b1 bF aW.length bA bB aW _ dF) (fun F w hφ hh=>(Qe (Q8I QaK (hh _ (Qo (k:=0) Z)) (fun _ h=>h) (fun _ h=>h)) (Qe (hφ _ (Qo (k:=0) Z)) Ql))) (fun _ _ _ hR=>by obtain ⟨rfl,rfl,rfl⟩:=hR; exact ⟨Z,(fun _ h=>Q1q h)⟩) Z Z (H':=V12 ..) Z ?_))))))))))
 rintro _ _ _ ⟨rfl,rfl,rfl⟩
 refine Qx (d:=32) (v':=.bool true) (S':=V16 ..) Z Z (Q16 cO) (Q2 (Qs [0,1] [11] Z Z (xP hok 13 Z (xS hok 14 Z (wP Z (Q2 (Qs [0,1] [] Z Z (QI hok Z ?_))))))))
 have hE:=(Zi hm).symm
 refine Q17 [10,5,6,7,8,9,0,1,2,3,4] Z (H':=V11 ..) Z ?_
 refine Qp (true,bV,bW,bX,bY,bZ,c0,bH,bI,bJ,bK,bL,bM,bN,bO,bP,bQ,bR,bS,bT) hE [7,8] Z (asK [1] Z) Z
 refine QV [0,1,3,4,5,7,8,9,10,11,13] Z Z (fun hok=>(xP hok 0 Z (xP hok 1 Z (xP hok 3 Z (Qm hok 4 Z Z Z Zq Z Z Z Q9L (Qr hok 5 1 2 Z Z Z Zq Z Z Z Z (cs:=[_]) Z Q1O Q2I Z Z (xS hok 2 Z (Q1J 0 Z (fun cP _=>?_)))))))))
 subst cP
 refine wC [2,3,4,5,6,0] [1,7,8,9,10,11] Z fn_21 Z (Q87 N b3 aX aY aZ l0 b4 b5 b6 l1 b7 b8 b9 l2 aI e3 b0 bF.length b1 bF aW.length _ _ _ _ _ cJ) (asK [1] Z) Z (H':=V6 ..) Z ?_
 rintro _ _ _ ⟨bH,bI,bJ,bK,bL,bM,bN,rfl,rfl,rfl⟩
 refine Q2 (Qs [0,1] [6] Z Z (xS hok 6 Z (wC [7,8,9,10,11] [0,1,2,3,4,5,6] Z fn_28 Z (Q75 N aV aJ aK aL l4 aM aN aO l5 aP aQ aR l6 aS aT aU l7 bA bB aW _ _ _ cK) (asK [0,1] Z) Z (H':=V7 ..) Z ?_)))
 rintro _ _ _ ⟨bO,bP,bQ,bR,bS,bT,rfl,rfl,rfl⟩
 refine Q2 (Qs [0,1] [] Z Z (xP hok 7 Z (Q1g (d:=27) (v':=.bool (bC == bD)) (S':=V11 ..) Z Z (nateq (a:=bC) (b:=bD)) (xP hok 8 Z (Q1g (d:=28) (v':=.bool false) (S':=V12 ..) Z Z (Q16 c1) (xO hok 9 Z (xO hok 10 Z (xO hok 11 Z (xS hok 12 Z (wO Z (Q2 (Qs [0,1] [11] Z Z (xP hok 13 Z ?_)))))))))))))
 refine xS hok 14 Z (wP Z (Q2 (Qs [0,1] [] Z Z (QI hok Z ?_))))
 have hE:=(Zi hm).symm
 refine Q17 [10,5,6,7,8,9,0,1,2,3,4] Z (H':=V11 ..) Z ?_
 refine Qp (false,bV,bW,bX,bY,bZ,c0,bH,bI,bJ,bK,bL,bM,bN,bO,bP,bQ,bR,bS,bT) hE [7,8] Z (asK [1] Z) Z
 rintro ⟨b2,aB,aC,aD,aE,aF,aG,q,s,y,z,a0,a1,a2,a3,a4,a5,a6,a7,aA⟩ hE
 try dsimp only
 have hm:=hLj_1
 try rw [hE] at hm
 try dsimp only at hm
 refine Q6 (Q3 (wP Z (Q1J 0 Z (fun bG _=>?_))))
 subst bG
 obtain ⟨eP,dG,hm⟩:=Q7 hm
 refine wC [0] [1,2,3,4,5,6,7,8,9,10] Z fn_30 Z (Q8W N b0 bF.length b1 bF aW.length _ dG) (asK [] Z) Z (H':=V10 ..) Z ?_
 rintro _ _ _ ⟨rfl,rfl,rfl⟩
 refine Q2 (Q4 (Q5 [8] (S':=[_]) Z (Q6 (Q3 (wP Z (wP Z (Q2 (Q4 (Q5 [6] (S':=[_]) Z (QJ (QR (Qj ?_))))))))))))
 have hE:=(Zi hm).symm
 obtain ⟨hE0,hF1⟩:=Prod.mk.inj hE
 obtain ⟨hE1,hF2⟩:=Prod.mk.inj hF1
 obtain ⟨hE2,hF3⟩:=Prod.mk.inj hF2
 obtain ⟨hE3,hF4⟩:=Prod.mk.inj hF3
 obtain ⟨hE4,hF5⟩:=Prod.mk.inj hF4
 obtain ⟨hE5,hE6⟩:=Prod.mk.inj hF5
 clear hE hF1 hF2 hF3 hF4 hF5
 replace hE0:=hE0.symm
 subst hE0
 replace hE1:=hE1.symm
 subst hE1
 replace hE2:=hE2.symm
 subst hE2
 replace hE3:=hE3.symm
 subst hE3
 replace hE4:=hE4.symm
 subst hE4
 replace hE5:=hE5.symm
 subst hE5
 replace hE6:=hE6.symm
 subst hE6
 refine QA (Hr:=V10 ..) [1,2,3,4,5,6,7,8,9,10] Tryz.results10 (Qy Z) ⟨q,s,y,z,a0,a1,a2,a3,a4,a5,a6,a7,aA,Z,Z,Z⟩ (asK [] Z) Z Z (.inl Z)
 replace hm:=Q1l hm bU
 refine Q5 [14,5,0,1] (S':=V4 ..) Z (Q6 (Q3 (wP Z (wP Z (Q2 (Q4 (Q5 [37,5,0,1] (S':=V4 ..) Z ?_)))))))
 refine Qv Z (fun c2=>?_) (fun c2=>?_)
 replace hm:=Q1m hm c2
 refine Q5 [5,0,1] (S':=V3 ..) Z (Q6 (Q3 (Q2j (.sli 1 Qh none 0 ([] : List Int)) (fun _ _ _=>Q2m) ?_)))
 obtain ⟨_,dH,hm⟩:=Q7 hm
 try dsimp only at hm
 refine wC [] [0,1,2,3,4,5,6,7,8,9,10] Z Q32 Z (Q1p N 0 none 0 ([] : List Int) dH) (asK [0,2] Z) Z (H':=V11 ..) Z ?_
 rintro _ _ _ ⟨rfl,rfl,rfl⟩
 refine Q1s Z Z Z Zq Z Q1X Z (fun g9=>(wS 0 0 Z Qg (all':=[_,_]) Z (H':=V12 ..) Z (Q2 (Q4 (Q5 [9,5,0,1] (S':=V4 ..) Z (Q6 ?_))))))
 obtain ⟨dI,hm,hLj_2⟩:=Q7 hm
 refine Q15 (σ:=Int × (List Int) × OA × Nat) (fun (aH,f,j,o)=>dI = (aH,f)) (fun (aH,f,j,o)=>[(9,.pointer (some ⟨g9,0,none⟩)),(0,.pointer (some ⟨b3,0,none⟩)),(1,.pointer (some ⟨aV,0,none⟩))]) (fun (aH,f,j,o)=>[.sli 1 Qh j o f,tF]) (fun (aH,f,j,o)=>[.blk g9 [.int .i64 aH,.slice j f.length o] 45,.blk b3 [.slice (some aX) aY aZ,.slice b4 b5 b6,.slice b7 b8 b9,.map (some aI)] 66,.own 3 1 Qh (.slice (some aX) aY aZ) l0,.own 45 2 Q8 (.slice b4 b5 b6) l1,.own 45 2 Q8 (.slice b7 b8 b9) l2,Q1Y (Q1h (QZ Q1Z)) false Q13 aI e3,.blk aV [.slice aJ aK aL,.slice aM aN aO,.slice aP aQ aR,.slice aS aT aU] 70,.own 213 2 QL (.slice aJ aK aL) l4,.own 38 5 QO (.slice aM aN aO) l5,.own 45 2 Q8 (.slice aP aQ aR) l6,.own 4 1 Q13 (.slice aS aT aU) l7]) ?_ ?_
 refine Q6 (Q3 (wF Z Q9L (wD 1 2 Z Q1O Q2I Z (wN Z QG (wP Z (Qx (d:=43) (v':=.bool (decide (0 < aW.length))) (S':=V7 ..) Z Z (natgt (a:=aW.length) (b:=0)) (Q2 (Q4 (Q5 [43,9,5,0,1] (S':=V5 ..) Z ?_)))))))))
 refine Qv Z (fun c3=>?_) (fun c3=>?_)
 replace hm:=Q1m hm c3
 refine Q5 [9,5,0,1] (S':=V4 ..) Z ?_
 obtain ⟨dW,dJ,hm⟩:=Q7 hm
 obtain ⟨dK,hm⟩:=Qd hm
 obtain ⟨dL,dM,hm⟩:=Q7 hm
 refine QV [0,1,2,3,4,5,6,8,9] Z Z (fun hok=>(Qm hok 0 Z Z Z Zq Z Z Z Q9L (Qr hok 1 1 2 Z Z Z Zq Z Z Z Z (cs:=[_]) Z Q1O Q2I Z Z (Qm hok 2 Z Z Z Zq Z Z Z tF_42_1 (Qr hok 3 1 1 Z Z Z Zq Z Z Z Z (cs:=[_]) Z Q1i Q2d Z Z (Qm hok 4 Z Z Z Zq Z Z Z Q9L (Qr hok 5 1 2 Z Z Z Zq Z Z Z Z (cs:=[_]) Z Q1O Q2I Z Z (Q3r hok 6 Z Z Z Zq Z Z Z QG (xS hok 7 Z (wC [] [0,1,2,3,4,5,6,7,8,9,10,11] Z fn_26 Z (Q8J N a9 ((aW.length:Nat):Int) _ dJ) (asK [] Z) Z (H':=V12 ..) Z ?_))))))))))
 rintro _ _ _ ⟨rfl,rfl,rfl⟩
 refine Q2 (Qs [0,0,2,3] [1,1] Z Z (Q1o hok 8 2 dW.toNat Z Z Z Zq Z Z Z Z Z (QK dK) dM QG Qg (fun eQ eR eM dX=>(Q1u Qb 1 Z (fun dN dO _=>?_)))))
 subst dO
 refine Q1I hok 9 1 0 Z Z Z Zq Z Z Z Z (cs:=[_,_]) Z Qg QT Z Z (xS hok 10 Z (wS 0 0 Z Qg (all':=[_,_]) Z (H':=V12 ..) Z (Q2 (Qs [0,1,2,3,3,5,6] [] Z Z (QI hok Z ?_)))))
 have hE:=(Zi hm).symm
 refine Q17 [0,2,3,4,5,6,7,8,9,10,11] Z (H':=V11 ..) Z ?_
 refine Qp (dL.rule,dL.ids,dN.1,dN.2) hE [9,0,1] Z (asK [0,6] Z) Z
 replace hm:=Q1l hm c3
 refine Q5 [9,0,1] (S':=V3 ..) Z (Qt ?_)
 have hE:=(Zi hm).symm
 refine Q17 [0,2,3,4,5,6,7,8,9,10,11] Z (H':=V11 ..) Z ?_
 refine Qp (0,([] : List Int),none,0) hE [9,0,1] Z (asK [0,3] Z) Z
 rintro ⟨aH,f,j,o⟩ hE
 try dsimp only
 have hm:=hLj_2
 try rw [hE] at hm
 try dsimp only at hm
 refine Q6 ?_
 obtain ⟨⟨c4,dY,dZ,e0,e1⟩,dP,hm⟩:=Q7 hm
 try dsimp only at hm
 obtain ⟨⟨c5,e2⟩,dQ,hm⟩:=Q7 hm
 try dsimp only at hm
 refine QV [0,1,3,4,6] Z Z (fun hok=>(xP hok 0 Z (Qr hok 1 0 0 Z Z Z Zq Z Z Z Z (cs:=[_,_]) Z Qg QT Z Z (xP hok 3 Z (Qr hok 4 0 0 Z Z Z Zq Z Z Z Z (cs:=[_,_]) Z Qg QT Z Z (xS hok 2 Z (wC [1,2,3,4,5] [0,6,7,8,9,10] Z fn_23 Z (Qak N b3 aX aY aZ l0 b4 b5 b6 l1 b7 b8 b9 l2 aI e3 aH j o f _ _ _ _ _ dP) (asK [0,1] Z) Z (H':=V6 ..) Z ?_)))))))
 rintro _ _ _ ⟨cQ,cR,cS,cT,cU,cV,rfl,rfl,rfl⟩
 refine Q2 (Qs [0,1] [5] Z Z (xS hok 5 Z (wC [6,7,8,9,10] [0,1,2,3,4,5] Z fn_31 Z (Q8K N aV aJ aK aL l4 aM aN aO l5 aP aQ aR l6 aS aT aU l7 aH j o f _ _ dQ) (asK [0,1] Z) Z (H':=V6 ..) Z ?_)))
 rintro _ _ _ ⟨rfl,rfl,rfl⟩
 refine Q2 (Qs [0,1] [10] Z Z (xP hok 6 Z (Q1g (d:=60) (v':=.bool (c4 == c5)) (S':=V9 ..) Z Z (nateq (a:=c4) (b:=c5)) (xS hok 7 Z (wP Z (Q2 (Qs [0,1] [] Z Z (QI hok Z (Q4 (Q5 [6] (S':=[_]) Z (QJ (QR (Qj ?_)))))))))))))
 have hE:=(Zi hm).symm
 obtain ⟨hE0,hF1⟩:=Prod.mk.inj hE
 obtain ⟨hE1,hF2⟩:=Prod.mk.inj hF1
 obtain ⟨hE2,hF3⟩:=Prod.mk.inj hF2
 obtain ⟨hE3,hF4⟩:=Prod.mk.inj hF3
 obtain ⟨hE4,hF5⟩:=Prod.mk.inj hF4
 obtain ⟨hE5,hE6⟩:=Prod.mk.inj hF5
 clear hE hF1 hF2 hF3 hF4 hF5
 replace hE0:=hE0.symm
 subst hE0
 replace hE1:=hE1.symm
 subst hE1
 replace hE2:=hE2.symm
 subst hE2
 replace hE3:=hE3.symm
 subst hE3
 replace hE4:=hE4.symm
 subst hE4
 replace hE5:=hE5.symm
 subst hE5
 replace hE6:=hE6.symm
 subst hE6
 refine QA (Hr:=V10 ..) [5,6,7,8,9,0,1,2,3,4] Tryz.results10 (Qy Z) ⟨cQ,cR,cS,cT,cU,cV,aI,aP,aR,aQ,aS,aU,aT,Z,Z,Z⟩ (asK [] Z) Z Z (.inl Z)
 replace hm:=Q1l hm c2
 refine Q5 [0,1] (S':=[_,_]) Z (Qt (Qi (Q4 (Q6 (Q3 (wP Z ?_))))))
 obtain ⟨⟨c6,bE,e4⟩,dR,hm⟩:=Q7 hm
 try dsimp only at hm
 refine wC [1,2,3,4,5] [0,6,7,8,9,10] Z fn_11 Z (Q4b N b3 aX aY aZ l0 b4 b5 b6 l1 b7 b8 b9 l2 aI e3 _ _ _ dR) (asK [1] Z) Z (H':=V6 ..) Z ?_
 rintro _ _ _ ⟨c7,c8,e5,rfl,rfl,rfl⟩
 refine wP Z (wP Z (wP Z (Q1s Z Z Z Zq Z Q1X Z (fun eS=>(wS 0 0 Z Qg (all':=[_,_]) Z (H':=V13 ..) Z (wP Z (Q2 (Q4 (Q5 [11,10,0,1] (S':=V4 ..) Z (Q6 ?_))))))))))
 rcases Q2k hm with ⟨c9,hm⟩ | ⟨c9,hm⟩
 refine QV [0,1,2,3,4,6,7,9,10] Z Z (fun hok=>(xP hok 0 Z (xP hok 1 Z (xP hok 2 Z (Q1g (d:=68) (v':=.bool true) (S':=V6 ..) Z Z (Q16 c9) (xO hok 3 Z (xO hok 4 Z (xO hok 6 Z (xO hok 7 Z (xS hok 5 Z (wO Z (Q2 (Qs [0,1] [] Z Z (xS hok 8 Z ?_))))))))))))))
 refine wO Z (Q2 (Qs [0,1] [] Z Z (xO hok 9 Z (xP hok 10 Z (xS hok 11 Z (wP Z (Q2 (Qs [0,1] [] Z Z (QI hok Z (Q4 (Q5 [6] (S':=[_]) Z (QJ ?_))))))))))))
 have hE:=(Zi hm).symm
 obtain ⟨hE0,hF1⟩:=Prod.mk.inj hE
 obtain ⟨hE1,hF2⟩:=Prod.mk.inj hF1
 obtain ⟨hE2,hF3⟩:=Prod.mk.inj hF2
 obtain ⟨hE3,hF4⟩:=Prod.mk.inj hF3
 obtain ⟨hE4,hF5⟩:=Prod.mk.inj hF4
 obtain ⟨hE5,hE6⟩:=Prod.mk.inj hF5
 clear hE hF1 hF2 hF3 hF4 hF5
 replace hE0:=hE0.symm
 subst hE0
 replace hE1:=hE1.symm
 subst hE1
 replace hE2:=hE2.symm
 subst hE2
 replace hE3:=hE3.symm
 subst hE3
 replace hE4:=hE4.symm
 subst hE4
 replace hE5:=hE5.symm
 subst hE5
 replace hE6:=hE6.symm
 subst hE6
 refine QA (Hr:=V10 ..) [2,3,4,5,6,8,9,10,11,12] Tryz.results10 (Qy Z) ⟨b4,b6,b5,b7,b9,b8,aI,aP,aR,aQ,aS,aU,aT,Z,Z,Z⟩ (asK [] Z) Z Z (.inl Z)
 obtain ⟨⟨cA,e6,e7,e8,e9⟩,dS,hm⟩:=Q7 hm
 try dsimp only at hm
 obtain ⟨⟨cB,eA⟩,dT,hm⟩:=Q7 hm
 try dsimp only at hm
 refine QV [0,1,2,3,4,6,7,9,10] Z Z (fun hok=>(xP hok 0 Z (xP hok 1 Z (xP hok 2 Z (Q1g (d:=68) (v':=.bool false) (S':=V6 ..) Z Z (Q16 c9) (xP hok 3 Z (Qr hok 4 0 0 Z Z Z Zq Z Z Z Z (cs:=[_,_]) Z Qg QT Z Z (xP hok 6 Z (Qr hok 7 0 0 Z Z Z Zq Z Z Z Z (cs:=[_,_]) Z Qg QT Z Z (xS hok 5 Z (QQ 1 Z (fun cC _=>?_))))))))))))
 subst cC
 refine wC [2,3,4,5,6,1] [0,7,8,9,10,11,12] Z fn_23 Z (Q9w N b3 aX aY aZ l0 b4 b5 b6 l1 b7 b8 b9 l2 aI e3 c6 c7 bE.length c8 bE _ _ _ _ _ dS) (asK [1] Z) Z (H':=V7 ..) Z ?_
 rintro _ _ _ ⟨cW,cX,cY,cZ,d0,d1,rfl,rfl,rfl⟩
 refine Q2 (Qs [0,1] [6] Z Z (xS hok 8 Z (wC [8,9,10,11,12,5] [0,1,2,3,4,6,7] Z fn_31 Z (Q8j N aV aJ aK aL l4 aM aN aO l5 aP aQ aR l6 aS aT aU l7 c6 c7 bE.length c8 bE _ _ dT) (asK [1] Z) Z (H':=V7 ..) Z ?_)))
 rintro _ _ _ ⟨rfl,rfl,rfl⟩
 refine Q2 (Qs [0,1] [11] Z Z (xP hok 9 Z (Q1g (d:=75) (v':=.bool (cA == cB)) (S':=V13 ..) Z Z (nateq (a:=cA) (b:=cB)) (xP hok 10 Z (xS hok 11 Z (wP Z (Q2 (Qs [0,1] [] Z Z (QI hok Z (Q4 (Q5 [6] (S':=[_]) Z (QJ ?_))))))))))))
 have hE:=(Zi hm).symm
 obtain ⟨hE0,hF1⟩:=Prod.mk.inj hE
 obtain ⟨hE1,hF2⟩:=Prod.mk.inj hF1
 obtain ⟨hE2,hF3⟩:=Prod.mk.inj hF2
 obtain ⟨hE3,hF4⟩:=Prod.mk.inj hF3
 obtain ⟨hE4,hF5⟩:=Prod.mk.inj hF4
 obtain ⟨hE5,hE6⟩:=Prod.mk.inj hF5
 clear hE hF1 hF2 hF3 hF4 hF5
 replace hE0:=hE0.symm
 subst hE0
 replace hE1:=hE1.symm
 subst hE1
 replace hE2:=hE2.symm
 subst hE2
 replace hE3:=hE3.symm
 subst hE3
 replace hE4:=hE4.symm
 subst hE4
 replace hE5:=hE5.symm
 subst hE5
 replace hE6:=hE6.symm
 subst hE6
 refine QA (Hr:=V10 ..) [6,7,8,9,10,0,1,2,3,4] Tryz.results10 (Qy Z) ⟨cW,cX,cY,cZ,d0,d1,aI,aP,aR,aQ,aS,aU,aT,Z,Z,Z⟩ (asK [] Z) Z Z (.inl Z)
theorem Q8L (N:Nat) (aA:Nat) (a1:OA) (a5:Nat) (a2:Nat) (l0:List Qw) (a3:OA) (a6:Nat) (a4:Nat) (l1:List QP) (a7:OA) (a8:Nat) (a9:Nat) (l2:List Q1) (o:OA) (q:Nat) (s:Nat) (l3:List Bool) (o0:Int) (o3:List Int) (o4:Bool) (hm:Q5i N l0 l1 l2 l3 = some (o0,o3,o4)):Q1z Tryz.prog 12 [.pointer (some ⟨aA,0,none⟩)] [tF] [.blk aA [.slice a1 a5 a2,.slice a3 a6 a4,.slice a7 a8 a9,.slice o q s] 70,.own 213 2 QL (.slice a1 a5 a2) l0,.own 38 5 QO (.slice a3 a6 a4) l1,.own 45 2 Q8 (.slice a7 a8 a9) l2,.own 4 1 Q13 (.slice o q s) l3] (fun v Φr Hr=>∃ (o1:OA) (o2:Nat),v = .tuple #[.agg #[.int .i64 o0,.slice o1 o3.length o2],.bool o4] ∧ Φr = [.sli 1 Qh o1 o2 o3] ∧ Hr = [.blk aA [.slice a1 a5 a2,.slice a3 a6 a4,.slice a7 a8 a9,.slice o q s] 70,.own 213 2 QL (.slice a1 a5 a2) l0,.own 38 5 QO (.slice a3 a6 a4) l1,.own 45 2 Q8 (.slice a7 a8 a9) l2,.own 4 1 Q13 (.slice o q s) l3]):=by
 unfold Q5i at hm
 refine Q12 Tryz.func12 Z Tryz.ntmps12 Z (S:=[_]) Z (fun C=>(Q6 (Q3 (Q1s Z Z Z Zq Z Q1X Z (fun g2=>(wP Z (Q2 (Q4 (Q5 [2,0] (S':=[_,_]) Z (Q6 (Q3 (wP Z (Q2 (Q4 (Q6 ?_)))))))))))))))
 obtain ⟨aX,hm,hLj_1⟩:=Q7 hm
 refine Q15 (σ:=Int) (fun y=>aX = y) (fun y=>[(2,.pointer (some ⟨g2,0,none⟩)),(0,.pointer (some ⟨aA,0,none⟩)),(4,.int .i64 y)]) (fun y=>[tF]) (fun y=>[.blk g2 [.int .i64 0,V1] 45,.blk aA [.slice a1 a5 a2,.slice a3 a6 a4,.slice a7 a8 a9,.slice o q s] 70,.own 213 2 QL (.slice a1 a5 a2) l0,.own 38 5 QO (.slice a3 a6 a4) l1,.own 45 2 Q8 (.slice a7 a8 a9) l2,.own 4 1 Q13 (.slice o q s) l3]) ?_ ?_
 refine Q6 (Q3 (wP Z (Q2 (Q4 (Qn (Q1b (σ:=Nat × Nat × Int) (fun (aH,f,j)=>Q1B (Q4u N l2 l3 l0 l1) aH (f,j) = some aX) (fun (aH,f,j)=>aH) (fun (aH,f,j)=>[(5,.int .i64 ((f:Nat):Int)),(4,.int .i64 j),(2,.pointer (some ⟨g2,0,none⟩)),(0,.pointer (some ⟨aA,0,none⟩))]) (fun (aH,f,j)=>[tF]) (fun (aH,f,j)=>[.blk g2 [.int .i64 0,V1] 45,.blk aA [.slice a1 a5 a2,.slice a3 a6 a4,.slice a7 a8 a9,.slice o q s] 70,.own 213 2 QL (.slice a1 a5 a2) l0,.own 38 5 QO (.slice a3 a6 a4) l1,.own 45 2 Q8 (.slice a7 a8 a9) l2,.own 4 1 Q13 (.slice o q s) l3]) (N,0,-1) hm [5,4,2,0] Z (asK [0] Z) Z (fun s_ hm=>?_)))))))
 obtain ⟨aH,f,j⟩:=s_
 try dsimp only at hm ⊢
 obtain ⟨bI,bJ,b1,hq,hLu1⟩:=Q18 hm
 clear hm
 subst b1
 replace hm:=hq
 clear hq
 unfold Q4u at hm
 try dsimp only at hm
 refine Q6 (Q6 (Q3 (wP Z (wP Z (wP Z (wF Z Q8h (wD 1 2 Z Q1O Q2I Z (QQ 4 Z (fun b2 _=>(wN Z QG (Qx (d:=11) (v':=.int .i64 ((l2.length:Nat):Int)) (S':=V9 ..) Z Z (Q3F b2) (wP Z (Qx (d:=12) (v':=.bool (decide (f < l2.length))) (S':=V10 ..) Z Z (Q20 (a:=f) (b:=l2.length)) (Q2 ?_))))))))))))))
 refine Q4 (Q5 [12,5,4,2,0] (S':=V5 ..) Z ?_)
 refine Qv Z (fun aM=>?_) (fun aM=>?_)
 replace hm:=Q1m hm aM
 refine Q5 [5,4,2,0] (S':=V4 ..) Z (Qt (Q4 (Q6 ?_)))
 obtain ⟨b3,hm,hLj_2⟩:=Q7 hm
 refine Q15 (σ:=Int) (fun a0=>b3 = a0) (fun a0=>[(5,.int .i64 ((f:Nat):Int)),(4,.int .i64 a0),(2,.pointer (some ⟨g2,0,none⟩)),(0,.pointer (some ⟨aA,0,none⟩))]) (fun a0=>[tF]) (fun a0=>[.blk g2 [.int .i64 0,V1] 45,.blk aA [.slice a1 a5 a2,.slice a3 a6 a4,.slice a7 a8 a9,.slice o q s] 70,.own 213 2 QL (.slice a1 a5 a2) l0,.own 38 5 QO (.slice a3 a6 a4) l1,.own 45 2 Q8 (.slice a7 a8 a9) l2,.own 4 1 Q13 (.slice o q s) l3]) ?_ ?_
 refine Qn (Q6 ?_)
 obtain ⟨b4,hm,hLj_3⟩:=Q7 hm
 unfold Q6u at hm
 refine Q15 (σ:=Bool) (fun z=>b4 = z) (fun z=>[(5,.int .i64 ((f:Nat):Int)),(4,.int .i64 j),(2,.pointer (some ⟨g2,0,none⟩)),(0,.pointer (some ⟨aA,0,none⟩)),(47,.bool z)]) (fun z=>[tF]) (fun z=>[.blk g2 [.int .i64 0,V1] 45,.blk aA [.slice a1 a5 a2,.slice a3 a6 a4,.slice a7 a8 a9,.slice o q s] 70,.own 213 2 QL (.slice a1 a5 a2) l0,.own 38 5 QO (.slice a3 a6 a4) l1,.own 45 2 Q8 (.slice a7 a8 a9) l2,.own 4 1 Q13 (.slice o q s) l3]) ?_ ?_
 obtain ⟨b0,aD,hm⟩:=Q7 hm
 rcases Q2k hm with ⟨aK,hm⟩ | ⟨aK,hm⟩
 rcases Q2k hm with ⟨aN,hm⟩ | ⟨aN,hm⟩
 ·
  refine QV [0,1,2,3,4,5,6,7,8,9,10,11,12,13,14,15,16,17,18,19,20,21,23,24,25,26,27,28,31,32] Z Z (fun hok=>(xP hok 0 Z (xP hok 1 Z (Qm hok 2 Z Z Z Zq Z Z Z Q8w (Qr hok 3 1 3 Z Z Z Zq Z Z Z Z (cs:=[_]) Z tS_68 tA_68 Z Z (xP hok 4 Z (Q1C hok 5 5 f Z Z Z Zq Z Z Z Z Z Z (QB aD) tE_68 tS_4 (fun b5 aE=>?_))))))))
  subst aE
  refine Q2v hok 6 Q40 5 f 0 Z Z Z Zq Z Z Z Z aD tS_4 tA_4 (v:=.bool b0) Z Z (fun _=>(xP hok 7 Z (xP hok 8 Z (Q1g (d:=23) (v':=.bool true) (S':=V12 ..) Z Z (Q16 aK) (xP hok 9 Z (xP hok 10 Z (xP hok 11 Z (Q1g (d:=26) (v':=.bool true) (S':=V15 ..) Z Z (Q16 aN) (xO hok 12 Z (xO hok 13 Z (xO hok 14 Z (xO hok 15 Z (xO hok 16 Z (xO hok 17 Z ?_))))))))))))))
  refine xO hok 18 Z (xO hok 19 Z (xO hok 20 Z (xO hok 21 Z (xO hok 23 Z (xO hok 24 Z (xO hok 25 Z (xO hok 26 Z (xO hok 27 Z (xO hok 28 Z ?_)))))))))
  refine Q1v hok 22 29 Z Z Z Z Z Z ?_ ?_
  rotate_left
  focus
   refine wO Z (Q2 (Qs [0] [5,1] Z Z (xS hok 22 Z ?_)))
  rotate_right
  focus
   refine wO Z (Q2 (Qs [0] [5,1] Z Z (xS hok 29 Z ?_)))
  all_goals
   refine wO Z (Q2 (Qs [0] [5,1] Z Z (xS hok 30 Z (wO Z (Q2 (Qs [0] [5,1] Z Z (xP hok 31 Z (xP hok 32 Z (QI hok Z ?_)))))))))
   have hE:=(Zi hm).symm
   refine Qp true hE [5,4,2,0,47] Z (asK [0] Z) Z
 ·
  obtain ⟨aF,aO,hm⟩:=Q7 hm
  obtain ⟨b6,hm⟩:=Qd hm
  obtain ⟨aG,aP,hm⟩:=Q7 hm
  obtain ⟨bD,aY,hm⟩:=Q7 hm
  refine QV [0,1,2,3,4,5,6,7,8,9,10,11,12,13,14,15,16,17,18,19,20,21,23,24,25,26,27,28,31,32] Z Z (fun hok=>(xP hok 0 Z (xP hok 1 Z (Qm hok 2 Z Z Z Zq Z Z Z Q8w (Qr hok 3 1 3 Z Z Z Zq Z Z Z Z (cs:=[_]) Z tS_68 tA_68 Z Z (xP hok 4 Z (Q1C hok 5 5 f Z Z Z Zq Z Z Z Z Z Z (QB aD) tE_68 tS_4 (fun b5 aE=>?_))))))))
  subst aE
  refine Q2v hok 6 Q40 5 f 0 Z Z Z Zq Z Z Z Z aD tS_4 tA_4 (v:=.bool b0) Z Z (fun _=>(xP hok 7 Z (xP hok 8 Z (Q1g (d:=23) (v':=.bool true) (S':=V12 ..) Z Z (Q16 aK) (xP hok 9 Z (xP hok 10 Z (xP hok 11 Z (Q1g (d:=26) (v':=.bool false) (S':=V15 ..) Z Z (Q16 aN) (xP hok 12 Z (xP hok 13 Z (Qm hok 14 Z Z Z Zq Z Z Z tF_70_0 (Qr hok 15 1 0 Z Z Z Zq Z Z Z Z (cs:=[_,_]) Z Q4z Q5L Z Z (xP hok 16 Z (xP hok 17 Z ?_))))))))))))))
  refine Qm hok 18 Z Z Z Zq Z Z Z Q8h (Qr hok 19 1 2 Z Z Z Zq Z Z Z Z (cs:=[_]) Z Q1O Q2I Z Z (xP hok 20 Z (Q1C hok 21 4 f Z Z Z Zq Z Z Z Z Z Z (QB aO) QG Qg (fun bK b7=>?_))))
  subst b7
  refine xP hok 23 Z (xP hok 24 Z (Qm hok 25 Z Z Z Zq Z Z Z Q8h (Qr hok 26 1 2 Z Z Z Zq Z Z Z Z (cs:=[_]) Z Q1O Q2I Z Z (xP hok 27 Z (QS hok 28 4 j.toNat Z Z Z Zq Z Z Z Z Z (QK b6) (QB aP) QG Qg ?_)))))
  refine Q1v hok 22 29 Z Z Z Z Z Z ?_ ?_
  rotate_left
  focus
   refine Qk Qb 4 j.toNat 0 Z Z Z Zq Z Z Z aP Qg QT (v:=fun aB=>.agg #[.int .i64 (aG.rule),.slice aB.1 aG.ids.length aB.2]) (fun _=>Z) (fun _=>Z) (fun aB _=>(Q2 (Qs [1] [1,1,1,5,1] Z Z (xS hok 22 Z (Qk Qb 4 f 0 Z Z Z Zq Z Z Z aO Qg QT (v:=fun aC=>.agg #[.int .i64 (aF.rule),.slice aC.1 aF.ids.length aC.2]) (fun _=>Z) (fun _=>Z) (fun aC _=>(Q2 (Qs [1,2] [1,1,1,5,1] Z Z (xS hok 30 Z (QQ 2 Z (fun aI _=>?_)))))))))))
   subst aI
   refine QQ 3 Z (fun aJ _=>?_)
   subst aJ
   refine Q1y [] [0,1,2,3,4,5] [2,3] Z Z Z Zq Z Z fn_34 Z (Q31 N a1 a2 l0 a3 a4 l1 aF.rule aC.1 aC.2 aF.ids aG.rule aB.1 aB.2 aG.ids _ aY) (fun F w hφ hh=>(Qe (Q1d (hh _ (Qo (k:=0) Z))) (Qe (Q1d (hh _ (Qo (k:=1) Z))) (Qe (hφ _ (Qo (k:=0) Z)) (Qe (hφ _ (Qo (k:=1) Z)) (Qe (hφ _ (Qo (k:=2) Z)) Ql)))))) (fun _ _ _ hR=>by obtain ⟨rfl,rfl,rfl⟩:=hR; exact ⟨Z,(fun _ h=>Q1q h)⟩) Z Z (H':=V6 ..) Z ?_
  rotate_right
  focus
   refine Qk Qb 4 f 0 Z Z Z Zq Z Z Z aO Qg QT (v:=fun aC=>.agg #[.int .i64 (aF.rule),.slice aC.1 aF.ids.length aC.2]) (fun _=>Z) (fun _=>Z) (fun aC _=>(Q2 (Qs [1] [1,1,1,5,1] Z Z (xS hok 29 Z (Qk Qb 4 j.toNat 0 Z Z Z Zq Z Z Z aP Qg QT (v:=fun aB=>.agg #[.int .i64 (aG.rule),.slice aB.1 aG.ids.length aB.2]) (fun _=>Z) (fun _=>Z) (fun aB _=>(Q2 (Qs [1,2] [1,1,1,5,1] Z Z (xS hok 30 Z (QQ 2 Z (fun aI _=>?_)))))))))))
   subst aI
   refine QQ 3 Z (fun aJ _=>?_)
   subst aJ
   refine Q1y [] [0,1,2,3,4,5] [2,3] Z Z Z Zq Z Z fn_34 Z (Q31 N a1 a2 l0 a3 a4 l1 aF.rule aC.1 aC.2 aF.ids aG.rule aB.1 aB.2 aG.ids _ aY) (fun F w hφ hh=>(Qe (Q1d (hh _ (Qo (k:=0) Z))) (Qe (Q1d (hh _ (Qo (k:=1) Z))) (Qe (hφ _ (Qo (k:=1) Z)) (Qe (hφ _ (Qo (k:=0) Z)) (Qe (hφ _ (Qo (k:=2) Z)) Ql)))))) (fun _ _ _ hR=>by obtain ⟨rfl,rfl,rfl⟩:=hR; exact ⟨Z,(fun _ h=>Q1q h)⟩) Z Z (H':=V6 ..) Z ?_
  all_goals
   rintro _ _ _ ⟨rfl,rfl,rfl⟩
   refine Q2 (Qs [0,1,2] [1,1,5,1] Z Z (xP hok 31 Z (xP hok 32 Z (QI hok Z ?_))))
   have hE:=(Zi hm).symm
   refine Qp bD hE [5,4,2,0,47] Z (asK [2] Z) Z
 ·
  refine QV [0,1,2,3,4,5,6,7,8,9,10,11,12,13,14,15,16,17,18,19,20,21,23,24,25,26,27,28,31,32] Z Z (fun hok=>(xP hok 0 Z (xP hok 1 Z (Qm hok 2 Z Z Z Zq Z Z Z Q8w (Qr hok 3 1 3 Z Z Z Zq Z Z Z Z (cs:=[_]) Z tS_68 tA_68 Z Z (xP hok 4 Z (Q1C hok 5 5 f Z Z Z Zq Z Z Z Z Z Z (QB aD) tE_68 tS_4 (fun b5 aE=>?_))))))))
  subst aE
  refine Q2v hok 6 Q40 5 f 0 Z Z Z Zq Z Z Z Z aD tS_4 tA_4 (v:=.bool b0) Z Z (fun _=>(xP hok 7 Z (xP hok 8 Z (Q1g (d:=23) (v':=.bool false) (S':=V12 ..) Z Z (Q16 aK) (xO hok 9 Z (xO hok 10 Z (xO hok 11 Z (xO hok 12 Z (xO hok 13 Z (xO hok 14 Z (xO hok 15 Z (xO hok 16 Z (xO hok 17 Z (xO hok 18 Z ?_))))))))))))))
  refine xO hok 19 Z (xO hok 20 Z (xO hok 21 Z (xO hok 23 Z (xO hok 24 Z (xO hok 25 Z (xO hok 26 Z (xO hok 27 Z (xO hok 28 Z ?_))))))))
  refine Q1v hok 22 29 Z Z Z Z Z Z ?_ ?_
  rotate_left
  focus
   refine wO Z (Q2 (Qs [0] [5,1] Z Z (xS hok 22 Z ?_)))
  rotate_right
  focus
   refine wO Z (Q2 (Qs [0] [5,1] Z Z (xS hok 29 Z ?_)))
  all_goals
   refine wO Z (Q2 (Qs [0] [5,1] Z Z (xS hok 30 Z (wO Z (Q2 (Qs [0] [5,1] Z Z (xO hok 31 Z (xP hok 32 Z (QI hok Z ?_)))))))))
   have hE:=(Zi hm).symm
   refine Qp false hE [5,4,2,0,47] Z (asK [0] Z) Z
 rintro z hE
 try dsimp only
 have hm:=hLj_3
 try rw [hE] at hm
 refine Qv Z (fun aQ=>?_) (fun aQ=>?_)
 replace hm:=Q1m hm aQ
 refine Q5 [5,2,0] (S':=V3 ..) Z (Q3 (wP Z (wP Z (Q2 (Qi ?_)))))
 have hE:=(Zi hm).symm
 refine Qp ((f:Nat):Int) hE [5,4,2,0] Z (asK [0] Z) Z
 replace hm:=Q1l hm aQ
 refine Q5 [5,4,2,0] (S':=V4 ..) Z (Qt (Qi ?_))
 have hE:=(Zi hm).symm
 refine Qp j hE [5,4,2,0] Z (asK [0] Z) Z
 rintro a0 hE
 try dsimp only
 have hm:=hLj_2
 try rw [hE] at hm
 refine Q3 (wP Z (wP Z ?_))
 obtain ⟨b8,hm⟩:=Qd hm
 refine Qx (d:=14) (v':=.int .i64 ((f + 1:Nat):Int)) (S':=V5 ..) Z Z (Q1f (a:=f) (b:=1) b8) (QM (S':=V5 ..) Z Z Z Z Z (Q2 ?_))
 have hE:=(Zi hm).symm
 replace hE:=Q11 hLu1 hE
 refine Q14 (_,f + 1,a0) (Nat.lt_succ_self _) hE [5,4,2,0] Z (asK [0] Z) Z
 replace hm:=Q1l hm aM
 refine Q5 [4,2,0] (S':=V3 ..) Z (Q19 (Qc (Qc (Qu ?_))))
 have hE:=(Zi hm).symm
 replace hE:=QE hLu1 hE
 refine Qp j hE [2,0,4] Z (asK [0] Z) Z
 rintro y hE
 try dsimp only
 have hm:=hLj_1
 try rw [hE] at hm
 refine Q6 (Q6 (Q3 (wP Z (wP Z (Q2 (Q4 (Q5 [50,2,0,4] (S':=V4 ..) Z ?_)))))))
 refine Qv Z (fun aR=>?_) (fun aR=>?_)
 replace hm:=Q1m hm aR
 refine Q5 [2] (S':=[_]) Z (Q6 (Q3 (Q3h Z Z Z Zq Z Q1X tP_45 Z (out:=[_,_]) Z (wS 0 0 Z Qg (all':=[_,_]) Z (H':=V6 ..) Z (wP Z (Q2 (Q4 (Q5 [3,2] (S':=[_,_]) Z (QJ (Qj ?_))))))))))
 have hE:=(Zi hm).symm
 obtain ⟨hE0,hF1⟩:=Prod.mk.inj hE
 obtain ⟨hE1,hE2⟩:=Prod.mk.inj hF1
 clear hE hF1
 replace hE0:=hE0.symm
 subst hE0
 replace hE1:=hE1.symm
 subst hE1
 replace hE2:=hE2.symm
 subst hE2
 refine we_fact (.sli 1 Qh none 0 ([] : List Int)) (fun _ _ _=>Q2m) ?_
 refine Q7w (Hr:=V5 ..) [1,2,3,4,5] Tryz.results12 (Q4Q 0 Z Z Qg QT Z Z) (Qy Z) ⟨none,0,Z,Z,Z⟩ (asK [0] Z) Z Z (.inl Z)
 replace hm:=Q1l hm aR
 refine Q5 [2,0,4] (S':=V3 ..) Z (Qt (Q4 (Q6 (Q3 (wP Z (wP Z (wF Z Q8h (wD 1 2 Z Q1O Q2I Z (wP Z ?_)))))))))
 obtain ⟨b9,hm⟩:=Qd hm
 obtain ⟨bA,aZ,hm⟩:=Q7 hm
 refine Q24 4 y.toNat Z Z Z Zq Z Z Z Z (QK b9) (QB aZ) QG Qg (fun bL bB=>?_)
 subst bB
 refine Qk Qb 4 y.toNat 0 Z Z Z Zq Z Z Z aZ Qg QT (v:=fun aS=>.agg #[.int .i64 (bA.rule),.slice aS.1 bA.ids.length aS.2]) (fun _=>Z) (fun _=>Z) (fun aS _=>(wS 0 0 Z Qg (all':=[_,_]) Z (H':=V6 ..) Z (wP Z (Q2 (Q4 (Q5 [3,2] (S':=[_,_]) Z (QJ ?_)))))))
 have hE:=(Zi hm).symm
 obtain ⟨hE0,hF1⟩:=Prod.mk.inj hE
 obtain ⟨hE1,hE2⟩:=Prod.mk.inj hF1
 clear hE hF1
 replace hE0:=hE0.symm
 subst hE0
 replace hE1:=hE1.symm
 subst hE1
 replace hE2:=hE2.symm
 subst hE2
 refine Q7w (Hr:=V5 ..) [1,2,3,4,5] Tryz.results12 (Q4Q 0 Z Z Qg QT Z Z) (Qy Z) ⟨aS.1,aS.2,Z,Z,Z⟩ (asK [0] Z) Z Z (.inl Z)
theorem Q6z (N:Nat) (aL:Nat) (aA:OA) (aF:Nat) (aB:Nat) (l0:List Qw) (aC:OA) (aG:Nat) (aD:Nat) (l1:List QP) (aH:OA) (aI:Nat) (aJ:Nat) (l2:List Q1) (aK:OA) (a0:Nat) (a1:Nat) (l3:List Bool) (o2:List Q1) (hm:Q3N N l0 l1 l2 l3 = some o2):Q1z Tryz.prog 16 [.pointer (some ⟨aL,0,none⟩)] [tF] [.blk aL [.slice aA aF aB,.slice aC aG aD,.slice aH aI aJ,.slice aK a0 a1] 70,.own 213 2 QL (.slice aA aF aB) l0,.own 38 5 QO (.slice aC aG aD) l1,.own 45 2 Q8 (.slice aH aI aJ) l2,.own 4 1 Q13 (.slice aK a0 a1) l3] (fun v Φr Hr=>∃ (o0:OA) (o1:Nat) (o3:Nat),v = .slice o0 o3 o1 ∧ Φr = [] ∧ Hr = [.own 45 2 Q8 (.slice o0 o3 o1) o2,.blk aL [.slice aA aF aB,.slice aC aG aD,.slice aH aI aJ,.slice aK a0 a1] 70,.own 213 2 QL (.slice aA aF aB) l0,.own 38 5 QO (.slice aC aG aD) l1,.own 45 2 Q8 (.slice aH aI aJ) l2,.own 4 1 Q13 (.slice aK a0 a1) l3]):=by
 unfold Q3N at hm
 refine Q12 Tryz.func16 Z Tryz.ntmps16 Z (S:=[_]) Z (fun C=>(Q6 (Q3 (wP Z (Q2 (Q4 (Q5 [0] (S':=[_]) Z (Q6 (Q3 (wP Z (Q2 (Q4 (Q6 ?_)))))))))))))
 obtain ⟨bA,hm,hLj_1⟩:=Q7 hm
 refine Q15 (σ:=(List Q1) × OA × Nat × Nat) (fun (a9,a2,a3,a4)=>bA = a9) (fun (a9,a2,a3,a4)=>[(3,.slice a2 a4 a3)]) (fun (a9,a2,a3,a4)=>[tF]) (fun (a9,a2,a3,a4)=>[.own 45 2 Q8 (.slice a2 a4 a3) a9,.blk aL [.slice aA aF aB,.slice aC aG aD,.slice aH aI aJ,.slice aK a0 a1] 70,.own 213 2 QL (.slice aA aF aB) l0,.own 38 5 QO (.slice aC aG aD) l1,.own 45 2 Q8 (.slice aH aI aJ) l2,.own 4 1 Q13 (.slice aK a0 a1) l3]) ?_ ?_
 refine Q6 (Q3 (wP Z (Q2 (Q4 (Qn (Q3K 45 2 Q8 (Q1b (σ:=Nat × Nat × (List Q1) × OA × Nat × Nat) (fun (aR,y,f,j,o,s)=>Q1B (Q4j N l2 l3 l0 l1) aR (y,f) = some bA) (fun (aR,y,f,j,o,s)=>aR) (fun (aR,y,f,j,o,s)=>[(4,.int .i64 ((y:Nat):Int)),(3,.slice j s o),(0,.pointer (some ⟨aL,0,none⟩))]) (fun (aR,y,f,j,o,s)=>[tF]) (fun (aR,y,f,j,o,s)=>[.own 45 2 Q8 (.slice j s o) f,.blk aL [.slice aA aF aB,.slice aC aG aD,.slice aH aI aJ,.slice aK a0 a1] 70,.own 213 2 QL (.slice aA aF aB) l0,.own 38 5 QO (.slice aC aG aD) l1,.own 45 2 Q8 (.slice aH aI aJ) l2,.own 4 1 Q13 (.slice aK a0 a1) l3]) (N,0,[],none,0,0) hm [4,3,0] Z (asK [0] Z) Z (fun s_ hm=>?_))))))))
 obtain ⟨aR,y,f,j,o,s⟩:=s_
 try dsimp only at hm ⊢
 obtain ⟨c9,cA,bM,hq,hLu1⟩:=Q18 hm
 clear hm
 subst bM
 replace hm:=hq
 clear hq
 unfold Q4j at hm
 try dsimp only at hm
 refine Q6 (Q6 (Q3 (wP Z (wP Z (wP Z (wF Z Q8h (wD 1 2 Z Q1O Q2I Z (QQ 4 Z (fun bN _=>(wN Z QG (Qx (d:=12) (v':=.int .i64 ((l2.length:Nat):Int)) (S':=V8 ..) Z Z (Q3F bN) (wP Z (Qx (d:=13) (v':=.bool (decide (y < l2.length))) (S':=V9 ..) Z Z (Q20 (a:=y) (b:=l2.length)) (Q2 ?_))))))))))))))
 refine Q4 (Q5 [13,4,3,0] (S':=V4 ..) Z ?_)
 refine Qv Z (fun b1=>?_) (fun b1=>?_)
 replace hm:=Q1m hm b1
 refine Q5 [4,3,0] (S':=V3 ..) Z (Qt (Q4 (Q6 ?_)))
 obtain ⟨bO,hm,hLj_2⟩:=Q7 hm
 unfold Q6j at hm
 refine Q15 (σ:=(List Q1) × OA × Nat × Nat) (fun (a5,a6,a7,a8)=>bO = a5) (fun (a5,a6,a7,a8)=>[(4,.int .i64 ((y:Nat):Int)),(3,.slice a6 a8 a7),(0,.pointer (some ⟨aL,0,none⟩))]) (fun (a5,a6,a7,a8)=>[tF]) (fun (a5,a6,a7,a8)=>[.own 45 2 Q8 (.slice a6 a8 a7) a5,.blk aL [.slice aA aF aB,.slice aC aG aD,.slice aH aI aJ,.slice aK a0 a1] 70,.own 213 2 QL (.slice aA aF aB) l0,.own 38 5 QO (.slice aC aG aD) l1,.own 45 2 Q8 (.slice aH aI aJ) l2,.own 4 1 Q13 (.slice aK a0 a1) l3]) ?_ ?_
 refine Qn (Q6 (Q6 (Q3 (wP Z (wP Z (wF Z Q8w (wD 1 3 Z tS_68 tA_68 Z (wP Z ?_))))))))
 obtain ⟨c3,bB,hm⟩:=Q7 hm
 refine Q24 5 y Z Z Z Zq Z Z Z Z Z (QB bB) tE_68 tS_4 (fun aZ bP=>?_)
 subst bP
 refine Qk Q40 5 y 0 Z Z Z Zq Z Z Z bB tS_4 tA_4 (v:=fun _=>.bool c3) (fun _=>Z) (fun _=>Z) (fun _ _=>(wP Z (Q2 (Q4 (Q5 [23,4,3,0] (S':=V4 ..) Z ?_)))))
 refine Qv Z (fun b2=>?_) (fun b2=>?_)
 replace hm:=Q1m hm b2
 refine Q5 [4,3,0] (S':=V3 ..) Z (Q19 (Qc (Qu ?_)))
 have hE:=(Zi hm).symm
 refine Qp (f,j,o,s) hE [4,3,0] Z (asK [0] Z) Z
 replace hm:=Q1l hm b2
 refine Q5 [4,3,0] (S':=V3 ..) Z (Qt (Q4 (Q6 (Q3 (wP Z (Q2 (Q4 (Q6 ?_))))))))
 obtain ⟨bC,hm,hLj_3⟩:=Q7 hm
 refine Q15 (σ:=Nat) (fun q=>bC = q) (fun q=>[(4,.int .i64 ((y:Nat):Int)),(3,.slice j s o),(0,.pointer (some ⟨aL,0,none⟩)),(5,.int .i64 ((q:Nat):Int))]) (fun q=>[tF]) (fun q=>[.own 45 2 Q8 (.slice j s o) f,.blk aL [.slice aA aF aB,.slice aC aG aD,.slice aH aI aJ,.slice (some ⟨aZ,0,none⟩) a0 a1] 70,.own 213 2 QL (.slice aA aF aB) l0,.own 38 5 QO (.slice aC aG aD) l1,.own 45 2 Q8 (.slice aH aI aJ) l2,.own 4 1 Q13 (.slice (some ⟨aZ,0,none⟩) a0 a1) l3]) ?_ ?_
 refine Qn (Q1b (σ:=Nat × Nat) (fun (aS,z)=>Q1B (Q4k N f l2 y l0 l1) aS z = some bC) (fun (aS,z)=>aS) (fun (aS,z)=>[(5,.int .i64 ((z:Nat):Int)),(4,.int .i64 ((y:Nat):Int)),(3,.slice j s o),(0,.pointer (some ⟨aL,0,none⟩))]) (fun (aS,z)=>[tF]) (fun (aS,z)=>[.own 45 2 Q8 (.slice j s o) f,.blk aL [.slice aA aF aB,.slice aC aG aD,.slice aH aI aJ,.slice (some ⟨aZ,0,none⟩) a0 a1] 70,.own 213 2 QL (.slice aA aF aB) l0,.own 38 5 QO (.slice aC aG aD) l1,.own 45 2 Q8 (.slice aH aI aJ) l2,.own 4 1 Q13 (.slice (some ⟨aZ,0,none⟩) a0 a1) l3]) (N,0) hm [5,4,3,0] Z (asK [0] Z) Z (fun s_ hm=>?_))
 obtain ⟨aS,z⟩:=s_
 try dsimp only at hm ⊢
 obtain ⟨cB,cC,bQ,hq,hLu2⟩:=Q18 hm
 clear hm
 subst bQ
 replace hm:=hq
 clear hq
 unfold Q4k at hm
 try dsimp only at hm
 refine Q6 (Q6 ?_)
 obtain ⟨bR,hm,hLj_4⟩:=Q7 hm
 refine Q15 (σ:=Bool) (fun aE=>bR = aE) (fun aE=>[(5,.int .i64 ((z:Nat):Int)),(4,.int .i64 ((y:Nat):Int)),(3,.slice j s o),(0,.pointer (some ⟨aL,0,none⟩)),(45,.bool aE)]) (fun aE=>[tF]) (fun aE=>[.own 45 2 Q8 (.slice j s o) f,.blk aL [.slice aA aF aB,.slice aC aG aD,.slice aH aI aJ,.slice (some ⟨aZ,0,none⟩) a0 a1] 70,.own 213 2 QL (.slice aA aF aB) l0,.own 38 5 QO (.slice aC aG aD) l1,.own 45 2 Q8 (.slice aH aI aJ) l2,.own 4 1 Q13 (.slice (some ⟨aZ,0,none⟩) a0 a1) l3]) ?_ ?_
 rcases Q2k hm with ⟨b3,hm⟩ | ⟨b3,hm⟩
 ·
  obtain ⟨aP,b4,hm⟩:=Q7 hm
  obtain ⟨aQ,b5,hm⟩:=Q7 hm
  obtain ⟨c4,bD,hm⟩:=Q7 hm
  refine QV [0,1,2,3,4,5,6,7,8,9,10,11,13,14,15,16,17,18,21] Z Z (fun hok=>(xP hok 0 Z (xP hok 1 Z (Q6E 0 Z (fun b6 _=>(Q3r hok 2 Z Z Z Zq Z Z Z QG (Q1g (d:=26) (v':=.int .i64 ((f.length:Nat):Int)) (S':=V6 ..) Z Z (Q3F b6) (xP hok 3 Z (Q1g (d:=27) (v':=.bool (decide (z < f.length))) (S':=V7 ..) Z Z (Q20 (a:=z) (b:=f.length)) (xP hok 4 Z (Q1g (d:=28) (v':=.bool true) (S':=V8 ..) Z Z (Q16 b3) (xP hok 5 Z (xP hok 6 Z (Qm hok 7 Z Z Z Zq Z Z Z tF_70_0 (Qr hok 8 1 0 Z Z Z Zq Z Z Z Z (cs:=[_,_]) Z Q4z Q5L Z Z ?_)))))))))))))))
  refine xP hok 9 Z (xP hok 10 Z (Q1C hok 11 0 z Z Z Z Zq Z Z Z Z Z Z (QB b4) QG Qg (fun cD bS=>?_)))
  subst bS
  refine xP hok 13 Z (xP hok 14 Z (Qm hok 15 Z Z Z Zq Z Z Z Q8h (Qr hok 16 1 2 Z Z Z Zq Z Z Z Z (cs:=[_]) Z Q1O Q2I Z Z (xP hok 17 Z (Q1C hok 18 4 y Z Z Z Zq Z Z Z Z Z Z (QB b5) QG Qg (fun cE bT=>?_))))))
  subst bT
  refine Q1v hok 12 19 Z Z Z Z Z Z ?_ ?_
  rotate_left
  focus
   refine Qk Qb 4 y 0 Z Z Z Zq Z Z Z b5 Qg QT (v:=fun aM=>.agg #[.int .i64 (aQ.rule),.slice aM.1 aQ.ids.length aM.2]) (fun _=>Z) (fun _=>Z) (fun aM _=>(Q2 (Qs [1] [1,1] Z Z (xS hok 12 Z (Qk Qb 0 z 0 Z Z Z Zq Z Z Z b4 Qg QT (v:=fun aN=>.agg #[.int .i64 (aP.rule),.slice aN.1 aP.ids.length aN.2]) (fun _=>Z) (fun _=>Z) (fun aN _=>(Q2 (Qs [1,2] [1,1] Z Z (xS hok 20 Z (QQ 2 Z (fun aT _=>?_)))))))))))
   subst aT
   refine QQ 3 Z (fun aU _=>?_)
   subst aU
   refine Q1y [] [0,1,2,3,4,5] [2,3] Z Z Z Zq Z Z fn_34 Z (Q31 N aA aB l0 aC aD l1 aP.rule aN.1 aN.2 aP.ids aQ.rule aM.1 aM.2 aQ.ids _ bD) (fun F w hφ hh=>(Qe (Q1d (hh _ (Qo (k:=0) Z))) (Qe (Q1d (hh _ (Qo (k:=1) Z))) (Qe (hφ _ (Qo (k:=0) Z)) (Qe (hφ _ (Qo (k:=1) Z)) (Qe (hφ _ (Qo (k:=2) Z)) Ql)))))) (fun _ _ _ hR=>by obtain ⟨rfl,rfl,rfl⟩:=hR; exact ⟨Z,(fun _ h=>Q1q h)⟩) Z Z (H':=V6 ..) Z ?_
  rotate_right
  focus
   refine Qk Qb 0 z 0 Z Z Z Zq Z Z Z b4 Qg QT (v:=fun aN=>.agg #[.int .i64 (aP.rule),.slice aN.1 aP.ids.length aN.2]) (fun _=>Z) (fun _=>Z) (fun aN _=>(Q2 (Qs [1] [1,1] Z Z (xS hok 19 Z (Qk Qb 4 y 0 Z Z Z Zq Z Z Z b5 Qg QT (v:=fun aM=>.agg #[.int .i64 (aQ.rule),.slice aM.1 aQ.ids.length aM.2]) (fun _=>Z) (fun _=>Z) (fun aM _=>(Q2 (Qs [1,2] [1,1] Z Z (xS hok 20 Z (QQ 2 Z (fun aT _=>?_)))))))))))
   subst aT
   refine QQ 3 Z (fun aU _=>?_)
   subst aU
   refine Q1y [] [0,1,2,3,4,5] [2,3] Z Z Z Zq Z Z fn_34 Z (Q31 N aA aB l0 aC aD l1 aP.rule aN.1 aN.2 aP.ids aQ.rule aM.1 aM.2 aQ.ids _ bD) (fun F w hφ hh=>(Qe (Q1d (hh _ (Qo (k:=0) Z))) (Qe (Q1d (hh _ (Qo (k:=1) Z))) (Qe (hφ _ (Qo (k:=1) Z)) (Qe (hφ _ (Qo (k:=0) Z)) (Qe (hφ _ (Qo (k:=2) Z)) Ql)))))) (fun _ _ _ hR=>by obtain ⟨rfl,rfl,rfl⟩:=hR; exact ⟨Z,(fun _ h=>Q1q h)⟩) Z Z (H':=V6 ..) Z ?_
  all_goals
   rintro _ _ _ ⟨rfl,rfl,rfl⟩
   refine Q2 (Qs [0,1,2] [1] Z Z (xP hok 21 Z (QI hok Z ?_)))
   have hE:=(Zi hm).symm
   refine Qp c4 hE [5,4,3,0,45] Z (asK [2] Z) Z
 ·
  refine QV [0,1,2,3,4,5,6,7,8,9,10,11,13,14,15,16,17,18,21] Z Z (fun hok=>(xP hok 0 Z (xP hok 1 Z (Q6E 0 Z (fun b6 _=>(Q3r hok 2 Z Z Z Zq Z Z Z QG (Q1g (d:=26) (v':=.int .i64 ((f.length:Nat):Int)) (S':=V6 ..) Z Z (Q3F b6) (xP hok 3 Z (Q1g (d:=27) (v':=.bool (decide (z < f.length))) (S':=V7 ..) Z Z (Q20 (a:=z) (b:=f.length)) (xP hok 4 Z (Q1g (d:=28) (v':=.bool false) (S':=V8 ..) Z Z (Q16 b3) (xO hok 5 Z (xO hok 6 Z (xO hok 7 Z (xO hok 8 Z ?_)))))))))))))))
  refine xO hok 9 Z (xO hok 10 Z (xO hok 11 Z (xO hok 13 Z (xO hok 14 Z (xO hok 15 Z (xO hok 16 Z (xO hok 17 Z (xO hok 18 Z ?_))))))))
  refine Q1v hok 12 19 Z Z Z Z Z Z ?_ ?_
  rotate_left
  focus
   refine wO Z (Q2 (Qs [0] [] Z Z (xS hok 12 Z ?_)))
  rotate_right
  focus
   refine wO Z (Q2 (Qs [0] [] Z Z (xS hok 19 Z ?_)))
  all_goals
   refine wO Z (Q2 (Qs [0] [] Z Z (xS hok 20 Z (wO Z (Q2 (Qs [0] [] Z Z (xP hok 21 Z (QI hok Z ?_))))))))
   have hE:=(Zi hm).symm
   refine Qp false hE [5,4,3,0,45] Z (asK [0] Z) Z
 rintro aE hE
 try dsimp only
 have hm:=hLj_4
 try rw [hE] at hm
 refine Qv Z (fun b7=>?_) (fun b7=>?_)
 replace hm:=Q1m hm b7
 refine Q5 [5,4,3,0] (S':=V4 ..) Z (Qt (Q4 (Qn (Q3 (wP Z (wP Z ?_))))))
 obtain ⟨bU,hm⟩:=Qd hm
 refine Qx (d:=47) (v':=.int .i64 ((z + 1:Nat):Int)) (S':=V5 ..) Z Z (Q1f (a:=z) (b:=1) bU) (QM (S':=V5 ..) Z Z Z Z Z (Q2 (Qi ?_)))
 have hE:=(Zi hm).symm
 replace hE:=Q11 hLu2 hE
 refine Q14 (_,z + 1) (Nat.lt_succ_self _) hE [5,4,3,0] Z (asK [0] Z) Z
 replace hm:=Q1l hm b7
 refine Q5 [5,4,3,0] (S':=V4 ..) Z (Q19 (Qc (Qc (Qu ?_))))
 have hE:=(Zi hm).symm
 replace hE:=QE hLu2 hE
 refine Qp z hE [4,3,0,5] Z (asK [0] Z) Z
 rintro q hE
 try dsimp only
 have hm:=hLj_3
 try rw [hE] at hm
 refine Q6 (Q3 (Qq Z Z Z Zq Z QG Qg Q1X Z (zs:=[]) (by kernel_rfl) Z (out:=[]) Z (fun bV=>(wP Z (wP Z ?_)))))
 obtain ⟨bE,hm⟩:=Qd hm
 refine Q9t 1 Z (fun bJ b8=>(Q82 Z Z Z Zq Z Z Z Z QG Qg (Nat.le_trans bE (by rw [← b8.2]; exact b8.1)) bJ (QQ 1 Z (fun b0 _=>?_))))
 subst b0
 refine Q6B 1 Z (H':=V6 ..) Z (Q2j (.sli 2 Q8 j o f) (fun F w hφ=>Q1d (hφ _ (Qo (k:=0) Z))) (Q2j (.sli 2 Q8 j o (f.take q)) (fun _ _ hφ=>view_to (hφ _ (Qo (k:=0) Z)) q) (Q23 0 (v':=.slice j ((f.take q).length) o) Z (take_slice bE) (Q1U (sz:=2) (m:=0) Qa.pair [] 0 Z (fun F w hφ=>Z) Z (by decide) (H':=V6 ..) Z (Q1t [Q1w Qa [] none,_,_,_,_,_,_] (fun _ h=>h.bagNil Qa) (Q1t [Q1e Qa 45 2 (.slice (some ⟨bV,0,none⟩) 0 0) ([] : List Q1),_,_,_,_,_] (fun _ h=>h.treeIn 1 0 Z Z Z Z) (Q1t [.own 45 2 Q8 (.slice (some ⟨bV,0,none⟩) 0 0) ([] : List Q1),_,_,_,_,_] (fun _ h=>h.letgo Q3a 0 Z) ?_)))))))
 obtain ⟨bF,hm⟩:=Qd hm
 refine Q8v 0 0 Z Z Z Zq Z Z Z Z Z QG Q8i Z Z (Nat.le_trans bF (by decide)) (Nat.le_trans (Nat.mul_le_mul_right _ bF) (by decide)) (H2:=fun bW bX=>[.own 45 2 Q8 (.slice bW ((([] : List Q1) ++ (f.take q)).length) bX) (([] : List Q1) ++ (f.take q)),_,_,_,_,_]) (fun _ _=>Z) (fun bW bX=>(wP Z (Q2 (Q4 (Q5 [6,4,3,0,5] (S':=V5 ..) Z (Q6 (Q3 (wP Z (wP Z (wP Z (wF Z Q8h (wD 1 2 Z Q1O Q2I Z (wP Z ?_)))))))))))))
 obtain ⟨aO,bG,hm⟩:=Q7 hm
 refine Q24 4 y Z Z Z Zq Z Z Z Z Z (QB bG) QG Qg (fun cF bY=>?_)
 subst bY
 refine Qk Qb 4 y 0 Z Z Z Zq Z Z Z bG Qg QT (v:=fun aV=>.agg #[.int .i64 (aO.rule),.slice aV.1 aO.ids.length aV.2]) (fun _=>Z) (fun _=>Z) (fun aV _=>(Qq Z Z Z Zq Z QG Qg Q1X Z (zs:=[.int .i64 0,V1]) (by kernel_rfl) Z (out:=[_,_]) Z (fun cG=>?_)))
 obtain ⟨bH,hm⟩:=Qd hm
 refine Q21 [aO] 1 0 Z Z Z Zq Z Z Z Z Z (fun F w hφ=>⟨[.int .i64 (aO.rule),.slice aV.1 aO.ids.length aV.2],[],Z,Z,⟨(aV.1,aV.2),Z,(Qe (hφ _ (Qo (k:=0) Z)) Ql)⟩,Z⟩) QG Q8i Z Z (Nat.le_trans bH (by decide)) (Nat.le_trans (Nat.mul_le_mul_right _ bH) (by decide)) (H2:=fun bZ c0=>[_,.own 45 2 Q8 (.slice bZ (((([] : List Q1) ++ (f.take q)) ++ [aO]).length) c0) ((([] : List Q1) ++ (f.take q)) ++ [aO]),_,_,_,_,_]) (fun _ _=>Z) (fun bZ c0=>(Q2J 0 Z (H':=V6 ..) Z (QM (S':=V14 ..) Z Z Z Z Z (Q2 (Q4 (Q5 [6,4,3,0,5] (S':=V5 ..) Z (Q3 (wP Z (wP Z (wP Z ?_))))))))))
 obtain ⟨c1,hm⟩:=Qd hm
 refine wl_sliFrom 2 Z Z Z Zq Z Z Z Z Z QG Qg c1 (fun cH=>?_)
 obtain ⟨bI,hm⟩:=Qd hm
 refine Q8v 0 0 Z Z Z Zq Z Z Z Z Z QG Q8i Z Z (Nat.le_trans bI (by decide)) (Nat.le_trans (Nat.mul_le_mul_right _ bI) (by decide)) (H2:=fun bK bL=>[.own 45 2 Q8 (.slice bK ((((([] : List Q1) ++ (f.take q)) ++ [aO]) ++ (f.drop q)).length) bL) (((([] : List Q1) ++ (f.take q)) ++ [aO]) ++ (f.drop q)),_,_,_,_,_]) (fun _ _=>Z) (fun bK bL=>(QM (S':=V9 ..) Z Z Z Z Z (Q2 (Qi ?_))))
 have hE:=(Zi hm).symm
 refine Qp ((((([] : List Q1) ++ (f.take q)) ++ [aO]) ++ (f.drop q)),bK,bL,((((([] : List Q1) ++ (f.take q)) ++ [aO]) ++ (f.drop q)).length)) hE [4,3,0] Z (asK [5] Z) Z
 rintro ⟨a5,a6,a7,a8⟩ hE
 try dsimp only
 have hm:=hLj_2
 try rw [hE] at hm
 refine Q3 (wP Z (wP Z ?_))
 obtain ⟨c2,hm⟩:=Qd hm
 refine Qx (d:=15) (v':=.int .i64 ((y + 1:Nat):Int)) (S':=V4 ..) Z Z (Q1f (a:=y) (b:=1) c2) (QM (S':=V4 ..) Z Z Z Z Z (Q2 ?_))
 have hE:=(Zi hm).symm
 replace hE:=Q11 hLu1 hE
 refine Q14 (_,y + 1,a5,a6,a7,a8) (Nat.lt_succ_self _) hE [4,3,0] Z (asK [0] Z) Z
 replace hm:=Q1l hm b1
 refine Q5 [3] (S':=[_]) Z (Q19 (Qc (Qc (Qu ?_))))
 have hE:=(Zi hm).symm
 replace hE:=QE hLu1 hE
 refine Qp (f,j,o,s) hE [3] Z (asK [0] Z) Z
 rintro ⟨a9,a2,a3,a4⟩ hE
 try dsimp only
 have hm:=hLj_1
 try rw [hE] at hm
 refine Q6 (Q3 (wP Z (wP Z (Q2 (Q4 (Q5 [2] (S':=[_]) Z (QJ ?_)))))))
 have hE:=(Zi hm).symm
 replace hE:=hE.symm
 subst hE
 refine QA (Hr:=V6 ..) [0,1,2,3,4,5] Tryz.results16 (Qy Z) ⟨a2,a3,a4,Z,Z,Z⟩ (asK [] Z) Z Z (.inl Z)
theorem Q7r (N:Nat) (z:OA) (a0:Nat) (y:List Q1) (a1:OA) (a2:Nat) (l1:List Q1) (o0:Bool) (hm:Q4B N y l1 = some o0):Q1z Tryz.prog 14 [.slice z y.length a0,.slice a1 l1.length a2] [.sli 2 Q8 z a0 y,.sli 2 Q8 a1 a2 l1] [] (fun v Φr Hr=>v = .bool o0 ∧ Φr = [] ∧ Hr = []):=by
 unfold Q4B at hm
 refine Q12 Tryz.func14 Z Tryz.ntmps14 Z (S:=[_,_]) Z (fun C=>(Q6 (Q3 (wP Z (Q2 (Q4 (Q5 [0,1] (S':=[_,_]) Z (Q6 (Q6 (Q3 (wP Z (wN Z QG (wP Z (wN Z QG ?_))))))))))))))
 refine wP Z (Qx (d:=10) (v':=.bool (y.length != l1.length)) (S':=V6 ..) Z Z (Q8e (a:=y.length) (b:=l1.length)) (Q2 (Q4 (Q5 [10,0,1] (S':=V3 ..) Z ?_))))
 refine Qv Z (fun o=>?_) (fun o=>?_)
 replace hm:=Q1m hm o
 refine Q5 [] (S':=[]) Z (Q6 (Q3 (wP Z (Q2 (Q4 (QJ (Qj ?_)))))))
 have hE:=(Zi hm).symm
 replace hE:=hE.symm
 subst hE
 refine QA (Hr:=[]) [] Tryz.results14 (Qy Z) ⟨Z,Z,Z⟩ (asK [] Z) Z Z (.inl Z)
 replace hm:=Q1l hm o
 refine Q5 [0,1] (S':=[_,_]) Z (Qt (Q4 (Q6 ?_)))
 obtain ⟨a4,hm,hLj_1⟩:=Q1R hm
 refine Q15 (σ:=Unit) (fun _=>a4 = .inl ()) (fun _=>[]) (fun _=>[]) (fun _=>[]) ?_ ?_
 refine Q6 (Q3 (wP Z (Q2 (Q4 (Qn (Q1b (σ:=Nat × Nat) (fun (j,f)=>Q1B (Q5h N y l1) j f = some a4) (fun (j,f)=>j) (fun (j,f)=>[(5,.int .i64 ((f:Nat):Int)),(0,.slice z y.length a0),(1,.slice a1 l1.length a2)]) (fun (j,f)=>[.sli 2 Q8 z a0 y,.sli 2 Q8 a1 a2 l1]) (fun (j,f)=>[]) (N,0) hm [5,0,1] Z (asK [0,1] Z) Z (fun s_ hm=>?_)))))))
 obtain ⟨j,f⟩:=s_
 try dsimp only at hm ⊢
 obtain ⟨aL,aM,a5,hq,hLu1⟩:=Q18 hm
 clear hm
 subst a5
 replace hm:=hq
 clear hq
 unfold Q5h at hm
 try dsimp only at hm
 refine Q6 (Q6 (Q3 (wP Z (wP Z (wN Z QG (wP Z (Qx (d:=14) (v':=.bool (decide (f < y.length))) (S':=V6 ..) Z Z (Q20 (a:=f) (b:=y.length)) (Q2 (Q4 (Q5 [14,5,0,1] (S':=V4 ..) Z ?_))))))))))
 refine Qv Z (fun q=>?_) (fun q=>?_)
 replace hm:=Q1m hm q
 refine Q5 [5,0,1] (S':=V3 ..) Z (Qt (Q4 (Q6 (Qn (Q6 ?_)))))
 obtain ⟨a6,a7,hm⟩:=Q7 hm
 obtain ⟨a8,a9,hm⟩:=Q7 hm
 obtain ⟨aN,aA,hm⟩:=Q7 hm
 refine QV [0,1,2,3,4,5,6,7,9] Z Z (fun hok=>(xP hok 0 Z (xP hok 1 Z (Q1o hok 2 0 f Z Z Z Zq Z Z Z Z Z Z a7 QG Qg (fun aO aP aJ aG=>(Q1u Qb 1 Z (fun aB aC _=>?_)))))))
 subst aC
 refine Q1I hok 3 1 0 Z Z Z Zq Z Z Z Z (cs:=[_,_]) Z Qg QT Z Z (xP hok 4 Z (xP hok 5 Z (Q1o hok 6 4 f Z Z Z Zq Z Z Z Z Z Z a9 QG Qg (fun aQ aR aK aH=>(Q1u Qb 1 Z (fun aD aE _=>?_))))))
 subst aE
 refine Q1I hok 7 1 0 Z Z Z Zq Z Z Z Z (cs:=[_,_]) Z Qg QT Z Z (xS hok 8 Z (wC [] [] Z fn_13 Z (Q4o N a6.rule aB.1 aB.2 a6.ids a8.rule aD.1 aD.2 a8.ids _ aA) (asK [3,0] Z) Z (H':=[]) Z ?_))
 rintro _ _ _ ⟨rfl,rfl,rfl⟩
 refine Q2 (Qs [0,1,2,3,4,5,6,7] [] Z Z (xP hok 9 Z (QI hok Z (Q4 (Q5 [26,5,0,1] (S':=V4 ..) Z ?_)))))
 refine Qv Z (fun s=>?_) (fun s=>?_)
 replace hm:=Q1m hm s
 refine Q5 [] (S':=[]) Z (Q6 (Q3 (wP Z (Q2 (Q4 (QJ (QR (Qj (Qj (QR (Qj ?_)))))))))))
 have hE:=(Zi hm).symm
 replace hE:=QE hLu1 hE
 replace hE:=QE hLj_1 hE
 replace hE:=hE.symm
 subst hE
 refine QA (Hr:=[]) [] Tryz.results14 (Qy Z) ⟨Z,Z,Z⟩ (asK [] Z) Z Z (.inl Z)
 replace hm:=Q1l hm s
 refine Q5 [5,0,1] (S':=V3 ..) Z (Qt (Qi (Q4 (Q3 (wP Z (wP Z ?_))))))
 obtain ⟨aF,hm⟩:=Qd hm
 refine Qx (d:=16) (v':=.int .i64 ((f + 1:Nat):Int)) (S':=V4 ..) Z Z (Q1f (a:=f) (b:=1) aF) (QM (S':=V4 ..) Z Z Z Z Z (Q2 ?_))
 have hE:=(Zi hm).symm
 replace hE:=Q11 hLu1 hE
 refine Q14 (_,f + 1) (Nat.lt_succ_self _) hE [5,0,1] Z (asK [6,7] Z) Z
 replace hm:=Q1l hm q
 refine Q5 [] (S':=[]) Z (Q19 (Qc (Qc (Qu ?_))))
 have hE:=(Zi hm).symm
 replace hE:=QE hLu1 hE
 refine Qp () hE [] Z (asK [] Z) Z
 rintro _ hE
 try dsimp only
 have hm:=Q11 hLj_1 hE
 try dsimp only at hm
 refine Q6 (Q3 (wP Z (Q2 (Q4 (QJ ?_)))))
 have hE:=(Zi hm).symm
 replace hE:=hE.symm
 subst hE
 refine QA (Hr:=[]) [] Tryz.results14 (Qy Z) ⟨Z,Z,Z⟩ (asK [] Z) Z Z (.inl Z)
theorem ap_putInts (g:Nat) (p2:OA) (c2:Nat) (f:List Hdr) (q:OA) (s:Nat) (y:List Hdr) (p:OA) (n c:Nat) (hL2:f.length + 1 ≤ 1073741824) (hB2:Bd f) (hn:n ≤ 10000):Q1z Tryz.prog 102 [.pointer (some ⟨g,0,none⟩),.slice p n c] [] [.blk g [V1,V1,.slice p2 f.length c2,V1,V1,V1,V1,V1,V1,V1,V1,V1,V1,V1,V1,V1,V1,.slice q y.length s,V1,V1,V1,V1,V1,V1,V1,V1,V1,V1,V1] 106,.own 22 1 Q2Z (.slice p2 f.length c2) f,Q1x 3 1 (f.map Q58),Q1x 3 1 ([Q58 (p,n,c)])] (fun v Φr Hr=>∃ (q2:OA) (d2:Nat) (z:List Hdr),z.length ≤ f.length + 1 ∧ Bd z ∧ z = f ++ ([(p,n,c)] : List Hdr) ∧ v = .tuple #[] ∧ Φr = [] ∧ Hr = [.blk g [V1,V1,.slice q2 z.length d2,V1,V1,V1,V1,V1,V1,V1,V1,V1,V1,V1,V1,V1,V1,.slice q y.length s,V1,V1,V1,V1,V1,V1,V1,V1,V1,V1,V1] 106,.own 22 1 Q2Z (.slice q2 z.length d2) z,Q1x 3 1 (z.map Q58)]):=by
 refine Q12 Tryz.func102 Z Tryz.ntmps102 Z (S:=[_,_]) Z (fun C=>(Q3 (wP Z (wP Z (wP Z (wF Z tF_106_2 (wD 0 2 Z tS_54 tA_54 Z (wP Z (Qq Z Z Z Zq Z Q59 Q1T tZ_22 Z (zs:=[V1]) (by kernel_rfl) Z (out:=[_]) Z (fun a1=>(Q21 ([(p,n,c)] : List Hdr) 2 0 Z Z Z Zq Z Z Z Z Z (fun F w hφ=>⟨[_],[],Z,Z,Z,Z⟩) Q59 tR_22 Z Z (by simp; omega) (by simp; omega) (H2:=fun j o=>[.blk a1 [.slice p n c] 22,.blk g [V1,V1,.slice p2 f.length c2,V1,V1,V1,V1,V1,V1,V1,V1,V1,V1,V1,V1,V1,V1,.slice q y.length s,V1,V1,V1,V1,V1,V1,V1,V1,V1,V1,V1] 106,.own 22 1 Q2Z (.slice j ((f ++ ([(p,n,c)] : List Hdr)).length) o) (f ++ ([(p,n,c)] : List Hdr)),Q1x 3 1 (f.map Q58),Q1x 3 1 ([Q58 (p,n,c)])]) (fun _ _=>Z) (fun j o=>(Q2J 0 Z (H':=V4 ..) Z (wP Z (wF Z tF_106_2 (wS 0 2 Z tS_54 (all':=V29 ..) Z (H':=V4 ..) Z ?_))))))))))))))))
 refine Q2 (Q6J [.blk g [V1,V1,.slice j ((f ++ ([(p,n,c)] : List Hdr)).length) o,V1,V1,V1,V1,V1,V1,V1,V1,V1,V1,V1,V1,V1,V1,.slice q y.length s,V1,V1,V1,V1,V1,V1,V1,V1,V1,V1,V1] 106,.own 22 1 Q2Z (.slice j ((f ++ ([(p,n,c)] : List Hdr)).length) o) (f ++ ([(p,n,c)] : List Hdr)),Q1x 3 1 ((f ++ [(p,n,c)]).map Q58)] (fun _ h=>h.flPush 2 3 Z Z Z) (Q4R (Hr:=[.blk g [V1,V1,.slice j ((f ++ ([(p,n,c)] : List Hdr)).length) o,V1,V1,V1,V1,V1,V1,V1,V1,V1,V1,V1,V1,V1,V1,.slice q y.length s,V1,V1,V1,V1,V1,V1,V1,V1,V1,V1,V1] 106,.own 22 1 Q2Z (.slice j ((f ++ ([(p,n,c)] : List Hdr)).length) o) (f ++ ([(p,n,c)] : List Hdr)),Q1x 3 1 ((f ++ [(p,n,c)]).map Q58)]) [0,1,2] Tryz.results102 ?_ (asK [] Z) Z Z (.inr Z)))
 exact ⟨_,_,_,by simp,hB2.push hn,Z,Z,Z,Z⟩
theorem ap_oneToken (g:Nat) (p2:OA) (c2:Nat) (y:List Hdr) (j:OA) (o:Nat) (q:List Hdr) (a0:Int) (a2:OA) (s a3:Nat) (hL2:y.length + 1 ≤ 1073741824) (hB2:Bd y) (a8:s ≤ 10000):Q1z Tryz.prog 56 [.pointer (some ⟨g,0,none⟩),.agg #[.int .i64 a0,.slice a2 s a3]] [] [.blk g [V1,V1,.slice p2 y.length c2,V1,V1,V1,V1,V1,V1,V1,V1,V1,V1,V1,V1,V1,V1,.slice j q.length o,V1,V1,V1,V1,V1,V1,V1,V1,V1,V1,V1] 106,.own 22 1 Q2Z (.slice p2 y.length c2) y,Q1x 3 1 (y.map Q58),Q1x 3 1 ([Q58 (a2,s,a3)])] (fun v Φr Hr=>∃ (q2:OA) (d2:Nat) (k2:List Hdr),k2.length ≤ y.length + 1 ∧ Bd k2 ∧ v = .tuple #[] ∧ Φr = [] ∧ Hr = [.blk g [V1,V1,.slice q2 k2.length d2,V1,V1,V1,V1,V1,V1,V1,V1,V1,V1,V1,V1,V1,V1,.slice j q.length o,V1,V1,V1,V1,V1,V1,V1,V1,V1,V1,V1] 106,.own 22 1 Q2Z (.slice q2 k2.length d2) k2,Q1x 3 1 (k2.map Q58)]):=by
 refine Q12 Tryz.func56 Z Tryz.ntmps56 Z (S:=[_,_]) Z (fun C=>(Q6 (Q3 (wB Z (fun g3=>(Q2 (Q4 (Q3 (wP Z (wF Z Q2i (wD 0 1 Z Q1T Q2Q Z (wC [1,2,3,4] [0] Z fn_102 Z (ap_putInts _ p2 c2 y j o q a2 s a3 (by omega) hB2 a8) (asK [] Z) Z (H':=[_]) Z ?_))))))))))))
 rintro _ _ _ ⟨z,a1,f,a4,a5,aB,rfl,rfl,rfl⟩
 refine Q2 (Q4R (Hr:=[.blk g [V1,V1,.slice z f.length a1,V1,V1,V1,V1,V1,V1,V1,V1,V1,V1,V1,V1,V1,V1,.slice j q.length o,V1,V1,V1,V1,V1,V1,V1,V1,V1,V1,V1] 106,.own 22 1 Q2Z (.slice z f.length a1) f,Q1x 3 1 (f.map Q58)]) [0,1,2] Tryz.results56 ?_ (asK [] Z) Z Z (.inr Z))
 exact ⟨_,_,_,by have:=a4; omega,a5,Z,Z,Z⟩
theorem ap_putTokens (g:Nat) (p2:OA) (c2:Nat) (h2:List Hdr) (a7:OA) (a8:Nat) (f:List Hdr) (p:OA) (c:Nat) (xs:List Q1) (hL2:h2.length + 10000 ≤ 1073741824) (hB2:Bd h2) (hL17:f.length + 1 ≤ 1073741824) (hB17:Bd f) (hn:xs.length ≤ 10000) (hx : ∀ y ∈ xs,Q79 y):Q1z Tryz.prog 36 [.pointer (some ⟨g,0,none⟩),.slice p xs.length c] [] [.blk g [V1,V1,.slice p2 h2.length c2,V1,V1,V1,V1,V1,V1,V1,V1,V1,V1,V1,V1,V1,V1,.slice a7 f.length a8,V1,V1,V1,V1,V1,V1,V1,V1,V1,V1,V1] 106,.own 22 1 Q2Z (.slice p2 h2.length c2) h2,Q1x 3 1 (h2.map Q58),.own 40 1 Q2Z (.slice a7 f.length a8) f,Q1x 45 2 (f.map Q58),Q1e Qa 45 2 (.slice p xs.length c) xs] (fun v Φr Hr=>∃ (q2:OA) (d2:Nat) (k2:List Hdr) (aF:OA) (aG:Nat) (a3:List Hdr),k2.length ≤ h2.length + 10000 ∧ Bd k2 ∧ a3.length ≤ f.length + 1 ∧ Bd a3 ∧ v = .tuple #[] ∧ Φr = [] ∧ Hr = [.blk g [V1,V1,.slice q2 k2.length d2,V1,V1,V1,V1,V1,V1,V1,V1,V1,V1,V1,V1,V1,V1,.slice aF a3.length aG,V1,V1,V1,V1,V1,V1,V1,V1,V1,V1,V1] 106,.own 22 1 Q2Z (.slice q2 k2.length d2) k2,Q1x 3 1 (k2.map Q58),.own 40 1 Q2Z (.slice aF a3.length aG) a3,Q1x 45 2 (a3.map Q58)]):=by
 refine Q12 Tryz.func36 Z Tryz.ntmps36 Z (S:=[_,_]) Z (fun C=>(Q6 (Q3 (Q39 5 Z (fun zz aH=>?_)))))
 have hzl:zz.length = xs.length:=Q2t aH
 refine wP Z (wP Z (wP Z (wF Z tF_106_17 (wD 1 17 Z tS_52 tA_52 Z (wP Z (Qq Z Z Z Zq Z Q6y Q1O tZ_40 Z (zs:=[V1]) (by kernel_rfl) Z (out:=[_]) Z (fun aO=>(Q21 ([(p,xs.length,c)] : List Hdr) 5 0 Z Z Z Zq Z Z Z Z Z (fun F w hφ=>⟨[_],[],Z,Z,Z,Z⟩) Q6y tR_40 Z Z (by simp; omega) (by simp; omega) (H2:=fun o q=>[.blk aO [.slice p xs.length c] 40,Q1w Qa (zz.drop 0) none,.blk g [V1,V1,.slice p2 h2.length c2,V1,V1,V1,V1,V1,V1,V1,V1,V1,V1,V1,V1,V1,V1,.slice a7 f.length a8,V1,V1,V1,V1,V1,V1,V1,V1,V1,V1,V1] 106,.own 22 1 Q2Z (.slice p2 h2.length c2) h2,Q1x 3 1 (h2.map Q58),.own 40 1 Q2Z (.slice o ((f ++ ([(p,xs.length,c)] : List Hdr)).length) q) (f ++ ([(p,xs.length,c)] : List Hdr)),Q1x 45 2 (f.map Q58),.own 45 2 Qa.pair (.slice p xs.length c) zz]) (fun _ _=>Z) (fun o q=>(Q2J 0 Z (H':=V7 ..) Z (wP Z (wF Z tF_106_17 (wS 1 17 Z tS_52 (all':=V29 ..) Z (H':=V7 ..) Z (Q2 (Q4 ?_)))))))))))))))
 refine Q5 [0,1] (S':=[_,_]) Z (Q6 (Q3 (wP Z (Q2 (Q4 (Qn (Q1b (σ:=OA × Nat × List Hdr × Nat) (fun s=>s.2.2.2 ≤ xs.length ∧ s.2.2.1.length ≤ h2.length + s.2.2.2 * 1 ∧ Bd s.2.2.1) (fun s=>xs.length - s.2.2.2) (fun s=>[(4,.int .i64 ((s.2.2.2:Nat):Int)),(0,.pointer (some ⟨g,0,none⟩)),(1,.slice p xs.length c)]) (fun s=>[]) (fun s=>[Q1w Qa (zz.drop s.2.2.2) none,.blk g [V1,V1,.slice s.1 s.2.2.1.length s.2.1,V1,V1,V1,V1,V1,V1,V1,V1,V1,V1,V1,V1,V1,V1,.slice o ((f ++ ([(p,xs.length,c)] : List Hdr)).length) q,V1,V1,V1,V1,V1,V1,V1,V1,V1,V1,V1] 106,.own 22 1 Q2Z (.slice s.1 s.2.2.1.length s.2.1) s.2.2.1,Q1x 3 1 (s.2.2.1.map Q58),.own 40 1 Q2Z (.slice o ((f ++ ([(p,xs.length,c)] : List Hdr)).length) q) (f ++ ([(p,xs.length,c)] : List Hdr)),Q1x 45 2 (f.map Q58),.own 45 2 Qa.pair (.slice p xs.length c) zz]) (p2,c2,h2,0) ⟨Nat.zero_le _,Nat.le_add_right _ _,hB2⟩ [4,0,1] Z (asK [] Z) Z (fun j a5=>(Q6 (Q6 (Q3 (wP Z (wP Z (wN Z QG ?_))))))))))))))
 refine wP Z (Q2 (Q4 (Q5 [18,4,0,1] (S':=V4 ..) Z ?_)))
 refine Qv Z (fun a4=>?_) (fun a4=>?_)
 replace a4:=of_decide_eq_true a4
 have aI:j.2.2.2 < zz.length:=by omega
 obtain ⟨z1,a9⟩ : ∃ z,zz[j.2.2.2]? = some z:=⟨_,List.getElem?_eq_getElem aI⟩
 have hxs:=hx z1.1 (by rw [← aH]; exact List.mem_map_of_mem (List.mem_of_getElem? a9))
 unfold Q79 at hxs
 obtain ⟨aJ,aK,aA⟩:=a5
 refine Qt (Q4 (Q6 (Qn (Q3 (wP Z (wP Z (wP Z (Q24 6 j.2.2.2 Z Z Z Zq Z Z Z Z Z aI QG Qg (fun a0 aL=>?_)))))))))
 subst aL
 refine Qk Q7Z 6 j.2.2.2 0 Z Z Z Zq Z Z Z a9 Qg QT (v:=fun _=>.agg #[.int .i64 (z1.1.rule),.slice z1.2.1 z1.1.ids.length z1.2.2]) (fun _=>Z) (fun _=>Z) (fun _ _=>(Q1t [.own 3 1 Qh (.slice z1.2.1 z1.1.ids.length z1.2.2) z1.1.ids,Q1w Qa (zz.drop (j.2.2.2 + 1)) none,.blk g [V1,V1,.slice j.1 j.2.2.1.length j.2.1,V1,V1,V1,V1,V1,V1,V1,V1,V1,V1,V1,V1,V1,V1,.slice o ((f ++ ([((some ⟨a0,0,none⟩),xs.length,c)] : List Hdr)).length) q,V1,V1,V1,V1,V1,V1,V1,V1,V1,V1,V1] 106,.own 22 1 Q2Z (.slice j.1 j.2.2.1.length j.2.1) j.2.2.1,Q1x 3 1 (j.2.2.1.map Q58),.own 40 1 Q2Z (.slice o ((f ++ ([((some ⟨a0,0,none⟩),xs.length,c)] : List Hdr)).length) q) (f ++ ([((some ⟨a0,0,none⟩),xs.length,c)] : List Hdr)),Q1x 45 2 (f.map Q58),.own 45 2 Qa.pair (.slice (some ⟨a0,0,none⟩) xs.length c) zz] (fun _ h=>h.bagUncons 0 Z a9) (Q1t [Q1x 3 1 ([Q58 (z1.2.1,z1.1.ids.length,z1.2.2)]),Q1w Qa (zz.drop (j.2.2.2 + 1)) none,.blk g [V1,V1,.slice j.1 j.2.2.1.length j.2.1,V1,V1,V1,V1,V1,V1,V1,V1,V1,V1,V1,V1,V1,V1,.slice o ((f ++ ([((some ⟨a0,0,none⟩),xs.length,c)] : List Hdr)).length) q,V1,V1,V1,V1,V1,V1,V1,V1,V1,V1,V1] 106,.own 22 1 Q2Z (.slice j.1 j.2.2.1.length j.2.1) j.2.2.1,Q1x 3 1 (j.2.2.1.map Q58),.own 40 1 Q2Z (.slice o ((f ++ ([((some ⟨a0,0,none⟩),xs.length,c)] : List Hdr)).length) q) (f ++ ([((some ⟨a0,0,none⟩),xs.length,c)] : List Hdr)),Q1x 45 2 (f.map Q58),.own 45 2 Qa.pair (.slice (some ⟨a0,0,none⟩) xs.length c) zz] (fun _ h=>h.flOne 0 Z) (wC [2,3,4,0] [1,5,6,7] Z fn_56 Z (ap_oneToken _ j.1 j.2.1 j.2.2.1 o q (f ++ ([((some ⟨a0,0,none⟩),xs.length,c)] : List Hdr)) z1.1.rule z1.2.1 z1.1.ids.length z1.2.2 (by omega) aA hxs) (asK [] Z) Z (H':=V4 ..) Z ?_))))
 rintro _ _ _ ⟨aM,aN,a6,aB,aC,rfl,rfl,rfl⟩
 refine Q2 (Qi (Q4 (Q3 (wP Z (wP Z (Qx (d:=20) (v':=.int .i64 ((j.2.2.2 + 1:Nat):Int)) (S':=V11 ..) Z Z (Q1f (a:=j.2.2.2) (b:=1) (by omega)) (QM (S':=V11 ..) Z Z Z Z Z (Q2 (Q17 [3,0,1,2,4,5,6] Z (H':=V7 ..) Z ?_)))))))))
 refine Q3g (aM,aN,a6,j.2.2.2 + 1) (by show xs.length - (j.2.2.2 + 1) < xs.length - j.2.2.2; omega) ⟨by show j.2.2.2 + 1 ≤ _; omega,by have:=aB; show List.length (a6) ≤ _ + (j.2.2.2 + 1) * _; omega,aC⟩ [4,0,1] Z (asK [] Z) Z
 replace a4:=of_decide_eq_false a4
 obtain ⟨aJ,aK,aA⟩:=a5
 refine Q19 (Qc (Qc (Qu (Q6J [Q1w Qa (zz.drop j.2.2.2) none,.blk g [V1,V1,.slice j.1 j.2.2.1.length j.2.1,V1,V1,V1,V1,V1,V1,V1,V1,V1,V1,V1,V1,V1,V1,.slice o ((f ++ ([(p,xs.length,c)] : List Hdr)).length) q,V1,V1,V1,V1,V1,V1,V1,V1,V1,V1,V1] 106,.own 22 1 Q2Z (.slice j.1 j.2.2.1.length j.2.1) j.2.2.1,Q1x 3 1 (j.2.2.1.map Q58),.own 40 1 Q2Z (.slice o ((f ++ ([(p,xs.length,c)] : List Hdr)).length) q) (f ++ ([(p,xs.length,c)] : List Hdr)),Q1x 45 2 (f.map Q58),Q1x 45 2 [Q58 (p,xs.length,c)]] (fun _ h=>by have h2:=h.flOne 6 Z; exact h2) (Q6J [Q1w Qa (zz.drop j.2.2.2) none,.blk g [V1,V1,.slice j.1 j.2.2.1.length j.2.1,V1,V1,V1,V1,V1,V1,V1,V1,V1,V1,V1,V1,V1,V1,.slice o ((f ++ ([(p,xs.length,c)] : List Hdr)).length) q,V1,V1,V1,V1,V1,V1,V1,V1,V1,V1,V1] 106,.own 22 1 Q2Z (.slice j.1 j.2.2.1.length j.2.1) j.2.2.1,Q1x 3 1 (j.2.2.1.map Q58),.own 40 1 Q2Z (.slice o ((f ++ ([(p,xs.length,c)] : List Hdr)).length) q) (f ++ ([(p,xs.length,c)] : List Hdr)),Q1x 45 2 ((f ++ [(p,xs.length,c)]).map Q58)] (fun _ h=>h.flPush 5 6 Z Z Z) (Q4R (Hr:=[.blk g [V1,V1,.slice j.1 j.2.2.1.length j.2.1,V1,V1,V1,V1,V1,V1,V1,V1,V1,V1,V1,V1,V1,V1,.slice o ((f ++ ([(p,xs.length,c)] : List Hdr)).length) q,V1,V1,V1,V1,V1,V1,V1,V1,V1,V1,V1] 106,.own 22 1 Q2Z (.slice j.1 j.2.2.1.length j.2.1) j.2.2.1,Q1x 3 1 (j.2.2.1.map Q58),.own 40 1 Q2Z (.slice o ((f ++ ([(p,xs.length,c)] : List Hdr)).length) q) (f ++ ([(p,xs.length,c)] : List Hdr)),Q1x 45 2 ((f ++ [(p,xs.length,c)]).map Q58)]) [1,2,3,4,5] Tryz.results36 ?_ (asK [] Z) Z Z (.inr Z)))))))
 exact ⟨_,_,_,_,_,_,by have h9:=aK; have h8:j.2.2.2 * 1 ≤ 10000 * 1:=Nat.mul_le_mul_right _ (Nat.le_trans aJ hn); omega,aA,by simp,hB17.push hn,Z,Z,Z⟩
def z_mark (k i:Int):Int:=IntKind.wrap .i64 ((IntKind.wrap .i64 (1000003 * (IntKind.wrap .i64 (k + 7)))) + i)
theorem Q9v (k i:Int):Q1z Tryz.prog 99 [.int .i64 k,.int .i64 i] [] [] (fun v Φr Hr=>v = .int .i64 (z_mark k i) ∧ Φr = [] ∧ Hr = []):=Q3V 0 k i rfl
def Q5Z (k i:Nat):List Value:=[.int .i64 (z_mark ((k:Nat):Int) ((i:Nat):Int))]
theorem fl_flatInts (p:OA) (c:Nat) (hs:List Hdr) (hL:hs.length ≤ 1073741824) (hb : ∀ h ∈ hs,h.2.1 ≤ 1073741824):Q1z Tryz.prog 59 [.slice p hs.length c] [] [.own 22 1 Q2Z (.slice p hs.length c) hs,Q1x 3 1 (hs.map Q58)] (fun v Φr Hr=>∃ rows,FlE hs Q5Z rows ∧ v = .bool true ∧ Φr = [] ∧ Hr = [Q1x 3 1 rows]):=by
 refine Q12 Tryz.func59 Z Tryz.ntmps59 Z (S:=[_]) Z (fun C=>(Q6 (Q3 (wP Z (Q2 (Q4 (Q6 (Q6 (Q3 (wP Z (Q2 (Q4 (Qn (Q1b (σ:=List Q7k × Nat) (fun s=>s.2 ≤ hs.length ∧ FlA hs Q5Z s.2 0 s.1) (fun s=>hs.length - s.2) (fun s=>[(3,.int .i64 ((s.2:Nat):Int)),(2,.bool false),(0,.slice p hs.length c)]) (fun s=>[]) (fun s=>[.own 22 1 Q2Z (.slice p hs.length c) hs,Q1x 3 1 s.1]) (hs.map Q58,0) ⟨Nat.zero_le _,FlA.start⟩ [3,2,0] Z (asK [] Z) Z (fun o b5=>?_)))))))))))))))
 refine Q6 (Q6 (Q3 (wP Z (wP Z (wN Z Q59 (wP Z (Q2 (Q4 (Q5 [19,3,2,0] (S':=V4 ..) Z ?_)))))))))
 refine Qv Z (fun aO=>?_) (fun aO=>?_)
 replace aO:=of_decide_eq_true aO
 have b7:o.2 < hs.length:=by omega
 obtain ⟨y1,aJ⟩ : ∃ y,hs[o.2]? = some y:=⟨_,List.getElem?_eq_getElem b7⟩
 have hB1:y1.2.1 ≤ 1073741824:=hb _ (List.mem_of_getElem? aJ)
 refine Qt (Q4 (Q6 (Qn (Q6 (Q3 (wP Z (Q2 (Q4 (Qn (Q1b (σ:=List Q7k × Nat) (fun s=>s.2 ≤ y1.2.1 ∧ FlA hs Q5Z o.2 s.2 s.1) (fun s=>y1.2.1 - s.2) (fun s=>[(4,.int .i64 ((s.2:Nat):Int)),(19,.bool (decide (((o.2:Nat):Int) < ((hs.length:Nat):Int)))),(3,.int .i64 ((o.2:Nat):Int)),(2,.bool false),(0,.slice p hs.length c)]) (fun s=>[]) (fun s=>[.own 22 1 Q2Z (.slice p hs.length c) hs,Q1x 3 1 s.1]) (o.1,0) ⟨Nat.zero_le _,b5.2⟩ [4,19,3,2,0] Z (asK [] Z) Z (fun s2 aP=>(Q6 (Q6 (Q3 ?_))))))))))))))
 refine wP Z (wP Z (wP Z (Q24 0 o.2 Z Z Z Zq Z Z Z Z Z b7 Q59 Q1T (fun cG bL=>?_))))
 subst bL
 refine Qk Q2w 0 o.2 0 Z Z Z Zq Z Z Z aJ Q1T Q2Q (v:=fun _=>.slice y1.1 y1.2.1 y1.2.2) (fun _=>Z) (fun _=>Z) (fun _ _=>(wN Z Q1a (wP Z (Q2 (Q4 (Q5 [28,4,19,3,2,0] (S':=V6 ..) Z ?_))))))
 refine Qv Z (fun aQ=>?_) (fun aQ=>?_)
 replace aQ:=of_decide_eq_true aQ
 obtain ⟨r2,b8,bM,bN,c2⟩:=aP.2.at_ aJ
 refine Qt (Q4 (Q6 (Qn (QV [0,1,2,3,4,5,6,8] Z Z (fun hok=>(xP hok 0 Z (xP hok 1 Z (QS hok 2 0 o.2 Z Z Z Zq Z Z Z Z Z Z b7 Q59 Q1T (Q2v hok 3 Q2w 0 o.2 0 Z Z Z Zq Z Z Z Z aJ Q1T Q2Q (v:=.slice y1.1 y1.2.1 y1.2.2) Z Z (fun _=>(xP hok 4 Z (xP hok 5 Z (xP hok 6 Z (xS hok 7 Z (wC [] [0,1] Z fn_99 Z (Q9v ((o.2:Nat):Int) ((s2.2:Nat):Int)) (asK [] Z) Z (H':=[_,_]) Z ?_)))))))))))))))
 rintro _ _ _ ⟨rfl,rfl,rfl⟩
 refine Q2 (Qs [] [0] Z Z (Q9e hok 8 (p:=y1.1) (m:=y1.2.1) (cp:=y1.2.2) 1 o.2 s2.2 Z Z Z Zq Z Z Z b8 bM Z Z Z (by omega) c2 Q1a Q1i (fun cH bO=>(xS hok 9 Z (wl_flStore (cs:=Q5Z o.2 s2.2) 1 o.2 s2.2 Z Z Z Z b8 bN (hdr_eq bM bO) Z (by omega) Z Z Q1i Z (one_of Z) (H':=[_,_]) Z (Q2 (Qs [] [] Z Z (QI hok Z (Qi (Q4 (Q3 (wP Z (wP Z (Qx (d:=30) (v':=.int .i64 ((s2.2 + 1:Nat):Int)) (S':=V16 ..) Z Z (Q1f (a:=s2.2) (b:=1) (by omega)) ?_))))))))))))))
 refine QM (S':=V16 ..) Z Z Z Z Z (Q2 ?_)
 refine Q3g (s2.1.set o.2 ⟨r2.h,(r2.l.set s2.2 (some (Q5Z o.2 s2.2))),r2.h,(r2.l.set s2.2 (some (Q5Z o.2 s2.2)))⟩,s2.2 + 1) (by show y1.2.1 - (s2.2 + 1) < _; omega) ⟨by show s2.2 + 1 ≤ _; omega,aP.2.store aJ b8 (by omega)⟩ [4,19,3,2,0] Z (asK [] Z) Z
 replace aQ:=of_decide_eq_false aQ
 refine Q19 (Qc (Qc (Qu (Qi (Q4 (Q3 (wP Z (wP Z (Qx (d:=21) (v':=.int .i64 ((o.2 + 1:Nat):Int)) (S':=V7 ..) Z Z (Q1f (a:=o.2) (b:=1) (by omega)) (QM (S':=V7 ..) Z Z Z Z Z (Q2 ?_)))))))))))
 refine Q3g (s2.1,o.2 + 1) (by show hs.length - (o.2 + 1) < _; omega) ⟨by show o.2 + 1 ≤ _; omega,aP.2.next aJ (by omega)⟩ [3,2,0] Z (asK [] Z) Z
 replace aO:=of_decide_eq_false aO
 refine Q19 (Qc (Qc (Qu (Q4 (Q6 (Q3 (wP Z (wN Z Q59 (Q7y (m:=hs.length) Q2Z (none,0,0) Z Z Z Zq Z Z Z Z Z Q59 tR_22 Z Z (fun _ _=>Z) (by omega) (by omega) (fun q=>(wP Z (Q2 (Q4 (Q5 [5,19,3,2,0] (S':=V5 ..) Z ?_))))))))))))))
 refine Q6 (Q6 (Q3 (wP Z (Q2 (Q4 (Qn (Q1b (σ:=List Hdr × List Q7k × Nat) (fun s=>s.2.2 ≤ hs.length ∧ FlB hs Q5Z s.1 s.2.2 s.2.1) (fun s=>hs.length - s.2.2) (fun s=>[(6,.int .i64 ((s.2.2:Nat):Int)),(5,.slice (some ⟨q,0,none⟩) hs.length hs.length),(19,.bool (decide (((o.2:Nat):Int) < ((hs.length:Nat):Int)))),(3,.int .i64 ((o.2:Nat):Int)),(2,.bool false),(0,.slice p hs.length c)]) (fun s=>[]) (fun s=>[.own 22 1 Q2Z (.slice (some ⟨q,0,none⟩) hs.length hs.length) s.1,.own 22 1 Q2Z (.slice p hs.length c) hs,Q1x 3 1 s.2.1]) (List.replicate hs.length (none,0,0),o.1,0) ⟨Nat.zero_le _,b5.2.grow (by omega) (by simp)⟩ [6,5,19,3,2,0] Z (asK [] Z) Z (fun f a1=>(Q6 (Q6 (Q3 (wP Z (wP Z (wN Z Q59 ?_))))))))))))))
 refine wP Z (Q2 (Q4 (Q5 [46,6,5,19,3,2,0] (S':=V7 ..) Z ?_)))
 refine Qv Z (fun aR=>?_) (fun aR=>?_)
 replace aR:=of_decide_eq_true aR
 have aK:f.2.2 < hs.length:=by omega
 obtain ⟨y3,aL⟩ : ∃ y,hs[f.2.2]? = some y:=⟨_,List.getElem?_eq_getElem aK⟩
 have hB3:y3.2.1 ≤ 1073741824:=hb _ (List.mem_of_getElem? aL)
 refine Qt (Q4 (Q6 (Qn (Q6 (Q3 (wP Z (wP Z (Q24 1 f.2.2 Z Z Z Zq Z Z Z Z Z aK Q59 Q1T (fun bP bQ=>?_)))))))))
 subst bQ
 refine Qk Q2w 1 f.2.2 0 Z Z Z Zq Z Z Z aL Q1T Q2Q (v:=fun _=>.slice y3.1 y3.2.1 y3.2.2) (fun _=>Z) (fun _=>Z) (fun _ _=>(wP Z (Q2 (Q4 (Q5 [7,46,6,5,19,3,2,0] (S':=V8 ..) Z (Q6 (Q6 (Q3 (wP Z (Q2 (Q4 (Qn (Q1b (σ:=List Q7k × Hdr × Nat) (fun s=>s.2.2 ≤ 64 ∧ FlC hs Q5Z f.1 f.2.2 s.2.2 s.2.1 s.1) (fun s=>64 - s.2.2) (fun s=>[(8,.int .i64 ((s.2.2:Nat):Int)),(7,.slice s.2.1.1 s.2.1.2.1 s.2.1.2.2),(46,.bool (decide (((f.2.2:Nat):Int) < ((hs.length:Nat):Int)))),(6,.int .i64 ((f.2.2:Nat):Int)),(5,.slice (some ⟨q,0,none⟩) hs.length hs.length),(19,.bool (decide (((o.2:Nat):Int) < ((hs.length:Nat):Int)))),(3,.int .i64 ((o.2:Nat):Int)),(2,.bool false),(0,.slice (some ⟨bP,0,none⟩) hs.length c)]) (fun s=>[]) (fun s=>[.own 22 1 Q2Z (.slice (some ⟨q,0,none⟩) hs.length hs.length) f.1,.own 22 1 Q2Z (.slice (some ⟨bP,0,none⟩) hs.length c) hs,Q1x 3 1 s.1]) (f.2.1,y3,0) ⟨Nat.zero_le _,a1.2.begin aL⟩ [8,7,46,6,5,19,3,2,0] Z (asK [] Z) Z (fun s4 aS=>(Q6 ?_)))))))))))))))
 refine Q6 (Q3 (wP Z (wP Z (Q2 (Q4 (Q5 [54,8,7,46,6,5,19,3,2,0] (S':=V10 ..) Z ?_))))))
 refine Qv Z (fun aT=>?_) (fun aT=>?_)
 replace aT:=of_decide_eq_true aT
 obtain ⟨r4,bR,cI,cJ,c3,bS⟩:=aS.2.at_ aL
 refine Qt (Q4 (Q6 (Qn (Q3 (wP Z (wP Z (wP Z (wP Z (Q6C 1 f.2.2 Z Z Z Zq Z Z Z Z Z aK Q59 Q1T (Qk Q2w 1 f.2.2 0 Z Z Z Zq Z Z Z aL Q1T Q2Q (v:=fun _=>.slice y3.1 y3.2.1 y3.2.2) (fun _=>Z) (fun _=>Z) (fun _ _=>(wN Z Q1a (wP Z (wP Z ?_))))))))))))))
 refine Qx (d:=65) (v':=.int .i64 ((y3.2.1 + s4.2.2:Nat):Int)) (S':=V18 ..) Z Z (Q1f (a:=y3.2.1) (b:=s4.2.2) (by omega)) (wC [] [0,1,2] Z fn_99 Z (Q9v ((f.2.2:Nat):Int) ((y3.2.1 + s4.2.2:Nat):Int)) (asK [] Z) Z (H':=V3 ..) Z ?_)
 rintro _ _ _ ⟨rfl,rfl,rfl⟩
 refine Qq Z Z Z Zq Z Q1a Q1i Q3S Z (zs:=[.int .i64 0]) (by kernel_rfl) Z (out:=[_]) Z (fun cK=>(wl_flAppB (cs:=Q5Z f.2.2 (y3.2.1 + s4.2.2)) 3 f.2.2 0 Z Z Z Zq Z Z bR (by rw [c3]; rfl) Z Z Z (one_of Z) Q1a tR_3 Z Z (by rw [bS]; simp only [Q2y,List.length_append,List.length_cons,List.length_nil]; omega) (by rw [bS]; simp only [Q2y,List.length_append,List.length_cons,List.length_nil]; omega) (H2:=fun aF=>[_,_,_,Q1x 3 1 (s4.1.set f.2.2 ⟨r4.h,r4.l,aF,r4.m ++ [some (Q5Z f.2.2 (y3.2.1 + s4.2.2))]⟩)]) (fun _=>Z) (fun aF=>(Q2J 0 Z (H':=V3 ..) Z (QM (S':=V21 ..) Z Z Z Z Z (Q2 (Qi (Q4 (Q3 (wP Z (wP Z (Qx (d:=56) (v':=.int .i64 ((s4.2.2 + 1:Nat):Int)) (S':=V23 ..) Z Z (Q1f (a:=s4.2.2) (b:=1) (by omega)) (QM (S':=V23 ..) Z Z Z Z Z (Q2 ?_))))))))))))))
 refine Q3g (s4.1.set f.2.2 ⟨r4.h,r4.l,aF,r4.m ++ [some (Q5Z f.2.2 (y3.2.1 + s4.2.2))]⟩,aF,s4.2.2 + 1) (by show 64 - (s4.2.2 + 1) < _; omega) ⟨by show s4.2.2 + 1 ≤ 64; omega,aS.2.app aL bR _⟩ [8,7,46,6,5,19,3,2,0] Z (asK [] Z) Z
 replace aT:=of_decide_eq_false aT
 refine Q19 (Qc (Qc (Qu (Q4 (Q3 (wP Z (wP Z (wP Z (Q6C 0 f.2.2 Z Z Z Zq Z Z Z Z Z (by rw [a1.2.2.1]; exact aK) Q59 Q1T (Q10 (u:=s4.2.1) 0 f.2.2 Z Z Z Z Z (by rw [a1.2.2.1]; exact aK) Z Z Q1T Z (fun _ _ _=>Z) (H':=V3 ..) Z (Q2 (Qi (Q4 ?_)))))))))))))
 refine Q3 (wP Z (wP Z (Qx (d:=48) (v':=.int .i64 ((f.2.2 + 1:Nat):Int)) (S':=V15 ..) Z Z (Q1f (a:=f.2.2) (b:=1) (by omega)) (QM (S':=V15 ..) Z Z Z Z Z (Q2 ?_)))))
 have bT:=aS.2
 rw [show s4.2.2 = 64 from by omega] at bT
 refine Q3g (f.1.set f.2.2 s4.2.1,s4.1,f.2.2 + 1) (by show hs.length - (f.2.2 + 1) < _; omega) ⟨by show f.2.2 + 1 ≤ _; omega,bT.done aK⟩ [6,5,19,3,2,0] Z (asK [] Z) Z
 replace aR:=of_decide_eq_false aR
 refine Q19 (Qc (Qc (Qu (Q4 (Q6 (Q6 (Q3 (wP Z (Q2 (Q4 (Qn (Q1b (σ:=Nat) (fun s=>s ≤ hs.length) (fun s=>hs.length - s) (fun s=>[(9,.int .i64 ((s:Nat):Int)),(46,.bool (decide (((f.2.2:Nat):Int) < ((hs.length:Nat):Int)))),(6,.int .i64 ((f.2.2:Nat):Int)),(5,.slice (some ⟨q,0,none⟩) hs.length hs.length),(19,.bool (decide (((o.2:Nat):Int) < ((hs.length:Nat):Int)))),(3,.int .i64 ((o.2:Nat):Int)),(2,.bool false),(0,.slice p hs.length c)]) (fun s=>[]) (fun s=>[.own 22 1 Q2Z (.slice (some ⟨q,0,none⟩) hs.length hs.length) f.1,.own 22 1 Q2Z (.slice p hs.length c) hs,Q1x 3 1 f.2.1]) 0 (Nat.zero_le _) [9,46,6,5,19,3,2,0] Z (asK [] Z) Z (fun z c7=>(Q6 ?_))))))))))))))
 refine Q6 (Q3 (wP Z (wP Z (wN Z Q59 (wP Z (Q2 (Q4 (Q5 [76,9,46,6,5,19,3,2,0] (S':=V9 ..) Z ?_))))))))
 refine Qv Z (fun aU=>?_) (fun aU=>?_)
 replace aU:=of_decide_eq_true aU
 have aV:z < hs.length:=by omega
 obtain ⟨y5,aZ⟩ : ∃ y,hs[z]? = some y:=⟨_,List.getElem?_eq_getElem aV⟩
 have hB5:y5.2.1 ≤ 1073741824:=hb _ (List.mem_of_getElem? aZ)
 obtain ⟨r5,aW,bU,b9,bV,bA⟩:=a1.2.look (by omega) aZ
 refine wc_flLen 2 Z aW (fun hA5 hC5=>?_)
 rw [b9,Q2y] at hA5
 rw [bA,Q2y] at hC5
 refine Qt (Q4 (Q6 (Qn (Q6 (Q3 (wP Z (Q2 (Q4 (Qn (Q1b (σ:=Nat) (fun s=>s ≤ y5.2.1 + 64) (fun s=>y5.2.1 + 64 - s) (fun s=>[(10,.int .i64 ((s:Nat):Int)),(76,.bool (decide (((z:Nat):Int) < ((hs.length:Nat):Int)))),(9,.int .i64 ((z:Nat):Int)),(46,.bool (decide (((f.2.2:Nat):Int) < ((hs.length:Nat):Int)))),(6,.int .i64 ((f.2.2:Nat):Int)),(5,.slice (some ⟨q,0,none⟩) hs.length hs.length),(19,.bool (decide (((o.2:Nat):Int) < ((hs.length:Nat):Int)))),(3,.int .i64 ((o.2:Nat):Int)),(2,.bool false),(0,.slice p hs.length c)]) (fun s=>[]) (fun s=>[.own 22 1 Q2Z (.slice (some ⟨q,0,none⟩) hs.length hs.length) f.1,.own 22 1 Q2Z (.slice p hs.length c) hs,Q1x 3 1 f.2.1]) 0 (Nat.zero_le _) [10,76,9,46,6,5,19,3,2,0] Z (asK [] Z) Z (fun s6 c8=>(Q6 (Q6 (Q3 ?_))))))))))))))
 refine wP Z (wP Z (wP Z (Q6C 0 z Z Z Z Zq Z Z Z Z Z (by rw [a1.2.2.1]; exact aV) Q59 Q1T (Qk Q2w 0 z 0 Z Z Z Zq Z Z Z bV Q1T Q2Q (v:=fun _=>.slice r5.g.1 r5.g.2.1 r5.g.2.2) (fun _=>Z) (fun _=>Z) (fun _ _=>(wN Z Q1a (wP Z (Q2 (Q4 (Q5 [85,10,76,9,46,6,5,19,3,2,0] (S':=V11 ..) Z ?_))))))))))
 refine Qv Z (fun aX=>?_) (fun aX=>?_)
 replace aX:=of_decide_eq_true aX
 refine Qt (Q4 (Q6 (Qn (Q6 (QV [0,1,2,3,4,5,6,7,8,10,11,12,13,14,15,16,17,18,19,20,21,22,23,24,25,26,27,28,29,31,32,33,34] Z Z (fun hok=>(xP hok 0 Z (xP hok 1 Z (QS hok 2 0 z Z Z Z Zq Z Z Z Z Z Z (by rw [a1.2.2.1]; exact aV) Q59 Q1T (Q2v hok 3 Q2w 0 z 0 Z Z Z Zq Z Z Z Z bV Q1T Q2Q (v:=.slice r5.g.1 r5.g.2.1 r5.g.2.2) Z Z (fun _=>(xP hok 4 Z (QaI hok 5 (p:=r5.g.1) (m:=r5.g.2.1) (cp:=r5.g.2.2) 2 z s6 Z Z Z Zq Z Z Z aW Z Z Z Z (by omega) (by rw [bA,Q2y]; omega) Q1a Q1i (fun cL bW=>(Qap hok 6 2 z s6 Z Z Z Zq Z Z Z aW (hdr_eqG bW) Z (cs:=Q5Z z s6) (by rw [bA]; exact Q8C (by omega)) Q1i Q2d Z (v:=.int .i64 (z_mark ((z:Nat):Int) ((s6:Nat):Int))) Z (xP hok 7 Z ?_))))))))))))))))
 refine xP hok 8 Z (xS hok 9 Z (wC [] [0,1,2] Z fn_99 Z (Q9v ((z:Nat):Int) ((s6:Nat):Int)) (asK [] Z) Z (H':=V3 ..) Z ?_))
 rintro _ _ _ ⟨rfl,rfl,rfl⟩
 refine Q2 (Qs [] [2,0] Z Z (xP hok 10 Z (Q1g (d:=98) (v':=.bool true) (S':=V21 ..) Z Z (congrArg Value.bool (by simp)) (xP hok 11 Z (xP hok 12 Z (xP hok 13 Z (xP hok 14 Z (xP hok 15 Z (Q1C hok 16 1 z Z Z Z Zq Z Z Z Z Z Z aV Q59 Q1T (fun c9 bB=>?_))))))))))
 subst bB
 refine Q2v hok 17 Q2w 1 z 0 Z Z Z Zq Z Z Z Z aZ Q1T Q2Q (v:=.slice y5.1 y5.2.1 y5.2.2) Z Z (fun _=>(Q3r hok 18 Z Z Z Zq Z Z Z Q1a (xP hok 19 Z (xP hok 20 Z ?_))))
 refine wx_split (d:=108) (S':=V31 ..) Z Z (fun a7=>?_) (fun a7=>?_)
 replace a7:=of_decide_eq_true a7
 refine xP hok 21 Z (xP hok 22 Z (QS hok 23 1 z Z Z Z Zq Z Z Z Z Z Z aV Q59 Q1T (Q2v hok 24 Q2w 1 z 0 Z Z Z Zq Z Z Z Z aZ Q1T Q2Q (v:=.slice y5.1 y5.2.1 y5.2.2) Z Z (fun _=>(xP hok 25 Z (Q9e hok 26 (p:=y5.1) (m:=y5.2.1) (cp:=y5.2.2) 2 z s6 Z Z Z Zq Z Z Z aW bU Z Z Z (by omega) (by rw [b9,Q2y]) Q1a Q1i (fun cA bC=>(Qaq hok 27 2 z s6 Z Z Z Zq Z Z Z aW (hdr_eq bU bC) Z (cs:=Q5Z z s6) (by rw [b9]; exact Q8C (by omega)) Q1i Q2d Z (v:=.int .i64 (z_mark ((z:Nat):Int) ((s6:Nat):Int))) Z (xP hok 28 Z (xP hok 29 Z (xS hok 30 Z (wC [] [0,1,2] Z fn_99 Z (Q9v ((z:Nat):Int) ((s6:Nat):Int)) (asK [] Z) Z (H':=V3 ..) Z ?_))))))))))))
 rintro _ _ _ ⟨rfl,rfl,rfl⟩
 refine Q2 (Qs [] [2,1,1,2,0] Z Z (xP hok 31 Z (Q1g (d:=119) (v':=.bool true) (S':=V42 ..) Z Z (congrArg Value.bool (by simp)) (xP hok 32 Z (xP hok 33 Z (xP hok 34 Z (QI hok Z (Q4 (Q5 [122,85,10,76,9,46,6,5,19,3,2,0] (S':=V12 ..) Z (Q2X Z (Qt (Qi (Q4 ?_)))))))))))))
 refine Q3 (wP Z (wP Z (Qx (d:=87) (v':=.int .i64 ((s6 + 1:Nat):Int)) (S':=V13 ..) Z Z (Q1f (a:=s6) (b:=1) (by omega)) (QM (S':=V13 ..) Z Z Z Z Z (Q2 ?_)))))
 refine Q3g (s6 + 1) (by omega) (by omega) [10,76,9,46,6,5,19,3,2,0] Z (asK [] Z) Z
 replace a7:=of_decide_eq_false a7
 refine xO hok 21 Z (xO hok 22 Z (xO hok 23 Z (xO hok 24 Z (xO hok 25 Z (xO hok 26 Z (xO hok 27 Z (xO hok 28 Z (xO hok 29 Z (xS hok 30 Z (wO Z (Q2 (Qs [] [1,2,0] Z Z (xO hok 31 Z ?_)))))))))))))
 refine xO hok 32 Z (xP hok 33 Z (xP hok 34 Z (QI hok Z (Q4 (Q5 [122,85,10,76,9,46,6,5,19,3,2,0] (S':=V12 ..) Z (Q2X Z (Qt (Qi (Q4 (Q3 (wP Z (wP Z (Qx (d:=87) (v':=.int .i64 ((s6 + 1:Nat):Int)) (S':=V13 ..) Z Z (Q1f (a:=s6) (b:=1) (by omega)) ?_)))))))))))))
 refine QM (S':=V13 ..) Z Z Z Z Z (Q2 ?_)
 refine Q3g (s6 + 1) (by omega) (by omega) [10,76,9,46,6,5,19,3,2,0] Z (asK [] Z) Z
 replace aX:=of_decide_eq_false aX
 refine Q19 (Qc (Qc (Qu (Qi (Q4 (Q3 (wP Z (wP Z (Qx (d:=78) (v':=.int .i64 ((z + 1:Nat):Int)) (S':=V12 ..) Z Z (Q1f (a:=z) (b:=1) (by omega)) (QM (S':=V12 ..) Z Z Z Z Z (Q2 ?_)))))))))))
 refine Q3g (z + 1) (by omega) (by omega) [9,46,6,5,19,3,2,0] Z (asK [] Z) Z
 replace aU:=of_decide_eq_false aU
 refine Q19 (Qc (Qc (Qu (Q4 (Q6 (Q6 (Q3 (wP Z (Q2 (Q4 (Qn (Q1b (σ:=List Hdr × List Q7k × Nat) (fun s=>s.2.2 ≤ hs.length ∧ FlD hs Q5Z s.1 s.2.2 s.2.1) (fun s=>hs.length - s.2.2) (fun s=>[(11,.int .i64 ((s.2.2:Nat):Int)),(76,.bool (decide (((z:Nat):Int) < ((hs.length:Nat):Int)))),(9,.int .i64 ((z:Nat):Int)),(46,.bool (decide (((f.2.2:Nat):Int) < ((hs.length:Nat):Int)))),(6,.int .i64 ((f.2.2:Nat):Int)),(5,.slice (some ⟨q,0,none⟩) hs.length hs.length),(19,.bool (decide (((o.2:Nat):Int) < ((hs.length:Nat):Int)))),(3,.int .i64 ((o.2:Nat):Int)),(2,.bool false),(0,.slice p hs.length c)]) (fun s=>[]) (fun s=>[.own 22 1 Q2Z (.slice (some ⟨q,0,none⟩) hs.length hs.length) s.1,.own 22 1 Q2Z (.slice p hs.length c) hs,Q1x 3 1 s.2.1]) (f.1,f.2.1,0) ⟨Nat.zero_le _,a1.2.again⟩ [11,76,9,46,6,5,19,3,2,0] Z (asK [] Z) Z (fun j a2=>(Q6 ?_))))))))))))))
 refine Q6 (Q3 (wP Z (wP Z (wN Z Q59 (wP Z (Q2 (Q4 (Q5 [126,11,76,9,46,6,5,19,3,2,0] (S':=V11 ..) Z ?_))))))))
 refine Qv Z (fun a8=>?_) (fun a8=>?_)
 replace a8:=of_decide_eq_true a8
 have b1:j.2.2 < hs.length:=by omega
 obtain ⟨y7,b2⟩ : ∃ y,hs[j.2.2]? = some y:=⟨_,List.getElem?_eq_getElem b1⟩
 have hB7:y7.2.1 ≤ 1073741824:=hb _ (List.mem_of_getElem? b2)
 obtain ⟨r7,bD,c4,bX⟩:=a2.2.at_ b2
 refine Qt (Q4 (Q6 (Qn (Q6 (Q3 (Q7y (m:=64) celR (none:Cel) Z Z Z Zq Z Z Z Z Z Q1a tR_3 Z Z (fun _ _=>cel_any Z) (by omega) (by omega) (fun b6=>(wP Z (Q2 (Q4 (Q5 [12,126,11,76,9,46,6,5,19,3,2,0] (S':=V12 ..) Z (Q6 (Q6 (Q3 ?_))))))))))))))
 refine wP Z (Q2 (Q4 (Qn (Q1b (σ:=List Cel × Nat) (fun s=>s.2 ≤ 64 ∧ s.1.length = 64) (fun s=>64 - s.2) (fun s=>[(13,.int .i64 ((s.2:Nat):Int)),(12,.slice (some ⟨b6,0,none⟩) 64 64),(126,.bool (decide (((j.2.2:Nat):Int) < ((hs.length:Nat):Int)))),(11,.int .i64 ((j.2.2:Nat):Int)),(76,.bool (decide (((z:Nat):Int) < ((hs.length:Nat):Int)))),(9,.int .i64 ((z:Nat):Int)),(46,.bool (decide (((f.2.2:Nat):Int) < ((hs.length:Nat):Int)))),(6,.int .i64 ((f.2.2:Nat):Int)),(5,.slice (some ⟨q,0,none⟩) hs.length hs.length),(19,.bool (decide (((o.2:Nat):Int) < ((hs.length:Nat):Int)))),(3,.int .i64 ((o.2:Nat):Int)),(2,.bool false),(0,.slice p hs.length c)]) (fun s=>[]) (fun s=>[.own 3 1 celR (.slice (some ⟨b6,0,none⟩) 64 64) s.1,.own 22 1 Q2Z (.slice (some ⟨q,0,none⟩) hs.length hs.length) j.1,.own 22 1 Q2Z (.slice p hs.length c) hs,Q1x 3 1 j.2.1]) (List.replicate 64 (none:Cel),0) ⟨Nat.zero_le _,by simp⟩ [13,12,126,11,76,9,46,6,5,19,3,2,0] Z (asK [] Z) Z (fun s8 aH=>(Q6 (Q6 (Q3 (wP Z (wP Z (Q2 (Q4 (Q5 [131,13,12,126,11,76,9,46,6,5,19,3,2,0] (S':=V14 ..) Z ?_)))))))))))))
 refine Qv Z (fun a9=>?_) (fun a9=>?_)
 replace a9:=of_decide_eq_true a9
 refine Qt (Q4 (Q6 (Qn (Q3 (wP Z (wP Z (wP Z (wP Z (wN Z Q59 (wP Z (Qx (d:=139) (v':=.int .i64 ((j.2.2 + hs.length:Nat):Int)) (S':=V19 ..) Z Z (Q1f (a:=j.2.2) (b:=hs.length) (by omega)) (wP Z (wC [] [0,1,2,3] Z fn_99 Z (Q9v ((j.2.2 + hs.length:Nat):Int) ((s8.2:Nat):Int)) (asK [] Z) Z (H':=V4 ..) Z ?_)))))))))))))
 rintro _ _ _ ⟨rfl,rfl,rfl⟩
 refine Q6C 0 s8.2 Z Z Z Zq Z Z Z Z Z (by rw [aH.2]; omega) Q1a Q1i (Q10 (u:=some ([.int .i64 (z_mark ((j.2.2 + hs.length:Nat):Int) ((s8.2:Nat):Int))] : List Value)) 0 s8.2 Z Z Z Z Z (by rw [aH.2]; omega) Z Z Q1i Z (fun _ _ _=>cel_some Z) (H':=V4 ..) Z (Q2 (Qi (Q4 (Q3 (wP Z (wP Z (Qx (d:=133) (v':=.int .i64 ((s8.2 + 1:Nat):Int)) (S':=V24 ..) Z Z (Q1f (a:=s8.2) (b:=1) (by omega)) (QM (S':=V24 ..) Z Z Z Z Z (Q2 ?_))))))))))
 refine Q3g (s8.1.set s8.2 (some ([.int .i64 (z_mark ((j.2.2 + hs.length:Nat):Int) ((s8.2:Nat):Int))] : List Value)),s8.2 + 1) (by show 64 - (s8.2 + 1) < _; omega) ⟨by show s8.2 + 1 ≤ 64; omega,by show (List.set _ _ _).length = 64; rw [List.length_set]; exact aH.2⟩ [13,12,126,11,76,9,46,6,5,19,3,2,0] Z (asK [] Z) Z
 replace a9:=of_decide_eq_false a9
 refine Q19 (Qc (Qc (Qu (Q4 (Q3 (wP Z (wP Z (wP Z (wP Z (Q24 2 j.2.2 Z Z Z Zq Z Z Z Z Z b1 Q59 Q1T (fun cB bE=>?_)))))))))))
 subst bE
 refine Qk Q2w 2 j.2.2 0 Z Z Z Zq Z Z Z b2 Q1T Q2Q (v:=fun _=>.slice y7.1 y7.2.1 y7.2.2) (fun _=>Z) (fun _=>Z) (fun _ _=>(wP Z (Q1t [_,_,_,Q1x 3 1 (j.2.1.set j.2.2 ⟨r7.h,r7.l,r7.h,r7.l⟩)] (fun _ h=>h.flReset 3 j.2.2 Z bD) (wl_flAppO 3 j.2.2 0 Z Z Z Zq Z Z (set_eqT _ bD) (by show _ = some (hdv r7.h); rw [c4]; rfl) Z Z aH.2 (by decide) Q1a tR_3 Z Z (by show r7.l.length + _ ≤ _; rw [bX,Q2y]; omega) (by show (r7.l.length + _) * _ ≤ _; rw [bX,Q2y]; omega) (H2:=fun a3=>[_,_,_,Q1x 3 1 ((j.2.1.set j.2.2 ⟨r7.h,r7.l,r7.h,r7.l⟩).set j.2.2 ⟨r7.h,r7.l,a3,r7.l ++ s8.1⟩)]) (fun _=>Z) (fun a3=>(Q2J 0 Z (H':=V3 ..) Z (Q6C 0 j.2.2 Z Z Z Zq Z Z Z Z Z (by rw [a2.2.2.1]; exact b1) Q59 Q1T (Q10 (u:=a3) 0 j.2.2 Z Z Z Z Z (by rw [a2.2.2.1]; exact b1) Z Z Q1T Z (fun _ _ _=>Z) (H':=V3 ..) Z (Q2 (Qi (Q4 (Q3 (wP Z (wP Z (Qx (d:=128) (v':=.int .i64 ((j.2.2 + 1:Nat):Int)) (S':=V24 ..) Z Z (Q1f (a:=j.2.2) (b:=1) (by omega)) ?_)))))))))))))))
 refine QM (S':=V24 ..) Z Z Z Z Z (Q2 ?_)
 refine Q3g (j.1.set j.2.2 a3,(j.2.1.set j.2.2 ⟨r7.h,r7.l,r7.h,r7.l⟩).set j.2.2 ⟨r7.h,r7.l,a3,r7.l ++ s8.1⟩,j.2.2 + 1) (by show hs.length - (j.2.2 + 1) < _; omega) ⟨by show j.2.2 + 1 ≤ _; omega,a2.2.app b2 bD _ _⟩ [11,76,9,46,6,5,19,3,2,0] Z (asK [] Z) Z
 replace a8:=of_decide_eq_false a8
 refine Q19 (Qc (Qc (Qu (Q4 (Q6 (Q6 (Q3 (wP Z (Q2 (Q4 (Qn (Q1b (σ:=Nat) (fun s=>s ≤ hs.length) (fun s=>hs.length - s) (fun s=>[(14,.int .i64 ((s:Nat):Int)),(126,.bool (decide (((j.2.2:Nat):Int) < ((hs.length:Nat):Int)))),(11,.int .i64 ((j.2.2:Nat):Int)),(76,.bool (decide (((z:Nat):Int) < ((hs.length:Nat):Int)))),(9,.int .i64 ((z:Nat):Int)),(46,.bool (decide (((f.2.2:Nat):Int) < ((hs.length:Nat):Int)))),(6,.int .i64 ((f.2.2:Nat):Int)),(5,.slice (some ⟨q,0,none⟩) hs.length hs.length),(19,.bool (decide (((o.2:Nat):Int) < ((hs.length:Nat):Int)))),(3,.int .i64 ((o.2:Nat):Int)),(2,.bool false),(0,.slice p hs.length c)]) (fun s=>[]) (fun s=>[.own 22 1 Q2Z (.slice (some ⟨q,0,none⟩) hs.length hs.length) j.1,.own 22 1 Q2Z (.slice p hs.length c) hs,Q1x 3 1 j.2.1]) 0 (Nat.zero_le _) [14,126,11,76,9,46,6,5,19,3,2,0] Z (asK [] Z) Z (fun s9 cC=>(Q6 ?_))))))))))))))
 refine Q6 (Q3 (wP Z (wP Z (wN Z Q59 (wP Z (Q2 (Q4 (Q5 [155,14,126,11,76,9,46,6,5,19,3,2,0] (S':=V13 ..) Z ?_))))))))
 refine Qv Z (fun aA=>?_) (fun aA=>?_)
 replace aA:=of_decide_eq_true aA
 have b3:s9 < hs.length:=by omega
 obtain ⟨y9,b4⟩ : ∃ y,hs[s9]? = some y:=⟨_,List.getElem?_eq_getElem b3⟩
 have hB9:y9.2.1 ≤ 1073741824:=hb _ (List.mem_of_getElem? b4)
 obtain ⟨r9,aY,bY,bF,c5,t9,bZ⟩:=a2.2.look (by omega) b4
 refine wc_flLen 2 Z aY (fun hA9 hC9=>?_)
 rw [bF,Q2y] at hA9
 have hE9:=hC9
 rw [bZ,List.length_append,Q2y] at hE9
 refine Qt (Q4 (Q6 (Qn (Q6 (Q3 (wP Z (Q2 (Q4 (Qn (Q1b (σ:=Nat) (fun s=>s ≤ y9.2.1) (fun s=>y9.2.1 - s) (fun s=>[(15,.int .i64 ((s:Nat):Int)),(155,.bool (decide (((s9:Nat):Int) < ((hs.length:Nat):Int)))),(14,.int .i64 ((s9:Nat):Int)),(126,.bool (decide (((j.2.2:Nat):Int) < ((hs.length:Nat):Int)))),(11,.int .i64 ((j.2.2:Nat):Int)),(76,.bool (decide (((z:Nat):Int) < ((hs.length:Nat):Int)))),(9,.int .i64 ((z:Nat):Int)),(46,.bool (decide (((f.2.2:Nat):Int) < ((hs.length:Nat):Int)))),(6,.int .i64 ((f.2.2:Nat):Int)),(5,.slice (some ⟨q,0,none⟩) hs.length hs.length),(19,.bool (decide (((o.2:Nat):Int) < ((hs.length:Nat):Int)))),(3,.int .i64 ((o.2:Nat):Int)),(2,.bool false),(0,.slice p hs.length c)]) (fun s=>[]) (fun s=>[.own 22 1 Q2Z (.slice (some ⟨q,0,none⟩) hs.length hs.length) j.1,.own 22 1 Q2Z (.slice p hs.length c) hs,Q1x 3 1 j.2.1]) 0 (Nat.zero_le _) [15,155,14,126,11,76,9,46,6,5,19,3,2,0] Z (asK [] Z) Z (fun a0 c6=>(Q6 (Q6 (Q3 ?_))))))))))))))
 refine wP Z (wP Z (wP Z (Q24 1 s9 Z Z Z Zq Z Z Z Z Z b3 Q59 Q1T (fun cD bG=>?_))))
 subst bG
 refine Qk Q2w 1 s9 0 Z Z Z Zq Z Z Z b4 Q1T Q2Q (v:=fun _=>.slice y9.1 y9.2.1 y9.2.2) (fun _=>Z) (fun _=>Z) (fun _ _=>(wN Z Q1a (wP Z (Q2 (Q4 (Q5 [164,15,155,14,126,11,76,9,46,6,5,19,3,2,0] (S':=V15 ..) Z ?_))))))
 refine Qv Z (fun aB=>?_) (fun aB=>?_)
 replace aB:=of_decide_eq_true aB
 refine Qt (Q4 (Q6 (Qn (Q6 (QV [0,1,2,3,4,5,6,7,8,10,11,12,13,14,15,16,17,18,19,20,21,23,24,25] Z Z (fun hok=>(xP hok 0 Z (xP hok 1 Z (QS hok 2 1 s9 Z Z Z Zq Z Z Z Z Z Z b3 Q59 Q1T (Q2v hok 3 Q2w 1 s9 0 Z Z Z Zq Z Z Z Z b4 Q1T Q2Q (v:=.slice y9.1 y9.2.1 y9.2.2) Z Z (fun _=>(xP hok 4 Z (Q9e hok 5 (p:=y9.1) (m:=y9.2.1) (cp:=y9.2.2) 2 s9 a0 Z Z Z Zq Z Z Z aY bY Z Z Z (by omega) (by rw [bF,Q2y]) Q1a Q1i (fun cE bH=>(Qaq hok 6 2 s9 a0 Z Z Z Zq Z Z Z aY (hdr_eq bY bH) Z (cs:=Q5Z s9 a0) (by rw [bF]; exact Q8C (by omega)) Q1i Q2d Z (v:=.int .i64 (z_mark ((s9:Nat):Int) ((a0:Nat):Int))) Z (xP hok 7 Z ?_))))))))))))))))
 refine xP hok 8 Z (xS hok 9 Z (wC [] [0,1,2] Z fn_99 Z (Q9v ((s9:Nat):Int) ((a0:Nat):Int)) (asK [] Z) Z (H':=V3 ..) Z ?_))
 rintro _ _ _ ⟨rfl,rfl,rfl⟩
 refine Q2 (Qs [] [2,1] Z Z (xP hok 10 Z (Q1g (d:=177) (v':=.bool true) (S':=V25 ..) Z Z (congrArg Value.bool (by simp)) (xP hok 11 Z (xP hok 12 Z (xP hok 13 Z (xP hok 14 Z (QS hok 15 0 s9 Z Z Z Zq Z Z Z Z Z Z (by rw [a2.2.2.1]; exact b3) Q59 Q1T (Q2v hok 16 Q2w 0 s9 0 Z Z Z Zq Z Z Z Z c5 Q1T Q2Q (v:=.slice r9.g.1 r9.g.2.1 r9.g.2.2) Z Z (fun _=>(xP hok 17 Z (QaI hok 18 (p:=r9.g.1) (m:=r9.g.2.1) (cp:=r9.g.2.2) 2 s9 a0 Z Z Z Zq Z Z Z aY Z Z Z Z (by omega) hC9.symm Q1a Q1i (fun cF bI=>(Qap hok 19 2 s9 a0 Z Z Z Zq Z Z Z aY (hdr_eqG bI) Z (cs:=Q5Z s9 a0) (by rw [bZ]; exact app_at (by omega)) Q1i Q2d Z (v:=.int .i64 (z_mark ((s9:Nat):Int) ((a0:Nat):Int))) Z (xP hok 20 Z ?_)))))))))))))))
 refine xP hok 21 Z (xS hok 22 Z (wC [] [0,1,2] Z fn_99 Z (Q9v ((s9:Nat):Int) ((a0:Nat):Int)) (asK [] Z) Z (H':=V3 ..) Z ?_))
 rintro _ _ _ ⟨rfl,rfl,rfl⟩
 refine Q2 (Qs [] [2,0,2,1] Z Z (xP hok 23 Z (Q1g (d:=190) (v':=.bool true) (S':=V38 ..) Z Z (congrArg Value.bool (by simp)) (xP hok 24 Z (xP hok 25 Z (QI hok Z (Q4 (Q5 [192,164,15,155,14,126,11,76,9,46,6,5,19,3,2,0] (S':=V16 ..) Z (Q2X Z (Qt (Qi (Q4 (Q3 ?_)))))))))))))
 refine wP Z (wP Z (Qx (d:=166) (v':=.int .i64 ((a0 + 1:Nat):Int)) (S':=V17 ..) Z Z (Q1f (a:=a0) (b:=1) (by omega)) (QM (S':=V17 ..) Z Z Z Z Z (Q2 ?_))))
 refine Q3g (a0 + 1) (by omega) (by omega) [15,155,14,126,11,76,9,46,6,5,19,3,2,0] Z (asK [] Z) Z
 replace aB:=of_decide_eq_false aB
 refine Q19 (Qc (Qc (Qu (Qi (Q4 (Q3 (wP Z (wP Z (Qx (d:=157) (v':=.int .i64 ((s9 + 1:Nat):Int)) (S':=V16 ..) Z Z (Q1f (a:=s9) (b:=1) (by omega)) (QM (S':=V16 ..) Z Z Z Z Z (Q2 ?_)))))))))))
 refine Q3g (s9 + 1) (by omega) (by omega) [14,126,11,76,9,46,6,5,19,3,2,0] Z (asK [] Z) Z
 replace aA:=of_decide_eq_false aA
 refine Q19 (Qc (Qc (Qu (Q4 (Q6 (Q3 (QM (S':=V12 ..) Z Z Z Z Z (Q2 (Q4 (QJ (QA (Hr:=[Q1x 3 1 j.2.1]) [2] Tryz.results59 (Qy Z) ?_ (asK [] Z) Z Z (.inl Z))))))))))))
 exact ⟨_,a2.2.left,Z,Z,Z⟩
theorem Q3W (N:Nat) (a0:Int) (a1:Int) (o0:Bool) (hm:Q4n N a0 a1 = some o0):Q1z Tryz.prog 13 [.agg #[.int .i64 a0,V1],.agg #[.int .i64 a1,V1]] [] [] (fun v Φr Hr=>v = .bool o0 ∧ Φr = [] ∧ Hr = []):=by
 unfold Q4n at hm
 refine Q12 Tryz.func13 Z Tryz.ntmps13 Z (S:=[_,_]) Z (fun C=>(Q6 (Q3 (wB Z (fun g2=>(wB Z (fun g3=>(wP Z (Q2 (Q4 (Q5 [3,2] (S':=[_,_]) Z (Q6 (Q3 (wF Z Q22 (wD 1 0 Z Q1i Q2d Z (wF Z Q22 ?_))))))))))))))))
 refine wD 0 0 Z Q1i Q2d Z (wP Z (wP Z ?_))
 refine Q28 (d:=10) (S':=V7 ..) Z Z (fun hs10=>?_) (fun hs10=>?_)
 replace hm:=Q1m hm hs10
 refine wF Z Q2i (wD 1 1 Z Q1T Q2Q Z (wF Z Q2i (wD 0 1 Z Q1T Q2Q Z (Q2j (.sli 1 Qh none 0 ([] : List Int)) (fun _ _ _=>Q2m) (Q2j (.sli 1 Qh none 0 ([] : List Int)) (fun _ _ _=>Q2m) ?_)))))
 obtain ⟨v15,hc15,hm⟩:=Q7 hm
 refine wC [] [0,1] Z fn_35 Z (Q7V N none 0 ([] : List Int) none 0 ([] : List Int) _ hc15) (asK [1,0] Z) Z (H':=[_,_]) Z ?_
 rintro _ _ _ ⟨rfl,rfl,rfl⟩
 refine wP Z (wP Z (Q2 (Q4 (Q5 [4] (S':=[_]) Z (QJ ?_)))))
 have hE:=(Zi hm).symm
 replace hE:=hE.symm
 subst hE
 refine QA (Hr:=[]) [] Tryz.results13 (Qy Z) ⟨Z,Z,Z⟩ (asK [] Z) Z Z (.inl Z)
 replace hm:=Q1l hm hs10
 refine wO Z (wO Z (wO Z (wO Z (wO Z (wP Z (wP Z (Q2 (Q4 (Q5 [4] (S':=[_]) Z (QJ ?_))))))))))
 have hE:=(Zi hm).symm
 replace hE:=hE.symm
 subst hE
 refine QA (Hr:=[]) [] Tryz.results13 (Qy Z) ⟨Z,Z,Z⟩ (asK [] Z) Z Z (.inl Z)
end Go.Proofs.YtgangmegcejllaaGreatDoor
