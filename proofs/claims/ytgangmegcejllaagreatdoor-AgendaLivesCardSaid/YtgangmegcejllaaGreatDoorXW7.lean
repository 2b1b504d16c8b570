import Derived.Test.YtgangmegcejllaaGreatDoorXW6
namespace Go.Proofs.YtgangmegcejllaaGreatDoor
open Go.RowKit
set_option maxRecDepth 100000
set_option maxHeartbeats 4000000
theorem Q8p (N:Nat) (aA:OA) (aB:Nat) (a8:Nat) (l0:List Qo) (k1:Nat) (o0:List Qo) (hm:Q4k N l0 k1 = some o0):Q1R Tryz.prog 30 [.slice aA k1 a8] [] [Q1l Qx 45 2 (.slice aA aB a8) l0] (fun v Φr Hr=>v = .tuple #[] ∧ Φr = [] ∧ Hr = [Q1l Qx 45 2 (.slice aA aB a8) o0]):=by
 unfold Q4k at hm
 refine QZ Tryz.func30 Z Tryz.ntmps30 Z (S:=[_]) Z (fun C=>(Q6 ?_))
 obtain ⟨aO,hm,hLj_1⟩:=Q7 hm
 refine Q18 (σ:=List Qo) (fun a5=>aO = a5) (fun a5=>[(0,.slice aA k1 a8)]) (fun a5=>[]) (fun a5=>[Q1l Qx 45 2 (.slice aA aB a8) a5]) ?_ ?_
 refine Q6 (Q2 (wP Z (Q3 (Q4 (Qm (Q1f (σ:=Nat × Nat × (List Qo)) (fun (aF,a2,a3)=>Q1o (Q3I N k1) aF (a2,a3) = some aO) (fun (aF,a2,a3)=>aF) (fun (aF,a2,a3)=>[(2,.int .i64 ((a2:Nat):Int)),(0,.slice aA k1 a8)]) (fun (aF,a2,a3)=>[]) (fun (aF,a2,a3)=>[Q1l Qx 45 2 (.slice aA aB a8) a3]) (N,0,l0) hm [2,0] Z (asK [] Z) Z (fun s_ hm=>?_)))))))
 obtain ⟨aF,a2,a3⟩:=s_
 try dsimp only at hm ⊢
 obtain ⟨bI,bJ,aU,hq,hLu1⟩:=Q1d hm
 clear hm
 subst aU
 replace hm:=hq
 clear hq
 unfold Q3I at hm
 try dsimp only at hm
 refine Q6 (Q6 (Q2 (wP Z (wP Z (wN Z QB (wP Z (Qz (d:=8) (v':=.bool (decide (a2 < k1))) (S':=V5 ..) Z Z (Q3f (a:=a2) (b:=k1)) (Q3 (Q4 (Q5 [8,2,0] (S':=V3 ..) Z ?_))))))))))
 refine QA Z (fun aQ=>?_) (fun aQ=>?_)
 replace hm:=Q1z hm aQ
 refine Q5 [2,0] (S':=[_,_]) Z (Qs (Q4 (Q6 (Qm (Q2 (wP Z (wP Z (Q46 0 Z (fun a9 aJ=>?_)))))))))
 obtain ⟨a1,aV,hm⟩:=Q7 hm
 obtain ⟨a6,aD⟩:=zip_at aJ aV
 obtain ⟨aW,hm⟩:=Qd hm
 refine Q9u 1 a2 Z Z Z Zq Z Z Z Z Z aW (Qw aD) QB Qe (fun aR aX=>?_)
 subst aX
 refine Q2x [.own 3 1 Qi (.slice a6.1 ((a1.ids ++ a1.idsT).length) a6.2) (a1.ids ++ a1.idsT),Q2j Qx a9 (some a2),_] (fun _ h=>h.bagOpen 0 a2 Z aD) (Qk Q7z 2 a2 0 Z Z Z Zq Z Z Z aD Qe QS (v:=fun _=>.agg #[.int .i64 (a1.rule),.slice a6.1 a1.ids.length a6.2]) (fun _=>Z) (fun _=>Z) (fun _ _=>?_))
 obtain ⟨a7,aY,hm⟩:=Q7 hm
 refine wC [0] [1,2] Z fn_52 Z (Q8C N a1.rule a6.1 ((a1.ids ++ a1.idsT).length) a6.2 (a1.ids ++ a1.idsT) a1.ids.length _ aY) (asK [] Z) Z (H':=[_,_]) Z ?_
 rintro _ _ _ ⟨rfl,rfl,rfl⟩
 refine Q3 (Qj (Q4 (Q5 [2,0] (S':=[_,_]) Z (Q2 (wP Z (wP Z ?_))))))
 obtain ⟨aZ,hm⟩:=Qd hm
 refine Qz (d:=10) (v':=.int .i64 ((a2 + 1:Nat):Int)) (S':=V3 ..) Z Z (Q1i (a:=a2) (b:=1) aZ) (QI (S':=V3 ..) Z Z Z Z Z (Q3 ?_))
 have hE:=(Zi hm).symm
 replace hE:=Q14 hLu1 hE
 refine we_ownLen 0 Z (fun b0 _=>(Q9k 0 (φ':=.own 3 1 Qi (.slice a6.1 a7.length a6.2) a7) Z (by first | rfl | rw [b0]) (H':=V3 ..) Z ?_))
 have b1:(a7.take a1.ids.length).length = a1.ids.length:=Q3p (by first | (have hh:=congrArg (· + 0) b0; simp only [List.length_append,List.length_set,List.length_take] at hh ⊢; omega) | (simp only [List.length_append,List.length_set,List.length_take]; omega))
 refine Q9k 0 (φ':=.own 3 1 Qi (.slice a6.1 ((a7.take a1.ids.length ++ a7.drop a1.ids.length).length) a6.2) (a7.take a1.ids.length ++ a7.drop a1.ids.length)) Z (by rw [List.take_append_drop]) (H':=[.own 3 1 Qi (.slice a6.1 ((a7.take a1.ids.length ++ a7.drop a1.ids.length).length) a6.2) (a7.take a1.ids.length ++ a7.drop a1.ids.length),Q2j Qx a9 (some a2),.own 45 2 Qx.pair (.slice (some ⟨aR,0,none⟩) aB a8) a9]) Z (Q6F [_,_,.own 45 2 Qx.pair (.slice (some ⟨aR,0,none⟩) aB a8) (a9.set a2 ((⟨a1.rule,a7.take a1.ids.length,a7.drop a1.ids.length⟩ : Qo),a6))] (fun _ h=>h.pairAs (zs:=a9) (x:=a1) (r:=a6) 2 Z aD (by show Q60 _ _ = Q60 _ _; simp only [Q60,b1])) (Q6F [Q2j Qx (a9.set a2 ((⟨a1.rule,a7.take a1.ids.length,a7.drop a1.ids.length⟩ : Qo),a6)) none,_] (fun _ h=>QY.bagClose (T:=Qx) (x:=(⟨a1.rule,a7.take a1.ids.length,a7.drop a1.ids.length⟩ : Qo)) (r:=a6) (i:=a2) (zs:=a9) (H:=[_,_]) h 0 Z) ?_))
 have b2:List.map (fun x:Qo × (OA × Nat)=>x.1) (a9.set a2 ((⟨a1.rule,a7.take a1.ids.length,a7.drop a1.ids.length⟩ : Qo),a6)) = a3.set a2 (⟨a1.rule,a7.take a1.ids.length,a7.drop a1.ids.length⟩ : Qo):=pair_set aJ
 refine Q6F [Q1l Qx 45 2 (.slice (some ⟨aR,0,none⟩) aB a8) (a3.set a2 (⟨a1.rule,a7.take a1.ids.length,a7.drop a1.ids.length⟩ : Qo))] (fun _ h=>h.treeIn 1 0 Z Z Z b2) ?_
 refine Q1a (_,a2 + 1,(a3.set a2 (⟨a1.rule,a7.take a1.ids.length,a7.drop a1.ids.length⟩ : Qo))) (Nat.lt_succ_self _) hE [2,0] Z (asK [] Z) Z
 replace hm:=Q1y hm aQ
 refine Q5 [0] (S':=[_]) Z (Q19 (Qc (Qc (Qt ?_))))
 have hE:=(Zi hm).symm
 replace hE:=QO hLu1 hE
 refine Qp a3 hE [0] Z (asK [] Z) Z
 rintro a5 hE
 try dsimp only
 have hm:=hLj_1
 try rw [hE] at hm
 refine Q6 (Q2 (wP Z (wP Z (wN Z QB (wP Z ?_)))))
 obtain ⟨b3,hm⟩:=Qd hm
 refine Qz (d:=19) (v':=.int .i64 ((k1 + 12:Nat):Int)) (S':=V4 ..) Z Z (Q1i (a:=k1) (b:=12) b3) ?_
 obtain ⟨b4,hm⟩:=Qd hm
 refine Q46 0 Z (fun b5 aK=>?_)
 have aS:k1 + 12 ≤ b5.length:=by rw [Q3g aK]; exact b4
 refine Q8R 1 Z (fun aT aL=>(Q7D Z Z Z Zq Z Z Z Z QB Qe (Nat.le_trans aS (by rw [← aL.2]; exact aL.1)) aT (wP Z (Q3 (Q4 (Q5 [3] (S':=[_]) Z (Q6 (Q2 (wP Z (Q3 (Q4 (Qm (wc_sh [Q1l Qx 45 2 (.slice aA aB a8) a5] (fun _ h=>h.treeIn 1 0 Z Z Z aK) (Q1f (σ:=Nat × Nat × (List Qo)) (fun (aG,a0,a4)=>Q1o (Q3J N k1) aG (a0,a4) = some o0) (fun (aG,a0,a4)=>aG) (fun (aG,a0,a4)=>[(4,.int .i64 ((a0:Nat):Int)),(3,.slice aA (k1 + 12) a8)]) (fun (aG,a0,a4)=>[]) (fun (aG,a0,a4)=>[Q1l Qx 45 2 (.slice aA aB a8) a4]) (N,0,a5) hm [4,3] Z (asK [] Z) Z (fun s_ hm=>?_)))))))))))))))
 obtain ⟨aG,a0,a4⟩:=s_
 try dsimp only at hm ⊢
 obtain ⟨bK,bL,b6,hq,hLu2⟩:=Q1d hm
 clear hm
 subst b6
 replace hm:=hq
 clear hq
 unfold Q3J at hm
 try dsimp only at hm
 refine Q6 (Q6 (Q2 (wP Z (wP Z (wN Z QB (wP Z (Qz (d:=24) (v':=.bool (decide (a0 < (k1 + 12)))) (S':=V5 ..) Z Z (Q3f (a:=a0) (b:=k1 + 12)) (Q3 (Q4 (Q5 [24,4,3] (S':=V3 ..) Z ?_))))))))))
 refine QA Z (fun aM=>?_) (fun aM=>?_)
 replace hm:=Q1z hm aM
 refine Q5 [4,3] (S':=[_,_]) Z (Qs (Q4 (Q6 (Qm (Q2 (wP Z (wP Z (wP Z ?_))))))))
 obtain ⟨_,b7,hm⟩:=Q7 hm
 try dsimp only at hm
 refine wC [] [0] Z fn_49 Z (Q4z N 2 ((a0:Nat):Int) b7) (asK [] Z) Z (H':=[_]) Z ?_
 rintro _ _ _ ⟨rfl,rfl,rfl⟩
 refine Q46 0 Z (fun aC aH=>?_)
 obtain ⟨aN,b8,hm⟩:=Q7 hm
 obtain ⟨aP,aE⟩:=zip_at aH b8
 obtain ⟨b9,hm⟩:=Qd hm
 refine Q9u 1 a0 Z Z Z Zq Z Z Z Z Z b9 (Qw aE) QB Qe (fun bF bA=>?_)
 subst bA
 refine Q2x [.own 3 1 Qi (.slice aP.1 ((aN.ids ++ aN.idsT).length) aP.2) (aN.ids ++ aN.idsT),Q2j Qx aC (some a0),_] (fun _ h=>h.bagOpen 0 a0 Z aE) (Q84 3 1 Qi (Q28 0 (φ':=.own 3 1 Qi (.slice none ((([] : List Int) ++ []).length) 0) (([] : List Int) ++ [])) Z Z (H':=V4 ..) Z (QU (u:=((⟨(IntKind.wrap .i64 ((IntKind.wrap .i64 (1000003 * (IntKind.wrap .i64 (2 + 7)))) + ((a0:Nat):Int))),([] : List Int),[]⟩ : Qo),(none,0))) 3 a0 Z Z Z Z Z (Qw aE) Z Z Qe Z (fun _ _ _=>Z) (H':=V4 ..) Z ?_)))
 have bG:(aC.set a0 ((⟨(IntKind.wrap .i64 ((IntKind.wrap .i64 (1000003 * (IntKind.wrap .i64 (2 + 7)))) + ((a0:Nat):Int))),([] : List Int),[]⟩ : Qo),(none,0)))[a0]? = some ((⟨(IntKind.wrap .i64 ((IntKind.wrap .i64 (1000003 * (IntKind.wrap .i64 (2 + 7)))) + ((a0:Nat):Int))),([] : List Int),[]⟩ : Qo),(none,0)):=set_atZ aE
 have bH:List.map (fun x:Qo × (OA × Nat)=>x.1) (aC.set a0 ((⟨(IntKind.wrap .i64 ((IntKind.wrap .i64 (1000003 * (IntKind.wrap .i64 (2 + 7)))) + ((a0:Nat):Int))),([] : List Int),[]⟩ : Qo),(none,0))) = a4.set a0 (⟨(IntKind.wrap .i64 ((IntKind.wrap .i64 (1000003 * (IntKind.wrap .i64 (2 + 7)))) + ((a0:Nat):Int))),([] : List Int),[]⟩ : Qo):=pair_set aH
 refine Q3 (Qj (Q4 (Q5 [4,3] (S':=[_,_]) Z (Q2 (wP Z (wP Z ?_))))))
 obtain ⟨bB,hm⟩:=Qd hm
 refine Qz (d:=26) (v':=.int .i64 ((a0 + 1:Nat):Int)) (S':=V3 ..) Z Z (Q1i (a:=a0) (b:=1) bB) (QI (S':=V3 ..) Z Z Z Z Z (Q3 ?_))
 have hE:=(Zi hm).symm
 replace hE:=Q14 hLu2 hE
 refine Q6F [_,Q2j Qx (aC.set a0 ((⟨(IntKind.wrap .i64 ((IntKind.wrap .i64 (1000003 * (IntKind.wrap .i64 (2 + 7)))) + ((a0:Nat):Int))),([] : List Int),[]⟩ : Qo),(none,0))) none,_] (fun _ h=>QY.bagClose (T:=Qx) (x:=(⟨(IntKind.wrap .i64 ((IntKind.wrap .i64 (1000003 * (IntKind.wrap .i64 (2 + 7)))) + ((a0:Nat):Int))),([] : List Int),[]⟩ : Qo)) (r:=(none,0)) (i:=a0) (zs:=aC) (H:=V3 ..) h 1 Z) ?_
 have bC:List.map (fun x:Qo × (OA × Nat)=>x.1) (aC.set a0 ((⟨(IntKind.wrap .i64 ((IntKind.wrap .i64 (1000003 * (IntKind.wrap .i64 (2 + 7)))) + ((a0:Nat):Int))),([] : List Int),[]⟩ : Qo),(none,0))) = a4.set a0 (⟨(IntKind.wrap .i64 ((IntKind.wrap .i64 (1000003 * (IntKind.wrap .i64 (2 + 7)))) + ((a0:Nat):Int))),([] : List Int),[]⟩ : Qo):=pair_set aH
 refine Q6F [_,Q1l Qx 45 2 (.slice (some ⟨bF,0,none⟩) aB a8) (a4.set a0 (⟨(IntKind.wrap .i64 ((IntKind.wrap .i64 (1000003 * (IntKind.wrap .i64 (2 + 7)))) + ((a0:Nat):Int))),([] : List Int),[]⟩ : Qo))] (fun _ h=>h.treeIn 2 1 Z Z Z bC) (Q1m [1] Z (H':=[_]) Z ?_)
 refine Q1a (_,a0 + 1,(a4.set a0 (⟨(IntKind.wrap .i64 ((IntKind.wrap .i64 (1000003 * (IntKind.wrap .i64 (2 + 7)))) + ((a0:Nat):Int))),([] : List Int),[]⟩ : Qo))) (Nat.lt_succ_self _) hE [4,3] Z (asK [] Z) Z
 replace hm:=Q1y hm aM
 refine Q5 [] (S':=[]) Z (Q19 (Qc (Qc (Qt ?_))))
 have hE:=(Zi hm).symm
 replace hE:=QO hLu2 hE
 replace hE:=hE.symm
 subst hE
 refine Q5E (Hr:=[_]) [0] Tryz.results30 ⟨Z,Z,Z⟩ (asK [] Z) Z Z (.inr Z)
theorem Q8g (N:Nat) (aD:Nat) (a7:OA) (a8:Nat) (a9:Nat) (l0:List Qr) (aA:OA) (aB:Nat) (aC:Nat) (l1:List QG) (a5:OA) (aJ:Nat) (a6:Nat) (l2:List Q1) (a1:OA) (a2:Nat) (a3:Nat) (l3:List Bool) (a4:Int) (aE:OA) (aF:Nat) (l5:List Int) (o0:Nat) (o1:List Bool) (hm:Q27 N l0 l1 l2 l3 a4 l5 = some (o0,o1)):Q1R Tryz.prog 31 [.pointer (some ⟨aD,0,none⟩),.agg #[.int .i64 a4,.slice aE l5.length aF]] [.sli 1 Qi aE aF l5,tF] [.blk aD [.slice a7 a8 a9,.slice aA aB aC,.slice a5 aJ a6,.slice a1 a2 a3] 70,.own 213 2 QR (.slice a7 a8 a9) l0,.own 38 5 QM (.slice aA aB aC) l1,.own 45 2 Q9 (.slice a5 aJ a6) l2,.own 4 1 QW (.slice a1 a2 a3) l3] (fun v Φr Hr=>v = .int .i64 ((o0:Nat):Int) ∧ Φr = [] ∧ Hr = [.blk aD [.slice a7 a8 a9,.slice aA aB aC,.slice a5 aJ a6,.slice a1 a2 a3] 70,.own 213 2 QR (.slice a7 a8 a9) l0,.own 38 5 QM (.slice aA aB aC) l1,.own 45 2 Q9 (.slice a5 aJ a6) l2,.own 4 1 QW (.slice a1 a2 a3) o1]):=by
 unfold Q27 at hm
 refine QZ Tryz.func31 Z Tryz.ntmps31 Z (S:=[_,_]) Z (fun C=>(Q6 (Q2 (wB Z (fun g3=>(wP Z (Q3 (Q4 (Q5 [3,0] (S':=[_,_]) Z (Q6 ?_))))))))))
 obtain ⟨aG,aN,hm⟩:=Q7 hm
 refine QV [0,1,2,3,4] Z Z (fun hok=>(xP hok 0 Z (xP hok 1 Z (Ql hok 2 Z Z Z Zq Z Z Z Q7O (Qq hok 3 1 2 Z Z Z Zq Z Z Z Z (cs:=[_]) Z Q1X Q3D Z Z (Qq hok 4 0 0 Z Z Z Zq Z Z Z Z (cs:=[_,_]) Z Qe QS Z Z (xS hok 5 Z (QK 4 Z (fun aM _=>?_)))))))))
 subst aM
 refine Q2k [] [0,1,2,3,4,5] [4] Z Z Z Zq Z Z fn_50 Z (Q5K N a5 a6 l2 a4 aE aF l5 _ aN) (fun F w hφ hh=>(Qh (Q1n (hh _ (Qu (k:=0) Z))) (Qh (hφ _ (Qu (k:=0) Z)) (Qh (hφ _ (Qu (k:=1) Z)) Qv)))) (fun _ _ _ hR=>by obtain ⟨rfl,rfl,rfl⟩:=hR; exact ⟨Z,(fun _ h=>Q1O h)⟩) Z Z (H':=V6 ..) Z ?_
 rintro _ _ _ ⟨rfl,rfl,rfl⟩
 refine Q3 (Qy [0,1] [] Z Z (xS hok 6 Z (wP Z (Q3 (Qy [0,1] [] Z Z (QL hok Z (Q4 (Q5 [5,0] (S':=[_,_]) Z (Q6 (Q6 ?_))))))))))
 obtain ⟨aO,hm,hLj_1⟩:=Q7 hm
 refine Q18 (σ:=Bool) (fun a0=>aO = a0) (fun a0=>[(5,.int .i64 aG),(0,.pointer (some ⟨aD,0,none⟩)),(22,.bool a0)]) (fun a0=>[tF]) (fun a0=>[.blk aD [.slice a7 a8 a9,.slice aA aB aC,.slice a5 l2.length a6,.slice a1 a2 a3] 70,.own 213 2 QR (.slice a7 a8 a9) l0,.own 38 5 QM (.slice aA aB aC) l1,.own 45 2 Q9 (.slice a5 l2.length a6) l2,.own 4 1 QW (.slice a1 a2 a3) l3]) ?_ ?_
 refine Q2 (wP Z (wP Z (wP Z ?_)))
 refine Q5F (d:=14) (S':=V4 ..) Z Z (fun aH=>?_) (fun aH=>?_)
 replace hm:=Q1z hm aH
 refine wO Z (wO Z (wO Z (wO Z (wO Z (wO Z (wO Z (wP Z (Q3 ?_))))))))
 have hE:=(Zi hm).symm
 refine Q1m [1,2,3,4,5] Z (H':=V5 ..) Z ?_
 refine Qp true hE [5,0,22] Z (asK [1] Z) Z
 replace hm:=Q1y hm aH
 refine wP Z (wP Z (wF Z Q85 (wD 1 3 Z tS_68 tA_68 Z (wP Z ?_))))
 obtain ⟨aP,hm⟩:=Qd hm
 obtain ⟨aQ,aK,hm⟩:=Q7 hm
 refine Q2E 5 aG.toNat Z Z Z Zq Z Z Z Z (QC aP) (Qw aK) tE_68 tS_4 (fun b0 aR=>?_)
 subst aR
 refine Qk Q56 5 aG.toNat 0 Z Z Z Zq Z Z Z aK tS_4 tA_4 (v:=fun _=>.bool aQ) (fun _=>Z) (fun _=>Z) (fun _ _=>(wP Z (Q3 ?_)))
 have hE:=(Zi hm).symm
 refine Q1m [1,2,3,4,5] Z (H':=V5 ..) Z ?_
 refine Qp aQ hE [5,0,22] Z (asK [1] Z) Z
 rintro a0 hE
 try dsimp only
 have hm:=hLj_1
 try rw [hE] at hm
 refine QA Z (fun aI=>?_) (fun aI=>?_)
 replace hm:=Q1z hm aI
 refine Q5 [] (S':=[]) Z (Q6 (Q2 (wP Z (Q3 (Q4 (QP (Qn ?_)))))))
 have hE:=(Zi hm).symm
 obtain ⟨hE0,hE1⟩:=Prod.mk.inj hE
 clear hE
 replace hE0:=hE0.symm
 subst hE0
 replace hE1:=hE1.symm
 subst hE1
 refine QH (Hr:=V5 ..) [0,1,2,3,4] Tryz.results31 (QD Z) ⟨Z,Z,Z⟩ (asK [] Z) Z Z (.inl Z)
 replace hm:=Q1y hm aI
 refine Q5 [5,0] (S':=[_,_]) Z (Qs (Q4 (Q6 (Q2 (wP Z (wP Z (wF Z Q85 (wD 0 3 Z tS_68 tA_68 Z (wP Z ?_)))))))))
 obtain ⟨aS,hm⟩:=Qd hm
 obtain ⟨b1,aL,hm⟩:=Q7 hm
 refine Q2E 4 aG.toNat Z Z Z Zq Z Z Z Z (QC aS) (Qw aL) tE_68 tS_4 (fun b2 aT=>?_)
 subst aT
 refine QU (u:=true) 4 aG.toNat Z Z Z Z Z (Qw aL) Z Z tS_4 Z (fun F w hφ=>⟨(),Z,Qv⟩) (H':=V5 ..) Z (Q3 (Q4 (Q5 [] (S':=[]) Z (Q6 (Q2 (wP Z (Q3 (Q4 (QP ?_)))))))))
 have hE:=(Zi hm).symm
 obtain ⟨hE0,hE1⟩:=Prod.mk.inj hE
 clear hE
 replace hE0:=hE0.symm
 subst hE0
 replace hE1:=hE1.symm
 subst hE1
 refine QH (Hr:=V5 ..) [0,1,2,3,4] Tryz.results31 (QD Z) ⟨Z,Z,Z⟩ (asK [] Z) Z Z (.inl Z)
theorem Q8B (N:Nat) (a0:Int) (aI:OA) (aJ:Nat) (l1:List Int) (aK:Nat) (aC:Nat) (a9:Addr) (aD:Nat) (aA:Nat) (l2:List Int) (aE:OA) (aF:Nat) (aG:Nat) (l3:List Q1) (a3:OA) (a4:Nat) (a5:Nat) (l4:List Q1) (a7:Nat) (e5:List (ByteArray × Bool)) (aB:Nat) (a6:Int) (a1:OA) (a8:Nat) (a2:Nat) (l7:List Int) (o0:Bool) (hm:Q3d N a0 l1 l2 l3 l4 e5 a6 l7 = some o0):Q1R Tryz.prog 45 [.agg #[.int .i64 a0,.slice aI l1.length aJ],.pointer (some ⟨aK,0,none⟩),.pointer (some ⟨aB,0,none⟩)] [.sli 1 Qi aI aJ l1,tF] [.blk aK [.pointer (some ⟨aC,0,none⟩)] 30,.blk aC [.slice (some a9) aD aA,.slice aE aF aG,.slice a3 a4 a5,.map (some a7)] 66,.own 3 1 Qi (.slice (some a9) aD aA) l2,.own 45 2 Q9 (.slice aE aF aG) l3,.own 45 2 Q9 (.slice a3 a4 a5) l4,Q2s (Q1g (QQ Q2t)) false QW a7 e5,.blk aB [.int .i64 a6,.slice a1 a8 a2] 45,.own 3 1 Qi (.slice a1 a8 a2) l7] (fun v Φr Hr=>v = .bool o0 ∧ Φr = [] ∧ Hr = [.blk aK [.pointer (some ⟨aC,0,none⟩)] 30,.blk aC [.slice (some a9) aD aA,.slice aE aF aG,.slice a3 a4 a5,.map (some a7)] 66,.own 3 1 Qi (.slice (some a9) aD aA) l2,.own 45 2 Q9 (.slice aE aF aG) l3,.own 45 2 Q9 (.slice a3 a4 a5) l4,Q2s (Q1g (QQ Q2t)) false QW a7 e5,.blk aB [.int .i64 a6,.slice a1 a8 a2] 45,.own 3 1 Qi (.slice a1 a8 a2) l7]):=by
 unfold Q3d at hm
 refine QZ Tryz.func45 Z Tryz.ntmps45 Z (S:=V3 ..) Z (fun C=>(Q6 (Q2 (wB Z (fun g3=>(wP Z (Q3 (Q4 (Q5 [3,1,2] (S':=V3 ..) Z (Q6 ?_))))))))))
 obtain ⟨aU,aM,hm⟩:=Q7 hm
 refine QV [0,1,2,3,4,5,7] Z Z (fun hok=>(Qq hok 0 1 0 Z Z Z Zq Z Z Z Z (cs:=[_]) Z Q6d Q6c Z Z (xP hok 1 Z (Ql hok 2 Z Z Z Zq Z Z Z Q6j (Qq hok 3 2 0 Z Z Z Zq Z Z Z Z (cs:=[_]) Z Q8d Q8c Z Z (Qq hok 4 7 0 Z Z Z Zq Z Z Z Z (cs:=[_,_]) Z Qe QS Z Z (Qq hok 5 0 0 Z Z Z Zq Z Z Z Z (cs:=[_,_]) Z Qe QS Z Z (xS hok 6 Z (QK 3 Z (fun aL _=>?_))))))))))
 subst aL
 refine QK 8 Z (fun aH _=>?_)
 subst aH
 refine Q2k [] [0,1,2,3,4,5,6,7,8] [3,8] Z Z Z Zq Z Z Q66 Z (Q5v N (some a9) aA l2 a6 a1 a2 l7 a0 aI aJ l1 _ aM) (fun F w hφ hh=>(Qh (Q1n (hh _ (Qu (k:=0) Z))) (Qh (Q1n (hh _ (Qu (k:=1) Z))) (Qh (hφ _ (Qu (k:=0) Z)) (Qh (hφ _ (Qu (k:=1) Z)) Qv))))) (fun _ _ _ hR=>by obtain ⟨rfl,rfl,rfl⟩:=hR; exact ⟨Z,(fun _ h=>Q1O h)⟩) Z Z (H':=V9 ..) Z ?_
 rintro _ _ _ ⟨rfl,rfl,rfl⟩
 refine Q3 (Qy [0,1] [1] Z Z (xP hok 7 Z (xS hok 8 Z (wP Z (Q3 (Qy [0,1] [] Z Z (QL hok Z (Q4 (Q5 [4] (S':=[_]) Z (QP ?_))))))))))
 have hE:=(Zi hm).symm
 replace hE:=hE.symm
 subst hE
 refine QH (Hr:=V8 ..) [1,2,3,4,5,6,7,8] Tryz.results45 (QD Z) ⟨Z,Z,Z⟩ (asK [] Z) Z Z (.inl Z)
theorem Q8k (N:Nat) (aA:OA) (a7:Nat) (a8:Nat) (l0:List Q1) (aH:Nat) (aB:Nat) (aC:Addr) (aD:Nat) (aE:Nat) (l1:List Int) (aF:OA) (aG:Nat) (a1:Nat) (l2:List Q1) (a2:Nat) (e3:List (ByteArray × Bool)) (a9:Nat) (a4:Int) (a3:OA) (a5:Nat) (a6:Nat) (l5:List Int) (o0:Int) (hm:Q2S N l0 l1 l2 e3 a4 l5 = some o0):Q1R Tryz.prog 44 [.slice aA a7 a8,.func (.func 45) #[] #[.pointer (some ⟨aH,0,none⟩),.pointer (some ⟨a9,0,none⟩)]] [tF] [.own 45 2 Q9 (.slice aA a7 a8) l0,.blk aH [.pointer (some ⟨aB,0,none⟩)] 30,.blk aB [.slice (some aC) aD aE,.slice aA a7 a8,.slice aF aG a1,.map (some a2)] 66,.own 3 1 Qi (.slice (some aC) aD aE) l1,.own 45 2 Q9 (.slice aF aG a1) l2,Q2s (Q1g (QQ Q2t)) false QW a2 e3,.blk a9 [.int .i64 a4,.slice a3 a5 a6] 45,.own 3 1 Qi (.slice a3 a5 a6) l5] (fun v Φr Hr=>v = .int .i64 o0 ∧ Φr = [] ∧ Hr = [.own 45 2 Q9 (.slice aA a7 a8) l0,.blk aH [.pointer (some ⟨aB,0,none⟩)] 30,.blk aB [.slice (some aC) aD aE,.slice aA a7 a8,.slice aF aG a1,.map (some a2)] 66,.own 3 1 Qi (.slice (some aC) aD aE) l1,.own 45 2 Q9 (.slice aF aG a1) l2,Q2s (Q1g (QQ Q2t)) false QW a2 e3,.blk a9 [.int .i64 a4,.slice a3 a5 a6] 45,.own 3 1 Qi (.slice a3 a5 a6) l5]):=by
 unfold Q2S at hm
 refine QZ Tryz.func44 Z Tryz.ntmps44 Z (S:=[_,_]) Z (fun C=>(Q6 (Q2 (wP Z (Q3 (Q4 (Q5 [0,1] (S':=[_,_]) Z (Q6 ?_))))))))
 obtain ⟨aN,hm,hLj_1⟩:=Q35 hm
 refine Q18 (σ:=Unit) (fun _=>aN = .inl ()) (fun _=>[]) (fun _=>[tF]) (fun _=>[.own 45 2 Q9 (.slice aA a7 a8) l0,.blk aH [.pointer (some ⟨aB,0,none⟩)] 30,.blk aB [.slice (some aC) aD aE,.slice aA a7 a8,.slice aF aG a1,.map (some a2)] 66,.own 3 1 Qi (.slice (some aC) aD aE) l1,.own 45 2 Q9 (.slice aF aG a1) l2,Q2s (Q1g (QQ Q2t)) false QW a2 e3,.blk a9 [.int .i64 a4,.slice a3 a5 a6] 45,.own 3 1 Qi (.slice a3 a5 a6) l5]) ?_ ?_
 refine Q6 (Q2 (wP Z (QK 0 Z (fun aW _=>(wN Z QB (Qz (d:=7) (v':=.int .i64 ((l0.length:Nat):Int)) (S':=V3 ..) Z Z (Q4A aW) (wP Z (Q3 (Q4 (Q5 [8,7,0,1] (S':=V4 ..) Z (Qm (Q1f (σ:=Nat × Nat) (fun (aI,a0)=>Q1o (Q1A N l0 l1 l2 e3 a4 l5) aI a0 = some aN) (fun (aI,a0)=>aI) (fun (aI,a0)=>[(8,.int .i64 ((a0:Nat):Int)),(7,.int .i64 ((l0.length:Nat):Int)),(0,.slice aA a7 a8),(1,.func (.func 45) #[] #[.pointer (some ⟨aH,0,none⟩),.pointer (some ⟨a9,0,none⟩)])]) (fun (aI,a0)=>[tF]) (fun (aI,a0)=>[.own 45 2 Q9 (.slice aA a7 a8) l0,.blk aH [.pointer (some ⟨aB,0,none⟩)] 30,.blk aB [.slice (some aC) aD aE,.slice aA a7 a8,.slice aF aG a1,.map (some a2)] 66,.own 3 1 Qi (.slice (some aC) aD aE) l1,.own 45 2 Q9 (.slice aF aG a1) l2,Q2s (Q1g (QQ Q2t)) false QW a2 e3,.blk a9 [.int .i64 a4,.slice a3 a5 a6] 45,.own 3 1 Qi (.slice a3 a5 a6) l5]) (N,0) hm [8,7,0,1] Z (asK [0] Z) Z (fun s_ hm=>?_)))))))))))))
 obtain ⟨aI,a0⟩:=s_
 try dsimp only at hm ⊢
 obtain ⟨aZ,b0,aS,hq,hLu1⟩:=Q1d hm
 clear hm
 subst aS
 replace hm:=hq
 clear hq
 unfold Q1A at hm
 try dsimp only at hm
 refine Q6 (Q2 (wP Z (Qz (d:=9) (v':=.bool (decide (a0 < l0.length))) (S':=V4 ..) Z Z (Q3f (a:=a0) (b:=l0.length)) (Q3 (Q4 (Q6 ?_))))))
 refine QA Z (fun aR=>?_) (fun aR=>?_)
 replace hm:=Q1z hm aR
 refine Q5 [8,7,0,1] (S':=V4 ..) Z (Qs (Q4 (Q6 (Qm (Q6 (Q2 (wP Z (wP Z (Q3 (Q4 (Q5 [5,8,7,0,1] (S':=V5 ..) Z (Q6 (Q2 ?_)))))))))))))
 refine wP Z (wP Z (wP Z ?_))
 obtain ⟨aM,aO,hm⟩:=Q7 hm
 refine Q2E 0 a0 Z Z Z Zq Z Z Z Z Z (Qw aO) QB Qe (fun aX aT=>?_)
 subst aT
 refine Qk Qa 0 a0 0 Z Z Z Zq Z Z Z aO Qe QS (v:=fun aK=>.agg #[.int .i64 (aM.rule),.slice aK.1 aM.ids.length aK.2]) (fun _=>Z) (fun _=>Z) (fun aK _=>?_)
 obtain ⟨b1,aU,hm⟩:=Q7 hm
 refine wl_callDyn [1,2,3,0,4,5,6,7] [] Z Z Z Zq Z Z Z fn_45 Z Z (Q8B N aM.rule aK.1 aK.2 aM.ids aH aB aC aD aE l1 (some ⟨aX,0,none⟩) a7 a8 l0 aF aG a1 l2 a2 e3 a9 a4 a3 a5 a6 l5 _ aU) (asK [0,1] Z) Z (H':=[]) Z ?_
 rintro _ _ _ ⟨rfl,rfl,rfl⟩
 refine Q3 (Q4 (Q5 [16,5,8,7,0,1] (S':=V6 ..) Z ?_))
 refine QA Z (fun aL=>?_) (fun aL=>?_)
 replace hm:=Q1z hm aL
 refine Q5 [5] (S':=[_]) Z (Q6 (Q2 (wP Z (wP Z (Q3 (Q4 (Q5 [4] (S':=[_]) Z (QP (Q11 (Qn (Qn (Q11 (Qn ?_)))))))))))))
 have hE:=(Zi hm).symm
 replace hE:=QO hLu1 hE
 replace hE:=QO hLj_1 hE
 replace hE:=hE.symm
 subst hE
 refine QH (Hr:=V8 ..) [3,0,1,2,4,5,6,7] Tryz.results44 (QD Z) ⟨Z,Z,Z⟩ (asK [] Z) Z Z (.inl Z)
 replace hm:=Q1y hm aL
 refine Q5 [8,7,0,1] (S':=V4 ..) Z (Qs (Qj (Q4 (Q2 (wP Z ?_)))))
 obtain ⟨aV,hm⟩:=Qd hm
 refine Qz (d:=18) (v':=.int .i64 ((a0 + 1:Nat):Int)) (S':=V4 ..) Z Z (Q1i (a:=a0) (b:=1) aV) (QI (S':=V4 ..) Z Z Z Z Z (Q3 ?_))
 have hE:=(Zi hm).symm
 replace hE:=Q14 hLu1 hE
 refine Q1m [3,0,1,2,4,5,6,7] Z (H':=V8 ..) Z ?_
 refine Q1a (_,a0 + 1) (Nat.lt_succ_self _) hE [8,7,0,1] Z (asK [1] Z) Z
 replace hm:=Q1y hm aR
 refine Q5 [] (S':=[]) Z (Q19 (Qc (Qc (Qt ?_))))
 have hE:=(Zi hm).symm
 replace hE:=QO hLu1 hE
 refine Qp () hE [] Z (asK [0] Z) Z
 rintro _ hE
 try dsimp only
 have hm:=Q14 hLj_1 hE
 try dsimp only at hm
 refine Q6 (Q2 (wP Z (Q3 (Q4 (QP ?_)))))
 have hE:=(Zi hm).symm
 replace hE:=hE.symm
 subst hE
 refine QH (Hr:=V8 ..) [0,1,2,3,4,5,6,7] Tryz.results44 (QD Z) ⟨Z,Z,Z⟩ (asK [] Z) Z Z (.inl Z)
theorem Q8U (N:Nat) (a9:Nat) (a5:Addr) (a6:Nat) (a7:Nat) (l0:List Int) (aH:OA) (aQ:Nat) (aI:Nat) (l1:List Q1) (aA:OA) (aB:Nat) (aC:Nat) (l2:List Q1) (a0:Nat) (e3:List (ByteArray × Bool)) (a4:Int) (a1:OA) (aG:Nat) (a2:Nat) (l5:List Int) (o0:Nat) (o1:List Int) (o4:List Q1) (o8:List Q1) (aX:List (ByteArray × Bool)) (hm:Q1L N l0 l1 l2 e3 a4 l5 = some (o0,o1,o4,o8,aX)):Q1R Tryz.prog 23 [.pointer (some ⟨a9,0,none⟩),.agg #[.int .i64 a4,.slice a1 aG a2]] [tF] [.blk a9 [.slice (some a5) a6 a7,.slice aH aQ aI,.slice aA aB aC,.map (some a0)] 66,.own 3 1 Qi (.slice (some a5) a6 a7) l0,.own 45 2 Q9 (.slice aH aQ aI) l1,.own 45 2 Q9 (.slice aA aB aC) l2,Q2s (Q1g (QQ Q2t)) false QW a0 e3,.own 3 1 Qi (.slice a1 aG a2) l5] (fun v Φr Hr=>∃ (o2:OA) (o3:Nat) (o5:Nat) (o6:OA) (o7:Nat) (o9:Nat),v = .int .i64 ((o0:Nat):Int) ∧ Φr = [] ∧ Hr = [.blk a9 [.slice (some a5) a6 a7,.slice o2 o5 o3,.slice o6 o9 o7,.map (some a0)] 66,.own 3 1 Qi (.slice (some a5) a6 a7) o1,.own 45 2 Q9 (.slice o2 o5 o3) o4,.own 45 2 Q9 (.slice o6 o9 o7) o8,Q2s (Q1g (QQ Q2t)) false QW a0 aX,.own 3 1 Qi (.slice a1 aG a2) l5]):=by
 unfold Q1L at hm
 refine QZ Tryz.func23 Z Tryz.ntmps23 Z (S:=[_,_]) Z (fun C=>(Q6 (Q2 (wB Z (fun g2=>(wB Z (fun g3=>(wP Z (Q3 (Q4 (Q5 [3,2] (S':=[_,_]) Z (Q6 (Q6 (Q2 (wD 1 0 Z Q6d Q6c Z ?_)))))))))))))))
 obtain ⟨_,b5,hm⟩:=Q7 hm
 try dsimp only at hm
 refine wC [2,3,4,5,6] [0,1,7] Z fn_32 Z (Q3B N a9 a5 a6 a7 l0 aH aQ aI l1 aA aB aC l2 a0 e3 b5) (asK [0] Z) Z (H':=V3 ..) Z ?_
 rintro _ _ _ ⟨rfl,rfl,rfl⟩
 refine wP Z (Q3 (Q4 (Q5 [8,3,2] (S':=V3 ..) Z (Q4q Z (Q5 [3,2] (S':=[_,_]) Z (Qs (Q4 (Q6 (Q2 (wD 6 0 Z Q6d Q6c Z (wP Z (wF Z Q5W (wD 0 1 Z Q1X Q3D Z ?_)))))))))))))
 refine Qa8 Z Z Z Zq Z Z (QK 2 Z (fun aR _=>?_))
 subst aR
 obtain ⟨a3,aY,hm⟩:=Q7 hm
 refine wC [2,6,0,1,3,4,5,7] [] Z fn_44 Z (Q8k N aH l1.length aI l1 g2 a9 a5 a6 a7 l0 aA aB aC l2 a0 e3 g3 a4 a1 aG a2 l5 _ aY) (asK [0] Z) Z (H':=[]) Z ?_
 rintro _ _ _ ⟨rfl,rfl,rfl⟩
 refine wP Z (Q3 (Q4 (Q5 [5,3,2] (S':=V3 ..) Z (Q6 (Q6 (Q2 (wP Z (wP Z (Q3 (Q4 (Q5 [16,5,3,2] (S':=V4 ..) Z ?_)))))))))))
 refine QA Z (fun aJ=>?_) (fun aJ=>?_)
 replace hm:=Q1z hm aJ
 refine Q5 [] (S':=[]) Z (Q6 (Q2 (wP Z (Q3 (Q4 (QP (Qn ?_)))))))
 have hE:=(Zi hm).symm
 obtain ⟨hE0,hF1⟩:=Prod.mk.inj hE
 obtain ⟨hE1,hF2⟩:=Prod.mk.inj hF1
 obtain ⟨hE2,hF3⟩:=Prod.mk.inj hF2
 obtain ⟨hE3,hE4⟩:=Prod.mk.inj hF3
 clear hE hF1 hF2 hF3
 replace hE0:=hE0.symm
 subst hE0
 replace hE1:=hE1.symm
 subst hE1
 replace hE2:=hE2.symm
 subst hE2
 replace hE3:=hE3.symm
 subst hE3
 replace hE4:=hE4.symm
 subst hE4
 refine QH (Hr:=V6 ..) [2,3,0,4,5,7] Tryz.results23 (QD Z) ⟨aH,aI,l1.length,aA,aC,aB,Z,Z,Z⟩ (asK [] Z) Z Z (.inl Z)
 replace hm:=Q1y hm aJ
 refine Q5 [5,3,2] (S':=V3 ..) Z (Qs (Q4 (Q6 ?_)))
 obtain ⟨aZ,hm⟩:=Qd hm
 obtain ⟨b0,hm⟩:=Qd hm
 obtain ⟨aS,hm⟩:=Qd hm
 refine QV [0,1,2,3,4,5,6,7,9,10] Z Z (fun hok=>(Qq hok 0 1 0 Z Z Z Zq Z Z Z Z (cs:=[_]) Z Q6d Q6c Z Z (Qq hok 1 1 0 Z Z Z Zq Z Z Z Z (cs:=[_]) Z Q6d Q6c Z Z (xP hok 2 Z (Ql hok 3 Z Z Z Zq Z Z Z Q5W (Qq hok 4 2 1 Z Z Z Zq Z Z Z Z (cs:=[_]) Z Q1X Q3D Z Z (xP hok 5 Z (xP hok 6 Z (xP hok 7 Z (Q1e (d:=24) (v':=.int .i64 (a3 + 1)) (S':=V10 ..) Z Z (i64_in aZ) (xS hok 8 Z (wC [0] [1,2,3,4,5,6,7] Z fn_46 Z (Delete46_s aH aI a3 l1 b0 aS) (asK [] Z) Z (H':=V7 ..) Z ?_))))))))))))
 rintro _ _ _ ⟨aT,aU,rfl,rfl,rfl⟩
 refine Q3 (Qy [0] [1,1] Z Z (xP hok 9 Z (Ql hok 10 Z Z Z Zq Z Z Z Q5W (xS hok 11 Z (wS 2 1 Z Q1X (all':=V4 ..) Z (H':=V8 ..) Z (Q3 (Qy [0] [] Z Z (QL hok Z (Q4 (Q5 [3,2] (S':=[_,_]) Z (Q6 ?_)))))))))))
 obtain ⟨b1,b2,hm⟩:=Q7 hm
 refine QV [0,1,2,3,4] Z Z (fun hok=>(Qq hok 0 1 0 Z Z Z Zq Z Z Z Z (cs:=[_]) Z Q6d Q6c Z Z (xP hok 1 Z (Ql hok 2 Z Z Z Zq Z Z Z Q9H (Qq hok 3 2 3 Z Z Z Zq Z Z Z Z (cs:=[_]) Z tS_64 tA_64 Z Z (Qq hok 4 6 0 Z Z Z Zq Z Z Z Z (cs:=[_,_]) Z Qe QS Z Z (xS hok 5 Z (QK 7 Z (fun aO _=>?_)))))))))
 subst aO
 refine Q2k [] [0,1,2,3,4,5,6,7] [7] Z Z Z Zq Z Z fn_42 Z (Q3U N a4 a1 a2 l5 _ b2) (fun F w hφ hh=>(Qh (Q1n (hh _ (Qu (k:=0) Z))) (Qh (hφ _ (Qu (k:=0) Z)) Qv))) (fun _ _ _ hR=>by obtain ⟨rfl,rfl,rfl⟩:=hR; exact ⟨Z,(fun _ h=>Q1O h)⟩) Z Z (H':=V8 ..) Z ?_
 rintro _ _ _ ⟨rfl,rfl,rfl⟩
 refine Q3 (Qy [0] [2,1] Z Z (xS hok 6 Z (Q7C (i:=b1) (u:=true) (cs:=[.bool true]) ltB 5 Z Z (.inl Z) Z Z Z Z Q8I trivial Z (fun F w hφ=>⟨(),Z,Qv⟩) (H':=[.own 45 2 Q9 (.slice aT ((l1.take a3.toNat ++ l1.drop (a3.toNat + 1)).length) aU) (l1.take a3.toNat ++ l1.drop (a3.toNat + 1)),.blk g2 [.pointer (some ⟨a9,0,none⟩)] 30,.blk a9 [.slice (some a5) a6 a7,.slice aT ((l1.take a3.toNat ++ l1.drop (a3.toNat + 1)).length) aU,.slice aA aB aC,.map (some a0)] 66,.own 3 1 Qi (.slice (some a5) a6 a7) l0,.own 45 2 Q9 (.slice aA aB aC) l2,Q2s (Q1g (QQ Q2t)) false QW a0 (Q61 ltB b1 true e3),.blk g3 [.int .i64 a4,.slice a1 l5.length a2] 45,.own 3 1 Qi (.slice a1 l5.length a2) l5]) Z (Q3 (Qy [0] [] Z Z (QL hok Z (Q4 (Q5 [3,2] (S':=[_,_]) Z (Q6 ?_)))))))))
 obtain ⟨_,b3,hm⟩:=Q7 hm
 try dsimp only at hm
 obtain ⟨aP,hm⟩:=Qd hm
 refine QV [0,1,2,3,4,5,9,10] Z Z (fun hok=>(Qq hok 0 1 0 Z Z Z Zq Z Z Z Z (cs:=[_]) Z Q6d Q6c Z Z (Qq hok 1 1 0 Z Z Z Zq Z Z Z Z (cs:=[_]) Z Q6d Q6c Z Z (xP hok 2 Z (Ql hok 3 Z Z Z Zq Z Z Z Q6b (Qq hok 4 2 2 Z Z Z Zq Z Z Z Z (cs:=[_]) Z Q1X Q3D Z Z (Qq hok 5 6 0 Z Z Z Zq Z Z Z Z (cs:=[_,_]) Z Qe QS Z Z (xS hok 6 Z (Q2k [] [0,1,2,3,4,5,6,7] [7] Z Z Z Zq Z Z fn_33 Z (Q5d N a4 a1 a2 l5 b3) (fun F w hφ hh=>(Qh (Q1n (hh _ (Qu (k:=0) Z))) (Qh (hφ _ (Qu (k:=0) Z)) Qv))) (fun _ _ _ hR=>by obtain ⟨_,_,rfl,rfl,rfl⟩:=hR; exact ⟨Z,(Q7d (Q7N Q6I) (fun _ h=>Q1O h))⟩) Z Z (H':=V8 ..) Z ?_)))))))))
 rintro _ _ _ ⟨aD,aE,rfl,rfl,rfl⟩
 refine Q3 (Qy [0] [3,2,2] Z Z (xS hok 7 Z (QE Z Z Z Zq Z QB Qe Q42 Z (zs:=[.int .i64 0,V1]) (by kernel_rfl) Z (out:=[_,_]) Z (fun bK=>(Q3 (Qy [0] [8,4,3,3] Z Z (xS hok 8 Z (Q6B 1 Z (H':=V9 ..) Z (Q4Q (.sli 1 Qi aD aE l5) (fun F w hφ=>Q1n (hφ _ (Qu (k:=0) Z))) (Q2w ([(⟨a4,l5⟩ : Q1)]) 5 0 Z Z Z Zq Z Z Z Z Z (fun F w hφ=>⟨[.int .i64 a4,.slice aD l5.length aE],[],Z,Z,⟨(aD,aE),Z,(Qh (hφ _ (Qu (k:=0) Z)) Qv)⟩,Z⟩) QB Q7P Z Z (Nat.le_trans aP (by decide)) (Nat.le_trans (Nat.mul_le_mul_right _ aP) (by decide)) (H2:=fun aK aL=>[_,_,_,_,_,.own 45 2 Q9 (.slice aK ((l2 ++ ([(⟨a4,l5⟩ : Q1)])).length) aL) (l2 ++ ([(⟨a4,l5⟩ : Q1)])),_,_,_]) (fun _ _=>Z) (fun aK aL=>(Q3E 0 Z (H':=V8 ..) Z (Q3 (Qy [2] [6,1,1] Z Z (xP hok 9 Z ?_)))))))))))))))
 refine Ql hok 10 Z Z Z Zq Z Z Z Q6b (xS hok 11 Z (wS 2 2 Z Q1X (all':=V4 ..) Z (H':=V8 ..) Z (Q3 (Qy [0,1,2] [] Z Z (QL hok Z (Q4 (Q5 [2] (S':=[_]) Z (Q6 ?_))))))))
 obtain ⟨⟨aV,b6⟩,b4,hm⟩:=Q7 hm
 try dsimp only at hm
 obtain ⟨aM,hm⟩:=Qd hm
 refine QV [0,1,2,3,4,5,6,7] Z Z (fun hok=>(Qq hok 0 1 0 Z Z Z Zq Z Z Z Z (cs:=[_]) Z Q6d Q6c Z Z (xP hok 1 Z (Ql hok 2 Z Z Z Zq Z Z Z Q6b (Qq hok 3 2 2 Z Z Z Zq Z Z Z Z (cs:=[_]) Z Q1X Q3D Z Z (Qq hok 4 1 0 Z Z Z Zq Z Z Z Z (cs:=[_]) Z Q6d Q6c Z Z (xP hok 5 Z (Ql hok 6 Z Z Z Zq Z Z Z Q6j (Qq hok 7 2 0 Z Z Z Zq Z Z Z Z (cs:=[_]) Z Q8d Q8c Z Z (xS hok 8 Z (Q6M Z Z Z Zq Z Z Z (Q3 (Qy [0,1,2] [1,2,1] Z Z (xS hok 9 Z ?_))))))))))))))
 refine wC [4,3] [0,1,2,5,6,7] Z fn_43 Z (Q2J N aK ((l2 ++ ([(⟨a4,l5⟩ : Q1)])).length) aL (l2 ++ ([(⟨a4,l5⟩ : Q1)])) a5 a6 a7 l0 _ _ b4) (asK [2] Z) Z (H':=V6 ..) Z ?_
 rintro _ _ _ ⟨b7,rfl,rfl,rfl⟩
 refine QK 0 Z (fun aN _=>?_)
 subst aN
 refine Q28 0 (φ':=.own 45 2 Q9 (.slice aK ((l2 ++ ([(⟨a4,l5⟩ : Q1)])).length) aL) aV) Z (by rw [aM]) (H':=V8 ..) Z (Q3 (Qy [0,1,2] [4,3,3] Z Z (QL hok Z (Q4 (Q5 [] (S':=[]) Z (Q6 (Q2 (wP Z (Q3 (Q4 (QP ?_)))))))))))
 have hE:=(Zi hm).symm
 obtain ⟨hE0,hF1⟩:=Prod.mk.inj hE
 obtain ⟨hE1,hF2⟩:=Prod.mk.inj hF1
 obtain ⟨hE2,hF3⟩:=Prod.mk.inj hF2
 obtain ⟨hE3,hE4⟩:=Prod.mk.inj hF3
 clear hE hF1 hF2 hF3
 replace hE0:=hE0.symm
 subst hE0
 replace hE1:=hE1.symm
 subst hE1
 replace hE2:=hE2.symm
 subst hE2
 replace hE3:=hE3.symm
 subst hE3
 replace hE4:=hE4.symm
 subst hE4
 refine QH (Hr:=V6 ..) [4,1,2,0,5,7] Tryz.results23 (QD Z) ⟨aT,aU,(l1.take a3.toNat ++ l1.drop (a3.toNat + 1)).length,aK,aL,(l2 ++ ([(⟨a4,l5⟩ : Q1)])).length,Z,Z,Z⟩ (asK [] Z) Z Z (.inl Z)
theorem Q7Q (N:Nat) (aF:Nat) (a9:OA) (aA:Nat) (aB:Nat) (l0:List Qr) (aC:OA) (aD:Nat) (aE:Nat) (l1:List QG) (a7:OA) (aK:Nat) (a8:Nat) (l2:List Q1) (a1:OA) (a2:Nat) (a3:Nat) (l3:List Bool) (a4:Int) (a5:OA) (aG:Nat) (a6:Nat) (l5:List Int) (o0:Nat) (o1:List Bool) (hm:Q27 N l0 l1 l2 l3 a4 l5 = some (o0,o1)):Q1R Tryz.prog 31 [.pointer (some ⟨aF,0,none⟩),.agg #[.int .i64 a4,.slice a5 aG a6]] [tF] [.blk aF [.slice a9 aA aB,.slice aC aD aE,.slice a7 aK a8,.slice a1 a2 a3] 70,.own 213 2 QR (.slice a9 aA aB) l0,.own 38 5 QM (.slice aC aD aE) l1,.own 45 2 Q9 (.slice a7 aK a8) l2,.own 4 1 QW (.slice a1 a2 a3) l3,.own 3 1 Qi (.slice a5 aG a6) l5] (fun v Φr Hr=>v = .int .i64 ((o0:Nat):Int) ∧ Φr = [] ∧ Hr = [.blk aF [.slice a9 aA aB,.slice aC aD aE,.slice a7 aK a8,.slice a1 a2 a3] 70,.own 213 2 QR (.slice a9 aA aB) l0,.own 38 5 QM (.slice aC aD aE) l1,.own 45 2 Q9 (.slice a7 aK a8) l2,.own 4 1 QW (.slice a1 a2 a3) o1,.own 3 1 Qi (.slice a5 aG a6) l5]):=by
 unfold Q27 at hm
 refine QZ Tryz.func31 Z Tryz.ntmps31 Z (S:=[_,_]) Z (fun C=>(Q6 (Q2 (wB Z (fun g3=>(wP Z (Q3 (Q4 (Q5 [3,0] (S':=[_,_]) Z (Q6 ?_))))))))))
 obtain ⟨aH,aQ,hm⟩:=Q7 hm
 refine QV [0,1,2,3,4] Z Z (fun hok=>(xP hok 0 Z (xP hok 1 Z (Ql hok 2 Z Z Z Zq Z Z Z Q7O (Qq hok 3 1 2 Z Z Z Zq Z Z Z Z (cs:=[_]) Z Q1X Q3D Z Z (Qq hok 4 0 0 Z Z Z Zq Z Z Z Z (cs:=[_,_]) Z Qe QS Z Z (xS hok 5 Z (QK 4 Z (fun aO _=>?_)))))))))
 subst aO
 refine QK 6 Z (fun aL _=>?_)
 subst aL
 refine Q2k [] [0,1,2,3,4,5,6] [4,6] Z Z Z Zq Z Z fn_50 Z (Q5K N a7 a8 l2 a4 a5 a6 l5 _ aQ) (fun F w hφ hh=>(Qh (Q1n (hh _ (Qu (k:=0) Z))) (Qh (Q1n (hh _ (Qu (k:=1) Z))) (Qh (hφ _ (Qu (k:=0) Z)) Qv)))) (fun _ _ _ hR=>by obtain ⟨rfl,rfl,rfl⟩:=hR; exact ⟨Z,(fun _ h=>Q1O h)⟩) Z Z (H':=V7 ..) Z ?_
 rintro _ _ _ ⟨rfl,rfl,rfl⟩
 refine Q3 (Qy [0] [] Z Z (xS hok 6 Z (wP Z (Q3 (Qy [0] [] Z Z (QL hok Z (Q4 (Q5 [5,0] (S':=[_,_]) Z (Q6 (Q6 ?_))))))))))
 obtain ⟨aR,hm,hLj_1⟩:=Q7 hm
 refine Q18 (σ:=Bool) (fun a0=>aR = a0) (fun a0=>[(5,.int .i64 aH),(0,.pointer (some ⟨aF,0,none⟩)),(22,.bool a0)]) (fun a0=>[tF]) (fun a0=>[.blk aF [.slice a9 aA aB,.slice aC aD aE,.slice a7 l2.length a8,.slice a1 a2 a3] 70,.own 213 2 QR (.slice a9 aA aB) l0,.own 38 5 QM (.slice aC aD aE) l1,.own 45 2 Q9 (.slice a7 l2.length a8) l2,.own 4 1 QW (.slice a1 a2 a3) l3,.own 3 1 Qi (.slice a5 l5.length a6) l5]) ?_ ?_
 refine Q2 (wP Z (wP Z (wP Z ?_)))
 refine Q5F (d:=14) (S':=V4 ..) Z Z (fun aI=>?_) (fun aI=>?_)
 replace hm:=Q1z hm aI
 refine wO Z (wO Z (wO Z (wO Z (wO Z (wO Z (wO Z (wP Z (Q3 ?_))))))))
 have hE:=(Zi hm).symm
 refine Q1m [1,2,3,4,5,6] Z (H':=V6 ..) Z ?_
 refine Qp true hE [5,0,22] Z (asK [0] Z) Z
 replace hm:=Q1y hm aI
 refine wP Z (wP Z (wF Z Q85 (wD 1 3 Z tS_68 tA_68 Z (wP Z ?_))))
 obtain ⟨aS,hm⟩:=Qd hm
 obtain ⟨aT,aM,hm⟩:=Q7 hm
 refine Q2E 5 aH.toNat Z Z Z Zq Z Z Z Z (QC aS) (Qw aM) tE_68 tS_4 (fun b2 aU=>?_)
 subst aU
 refine Qk Q56 5 aH.toNat 0 Z Z Z Zq Z Z Z aM tS_4 tA_4 (v:=fun _=>.bool aT) (fun _=>Z) (fun _=>Z) (fun _ _=>(wP Z (Q3 ?_)))
 have hE:=(Zi hm).symm
 refine Q1m [1,2,3,4,5,6] Z (H':=V6 ..) Z ?_
 refine Qp aT hE [5,0,22] Z (asK [0] Z) Z
 rintro a0 hE
 try dsimp only
 have hm:=hLj_1
 try rw [hE] at hm
 refine QA Z (fun aJ=>?_) (fun aJ=>?_)
 replace hm:=Q1z hm aJ
 refine Q5 [] (S':=[]) Z (Q6 (Q2 (wP Z (Q3 (Q4 (QP (Qn ?_)))))))
 have hE:=(Zi hm).symm
 obtain ⟨hE0,hE1⟩:=Prod.mk.inj hE
 clear hE
 replace hE0:=hE0.symm
 subst hE0
 replace hE1:=hE1.symm
 subst hE1
 refine QH (Hr:=V6 ..) [0,1,2,3,4,5] Tryz.results31 (QD Z) ⟨Z,Z,Z⟩ (asK [] Z) Z Z (.inl Z)
 replace hm:=Q1y hm aJ
 refine Q5 [5,0] (S':=[_,_]) Z (Qs (Q4 (Q6 (Q2 (wP Z (wP Z (wF Z Q85 (wD 0 3 Z tS_68 tA_68 Z (wP Z ?_)))))))))
 obtain ⟨aV,hm⟩:=Qd hm
 obtain ⟨b3,aN,hm⟩:=Q7 hm
 refine Q2E 4 aH.toNat Z Z Z Zq Z Z Z Z (QC aV) (Qw aN) tE_68 tS_4 (fun b4 aW=>?_)
 subst aW
 refine QU (u:=true) 4 aH.toNat Z Z Z Z Z (Qw aN) Z Z tS_4 Z (fun F w hφ=>⟨(),Z,Qv⟩) (H':=V6 ..) Z (Q3 (Q4 (Q5 [] (S':=[]) Z (Q6 (Q2 (wP Z (Q3 (Q4 (QP ?_)))))))))
 have hE:=(Zi hm).symm
 obtain ⟨hE0,hE1⟩:=Prod.mk.inj hE
 clear hE
 replace hE0:=hE0.symm
 subst hE0
 replace hE1:=hE1.symm
 subst hE1
 refine QH (Hr:=V6 ..) [0,1,2,3,4,5] Tryz.results31 (QD Z) ⟨Z,Z,Z⟩ (asK [] Z) Z Z (.inl Z)
theorem Q9J (N:Nat) (bA:Nat) (b4:Addr) (b5:Nat) (b6:Nat) (l0:List Int) (bB:OA) (bC:Nat) (bD:Nat) (l1:List Q1) (bE:OA) (bF:Nat) (bG:Nat) (l2:List Q1) (aP:Nat) (e3:List (ByteArray × Bool)) (b2:Nat) (aQ:OA) (aR:Nat) (aS:Nat) (l4:List Qr) (aT:OA) (aU:Nat) (aV:Nat) (l5:List QG) (aW:OA) (aX:Nat) (aY:Nat) (l6:List Q1) (aZ:OA) (b0:Nat) (b1:Nat) (l7:List Bool) (a8:Int) (a9:Int) (bH:OA) (bI:Nat) (b3:List Q1) (o0:Bool) (o1:List Int) (o4:List Q1) (o8:List Q1) (d6:List (ByteArray × Bool)) (d7:List Q1) (d8:List Bool) (hm:Q5A N l0 l1 l2 e3 l4 l5 l6 l7 a8 a9 b3 = some (o0,o1,o4,o8,d6,d7,d8)):Q1R Tryz.prog 10 [.pointer (some ⟨bA,0,none⟩),.pointer (some ⟨b2,0,none⟩),.agg #[.int .i64 a8,.int .i64 a9,.slice bH b3.length bI]] [.sli 2 Q9 bH bI b3,tF] [.blk bA [.slice (some b4) b5 b6,.slice bB bC bD,.slice bE bF bG,.map (some aP)] 66,.own 3 1 Qi (.slice (some b4) b5 b6) l0,.own 45 2 Q9 (.slice bB bC bD) l1,.own 45 2 Q9 (.slice bE bF bG) l2,Q2s (Q1g (QQ Q2t)) false QW aP e3,.blk b2 [.slice aQ aR aS,.slice aT aU aV,.slice aW aX aY,.slice aZ b0 b1] 70,.own 213 2 QR (.slice aQ aR aS) l4,.own 38 5 QM (.slice aT aU aV) l5,.own 45 2 Q9 (.slice aW aX aY) l6,.own 4 1 QW (.slice aZ b0 b1) l7] (fun v Φr Hr=>∃ (o2:OA) (o3:Nat) (o5:Nat) (o6:OA) (o7:Nat) (o9:Nat) (d9:Nat) (dA:OA) (dB:Nat) (dC:Nat) (dD:OA) (dE:Nat) (dF:Nat),v = .bool o0 ∧ Φr = [] ∧ Hr = [.blk bA [.slice (some b4) b5 b6,.slice o2 o5 o3,.slice o6 o9 o7,.map (some d9)] 66,.own 3 1 Qi (.slice (some b4) b5 b6) o1,.own 45 2 Q9 (.slice o2 o5 o3) o4,.own 45 2 Q9 (.slice o6 o9 o7) o8,Q2s (Q1g (QQ Q2t)) false QW d9 d6,.blk b2 [.slice aQ aR aS,.slice aT aU aV,.slice dA dC dB,.slice dD dF dE] 70,.own 213 2 QR (.slice aQ aR aS) l4,.own 38 5 QM (.slice aT aU aV) l5,.own 45 2 Q9 (.slice dA dC dB) d7,.own 4 1 QW (.slice dD dF dE) d8]):=by
 unfold Q5A at hm
 refine QZ Tryz.func10 Z Tryz.ntmps10 Z (S:=V3 ..) Z (fun C=>(Q6 (Q2 (wB Z (fun g5=>(wP Z (Q3 (Q4 (Q5 [5,0,1] (S':=V3 ..) Z (Q6 (Q6 (Q2 (wF Z tF_42_0 (wD 0 0 Z Q1w Q3z Z ?_))))))))))))))
 obtain ⟨eR,dG,hm⟩:=Q7 hm
 refine wC [] [0,1,2,3,4,5,6,7,8,9,10] Z fn_26 Z (Q8e N a8 4 _ dG) (asK [] Z) Z (H':=V11 ..) Z ?_
 rintro _ _ _ ⟨rfl,rfl,rfl⟩
 refine Q3 (Q4 (Q5 [14,5,0,1] (S':=V4 ..) Z (Qm (Q6 (Q2 (wP Z (wP Z (Q3 (Q4 (Q5 [15,14,5,0,1] (S':=V5 ..) Z ?_))))))))))
 refine QA Z (fun c1=>?_) (fun c1=>?_)
 replace hm:=Q1z hm c1
 refine Q5 [5,0,1] (S':=V3 ..) Z (Q6 (Q2 (wF Z Q96 (wD 0 2 Z Q1X Q3D Z ?_))))
 obtain ⟨bM,dH,hm⟩:=Q7 hm
 refine wC [] [0,1,2,3,4,5,6,7,8,9,10] Z fn_27 Z (Q8O N bH bI b3 _ dH) (asK [0] Z) Z (H':=V11 ..) Z ?_
 rintro _ _ _ ⟨b7,b8,cR,rfl,rfl,rfl⟩
 refine wP Z (Q3 (Q4 (Q5 [7,5,0,1] (S':=V4 ..) Z (Q6 ?_))))
 obtain ⟨dI,hm,hLj_1⟩:=Q7 hm
 unfold Q6x at hm
 refine Q18 (σ:=Bool × (List Int) × (List Q1) × (List Q1) × (List (ByteArray × Bool)) × (List Q1) × (List Bool) × OA × Nat × Nat × OA × Nat × Nat × Nat × OA × Nat × Nat × OA × Nat × Nat) (fun (b9,aI,aJ,aK,aL,aM,aN,a3,a4,a5,a6,a7,aA,aB,aC,aD,aE,aF,aG,aH)=>dI = (b9,aI,aJ,aK,aL,aM,aN)) (fun (b9,aI,aJ,aK,aL,aM,aN,a3,a4,a5,a6,a7,aA,aB,aC,aD,aE,aF,aG,aH)=>[(7,.slice b7 b3.length b8),(8,.bool b9)]) (fun (b9,aI,aJ,aK,aL,aM,aN,a3,a4,a5,a6,a7,aA,aB,aC,aD,aE,aF,aG,aH)=>[tF]) (fun (b9,aI,aJ,aK,aL,aM,aN,a3,a4,a5,a6,a7,aA,aB,aC,aD,aE,aF,aG,aH)=>[Q1l Qx 45 2 (.slice b7 cR b8) bM,.blk bA [.slice (some b4) b5 b6,.slice a3 a5 a4,.slice a6 aA a7,.map (some aB)] 66,.own 3 1 Qi (.slice (some b4) b5 b6) aI,.own 45 2 Q9 (.slice a3 a5 a4) aJ,.own 45 2 Q9 (.slice a6 aA a7) aK,Q2s (Q1g (QQ Q2t)) false QW aB aL,.blk b2 [.slice aQ aR aS,.slice aT aU aV,.slice aC aE aD,.slice aF aH aG] 70,.own 213 2 QR (.slice aQ aR aS) l4,.own 38 5 QM (.slice aT aU aV) l5,.own 45 2 Q9 (.slice aC aE aD) aM,.own 4 1 QW (.slice aF aH aG) aN]) ?_ ?_
 obtain ⟨⟨bJ,c2,c3,c4,c5⟩,cN,hm⟩:=Q7 hm
 try dsimp only at hm
 obtain ⟨⟨bK,c6,c7⟩,cO,hm⟩:=Q7 hm
 try dsimp only at hm
 rcases Q32 hm with ⟨c8,hm⟩ | ⟨c8,hm⟩
 obtain ⟨eS,dJ,hm⟩:=Q7 hm
 obtain ⟨cS,hm⟩:=Qd hm
 refine QV [0,1,3,4,5,7,8,9,10,11,13] Z Z (fun hok=>(xP hok 0 Z (xP hok 1 Z (xP hok 3 Z (Ql hok 4 Z Z Z Zq Z Z Z Q96 (Qq hok 5 1 2 Z Z Z Zq Z Z Z Z (cs:=[_]) Z Q1X Q3D Z Z (xS hok 2 Z (Q2o 0 Z (fun bN _=>?_)))))))))
 subst bN
 refine wC [2,3,4,5,6,0] [1,7,8,9,10,11] Z fn_21 Z (Q7H N bA b4 b5 b6 l0 bB bC bD l1 bE bF bG l2 aP e3 b7 bM.length b8 bM b3.length _ _ _ _ _ cN) (asK [1] Z) Z (H':=V6 ..) Z ?_
 rintro _ _ _ ⟨bO,bP,bQ,bR,bS,bT,bU,rfl,rfl,rfl⟩
 refine Q3 (Qy [0,1] [6] Z Z (xS hok 6 Z (wC [7,8,9,10,11] [0,1,2,3,4,5,6] Z fn_28 Z (Q6T N b2 aQ aR aS l4 aT aU aV l5 aW aX aY l6 aZ b0 b1 l7 bH bI b3 _ _ _ cO) (asK [0,1] Z) Z (H':=V7 ..) Z ?_)))
 rintro _ _ _ ⟨bV,bW,bX,bY,bZ,c0,rfl,rfl,rfl⟩
 refine Q3 (Qy [0,1] [] Z Z (xP hok 7 Z (Q1e (d:=27) (v':=.bool (bJ == bK)) (S':=V11 ..) Z Z (nateq (a:=bJ) (b:=bK)) (xP hok 8 Z (Q1e (d:=28) (v':=.bool true) (S':=V12 ..) Z Z (Q16 c8) (xP hok 9 Z (Ql hok 10 Z Z Z Zq Z Z Z Q96 (Qq hok 11 11 2 Z Z Z Zq Z Z Z Z (cs:=[_]) Z Q1X Q3D Z Z (xS hok 12 Z (Q2k [] [0,1,2,3,4,5,6,7,8,9,10,11] [10] Z Z Z Zq Z Z fn_29 Z (Q8o N b7 b8 bM b3.length bH bI b3 _ dJ) (fun F w hφ hh=>(Qh (tree_sli Qae (hh _ (Qu (k:=0) Z)) (fun _ h=>h) (fun _ h=>h)) (Qh (hφ _ (Qu (k:=0) Z)) Qv))) (fun _ _ _ hR=>by obtain ⟨rfl,rfl,rfl⟩:=hR; exact ⟨Z,(fun _ h=>Q1O h)⟩) Z Z (H':=V12 ..) Z ?_))))))))))
 rintro _ _ _ ⟨rfl,rfl,rfl⟩
 refine Qz (d:=32) (v':=.bool true) (S':=V16 ..) Z Z (Q16 cS) (Q3 (Qy [0,1] [11] Z Z (xP hok 13 Z (xS hok 14 Z (wP Z (Q3 (Qy [0,1] [] Z Z (QL hok Z ?_))))))))
 have hE:=(Zi hm).symm
 refine Q1m [10,5,6,7,8,9,0,1,2,3,4] Z (H':=V11 ..) Z ?_
 refine Qp (true,c2,c3,c4,c5,c6,c7,bO,bP,bQ,bR,bS,bT,bU,bV,bW,bX,bY,bZ,c0) hE [7,8] Z (asK [1] Z) Z
 refine QV [0,1,3,4,5,7,8,9,10,11,13] Z Z (fun hok=>(xP hok 0 Z (xP hok 1 Z (xP hok 3 Z (Ql hok 4 Z Z Z Zq Z Z Z Q96 (Qq hok 5 1 2 Z Z Z Zq Z Z Z Z (cs:=[_]) Z Q1X Q3D Z Z (xS hok 2 Z (Q2o 0 Z (fun cT _=>?_)))))))))
 subst cT
 refine wC [2,3,4,5,6,0] [1,7,8,9,10,11] Z fn_21 Z (Q7H N bA b4 b5 b6 l0 bB bC bD l1 bE bF bG l2 aP e3 b7 bM.length b8 bM b3.length _ _ _ _ _ cN) (asK [1] Z) Z (H':=V6 ..) Z ?_
 rintro _ _ _ ⟨bO,bP,bQ,bR,bS,bT,bU,rfl,rfl,rfl⟩
 refine Q3 (Qy [0,1] [6] Z Z (xS hok 6 Z (wC [7,8,9,10,11] [0,1,2,3,4,5,6] Z fn_28 Z (Q6T N b2 aQ aR aS l4 aT aU aV l5 aW aX aY l6 aZ b0 b1 l7 bH bI b3 _ _ _ cO) (asK [0,1] Z) Z (H':=V7 ..) Z ?_)))
 rintro _ _ _ ⟨bV,bW,bX,bY,bZ,c0,rfl,rfl,rfl⟩
 refine Q3 (Qy [0,1] [] Z Z (xP hok 7 Z (Q1e (d:=27) (v':=.bool (bJ == bK)) (S':=V11 ..) Z Z (nateq (a:=bJ) (b:=bK)) (xP hok 8 Z (Q1e (d:=28) (v':=.bool false) (S':=V12 ..) Z Z (Q16 c8) (xO hok 9 Z (xO hok 10 Z (xO hok 11 Z (xS hok 12 Z (wO Z (Q3 (Qy [0,1] [11] Z Z (xP hok 13 Z ?_)))))))))))))
 refine xS hok 14 Z (wP Z (Q3 (Qy [0,1] [] Z Z (QL hok Z ?_))))
 have hE:=(Zi hm).symm
 refine Q1m [10,5,6,7,8,9,0,1,2,3,4] Z (H':=V11 ..) Z ?_
 refine Qp (false,c2,c3,c4,c5,c6,c7,bO,bP,bQ,bR,bS,bT,bU,bV,bW,bX,bY,bZ,c0) hE [7,8] Z (asK [1] Z) Z
 rintro ⟨b9,aI,aJ,aK,aL,aM,aN,a3,a4,a5,a6,a7,aA,aB,aC,aD,aE,aF,aG,aH⟩ hE
 try dsimp only
 have hm:=hLj_1
 try rw [hE] at hm
 try dsimp only at hm
 refine Q6 (Q2 (wP Z (Q2o 0 Z (fun bN _=>?_))))
 subst bN
 obtain ⟨eT,dK,hm⟩:=Q7 hm
 refine wC [0] [1,2,3,4,5,6,7,8,9,10] Z fn_30 Z (Q8p N b7 bM.length b8 bM b3.length _ dK) (asK [] Z) Z (H':=V10 ..) Z ?_
 rintro _ _ _ ⟨rfl,rfl,rfl⟩
 refine Q3 (Q4 (Q5 [8] (S':=[_]) Z (Q6 (Q2 (wP Z (wP Z (Q3 (Q4 (Q5 [6] (S':=[_]) Z (QP (Q11 (Qn ?_))))))))))))
 have hE:=(Zi hm).symm
 obtain ⟨hE0,hF1⟩:=Prod.mk.inj hE
 obtain ⟨hE1,hF2⟩:=Prod.mk.inj hF1
 obtain ⟨hE2,hF3⟩:=Prod.mk.inj hF2
 obtain ⟨hE3,hF4⟩:=Prod.mk.inj hF3
 obtain ⟨hE4,hF5⟩:=Prod.mk.inj hF4
 obtain ⟨hE5,hE6⟩:=Prod.mk.inj hF5
 clear hE hF1 hF2 hF3 hF4 hF5
 replace hE0:=hE0.symm
 subst hE0
 replace hE1:=hE1.symm
 subst hE1
 replace hE2:=hE2.symm
 subst hE2
 replace hE3:=hE3.symm
 subst hE3
 replace hE4:=hE4.symm
 subst hE4
 replace hE5:=hE5.symm
 subst hE5
 replace hE6:=hE6.symm
 subst hE6
 refine QH (Hr:=V10 ..) [1,2,3,4,5,6,7,8,9,10] Tryz.results10 (QD Z) ⟨a3,a4,a5,a6,a7,aA,aB,aC,aD,aE,aF,aG,aH,Z,Z,Z⟩ (asK [] Z) Z Z (.inl Z)
 replace hm:=Q1y hm c1
 refine Q5 [14,5,0,1] (S':=V4 ..) Z (Q6 (Q2 (wP Z (wP Z (Q3 (Q4 (Q5 [37,5,0,1] (S':=V4 ..) Z ?_)))))))
 refine QA Z (fun c9=>?_) (fun c9=>?_)
 replace hm:=Q1z hm c9
 refine Q5 [5,0,1] (S':=V3 ..) Z (Q6 (Q2 (Q4Q (.sli 1 Qi none 0 ([] : List Int)) (fun _ _ _=>Q5n) ?_)))
 obtain ⟨_,dL,hm⟩:=Q7 hm
 try dsimp only at hm
 refine wC [] [0,1,2,3,4,5,6,7,8,9,10] Z Q6O Z (Q9P N 0 none 0 ([] : List Int) dL) (asK [0,2] Z) Z (H':=V11 ..) Z ?_
 rintro _ _ _ ⟨rfl,rfl,rfl⟩
 refine Q25 Z Z Z Zq Z Q42 Z (fun g9=>(wS 0 0 Z Qe (all':=[_,_]) Z (H':=V12 ..) Z (Q3 (Q4 (Q5 [9,5,0,1] (S':=V4 ..) Z (Q6 ?_))))))
 obtain ⟨dM,hm,hLj_2⟩:=Q7 hm
 refine Q18 (σ:=Int × (List Int) × OA × Nat) (fun (aO,a0,a1,a2)=>dM = (aO,a0)) (fun (aO,a0,a1,a2)=>[(9,.pointer (some ⟨g9,0,none⟩)),(0,.pointer (some ⟨bA,0,none⟩)),(1,.pointer (some ⟨b2,0,none⟩))]) (fun (aO,a0,a1,a2)=>[.sli 1 Qi a1 a2 a0,tF]) (fun (aO,a0,a1,a2)=>[.blk g9 [.int .i64 aO,.slice a1 a0.length a2] 45,.blk bA [.slice (some b4) b5 b6,.slice bB bC bD,.slice bE bF bG,.map (some aP)] 66,.own 3 1 Qi (.slice (some b4) b5 b6) l0,.own 45 2 Q9 (.slice bB bC bD) l1,.own 45 2 Q9 (.slice bE bF bG) l2,Q2s (Q1g (QQ Q2t)) false QW aP e3,.blk b2 [.slice aQ aR aS,.slice aT aU aV,.slice aW aX aY,.slice aZ b0 b1] 70,.own 213 2 QR (.slice aQ aR aS) l4,.own 38 5 QM (.slice aT aU aV) l5,.own 45 2 Q9 (.slice aW aX aY) l6,.own 4 1 QW (.slice aZ b0 b1) l7]) ?_ ?_
 refine Q6 (Q2 (wF Z Q96 (wD 1 2 Z Q1X Q3D Z (wN Z QB (wP Z (Qz (d:=43) (v':=.bool (decide (0 < b3.length))) (S':=V7 ..) Z Z (natgt (a:=b3.length) (b:=0)) (Q3 (Q4 (Q5 [43,9,5,0,1] (S':=V5 ..) Z ?_)))))))))
 refine QA Z (fun cA=>?_) (fun cA=>?_)
 replace hm:=Q1z hm cA
 refine Q5 [9,5,0,1] (S':=V4 ..) Z ?_
 obtain ⟨e0,dN,hm⟩:=Q7 hm
 obtain ⟨dO,hm⟩:=Qd hm
 obtain ⟨dP,dQ,hm⟩:=Q7 hm
 refine QV [0,1,2,3,4,5,6,8,9] Z Z (fun hok=>(Ql hok 0 Z Z Z Zq Z Z Z Q96 (Qq hok 1 1 2 Z Z Z Zq Z Z Z Z (cs:=[_]) Z Q1X Q3D Z Z (Ql hok 2 Z Z Z Zq Z Z Z tF_42_1 (Qq hok 3 1 1 Z Z Z Zq Z Z Z Z (cs:=[_]) Z Q1w Q3z Z Z (Ql hok 4 Z Z Z Zq Z Z Z Q96 (Qq hok 5 1 2 Z Z Z Zq Z Z Z Z (cs:=[_]) Z Q1X Q3D Z Z (Q4r hok 6 Z Z Z Zq Z Z Z QB (xS hok 7 Z (wC [] [0,1,2,3,4,5,6,7,8,9,10,11] Z fn_26 Z (Q8e N a9 ((b3.length:Nat):Int) _ dN) (asK [] Z) Z (H':=V12 ..) Z ?_))))))))))
 rintro _ _ _ ⟨rfl,rfl,rfl⟩
 refine Q3 (Qy [0,0,2,3] [1,1] Z Z (Q1Q hok 8 2 e0.toNat Z Z Z Zq Z Z Z Z Z (QC dO) dQ QB Qe (fun eU eV eQ e1=>(Q2e Qa 1 Z (fun dR dS _=>?_)))))
 subst dS
 refine Q2Q hok 9 1 0 Z Z Z Zq Z Z Z Z (cs:=[_,_]) Z Qe QS Z Z (xS hok 10 Z (wS 0 0 Z Qe (all':=[_,_]) Z (H':=V12 ..) Z (Q3 (Qy [0,1,2,3,3,5,6] [] Z Z (QL hok Z ?_)))))
 have hE:=(Zi hm).symm
 refine Q1m [0,2,3,4,5,6,7,8,9,10,11] Z (H':=V11 ..) Z ?_
 refine Qp (dP.rule,dP.ids,dR.1,dR.2) hE [9,0,1] Z (asK [0,6] Z) Z
 replace hm:=Q1y hm cA
 refine Q5 [9,0,1] (S':=V3 ..) Z (Qs ?_)
 have hE:=(Zi hm).symm
 refine Q1m [0,2,3,4,5,6,7,8,9,10,11] Z (H':=V11 ..) Z ?_
 refine Qp (0,([] : List Int),none,0) hE [9,0,1] Z (asK [0,3] Z) Z
 rintro ⟨aO,a0,a1,a2⟩ hE
 try dsimp only
 have hm:=hLj_2
 try rw [hE] at hm
 try dsimp only at hm
 refine Q6 ?_
 obtain ⟨⟨cB,e2,e4,e5,e6⟩,dT,hm⟩:=Q7 hm
 try dsimp only at hm
 obtain ⟨⟨cC,e7⟩,dU,hm⟩:=Q7 hm
 try dsimp only at hm
 refine QV [0,1,3,4,6] Z Z (fun hok=>(xP hok 0 Z (Qq hok 1 0 0 Z Z Z Zq Z Z Z Z (cs:=[_,_]) Z Qe QS Z Z (xP hok 3 Z (Qq hok 4 0 0 Z Z Z Zq Z Z Z Z (cs:=[_,_]) Z Qe QS Z Z (xS hok 2 Z (wC [1,2,3,4,5] [0,6,7,8,9,10] Z fn_23 Z (Q9I N bA b4 b5 b6 l0 bB bC bD l1 bE bF bG l2 aP e3 aO a1 a2 a0 _ _ _ _ _ dT) (asK [0,1] Z) Z (H':=V6 ..) Z ?_)))))))
 rintro _ _ _ ⟨cU,cV,cW,cX,cY,cZ,rfl,rfl,rfl⟩
 refine Q3 (Qy [0,1] [5] Z Z (xS hok 5 Z (wC [6,7,8,9,10] [0,1,2,3,4,5] Z fn_31 Z (Q8g N b2 aQ aR aS l4 aT aU aV l5 aW aX aY l6 aZ b0 b1 l7 aO a1 a2 a0 _ _ dU) (asK [0,1] Z) Z (H':=V6 ..) Z ?_)))
 rintro _ _ _ ⟨rfl,rfl,rfl⟩
 refine Q3 (Qy [0,1] [10] Z Z (xP hok 6 Z (Q1e (d:=60) (v':=.bool (cB == cC)) (S':=V9 ..) Z Z (nateq (a:=cB) (b:=cC)) (xS hok 7 Z (wP Z (Q3 (Qy [0,1] [] Z Z (QL hok Z (Q4 (Q5 [6] (S':=[_]) Z (QP (Q11 (Qn ?_)))))))))))))
 have hE:=(Zi hm).symm
 obtain ⟨hE0,hF1⟩:=Prod.mk.inj hE
 obtain ⟨hE1,hF2⟩:=Prod.mk.inj hF1
 obtain ⟨hE2,hF3⟩:=Prod.mk.inj hF2
 obtain ⟨hE3,hF4⟩:=Prod.mk.inj hF3
 obtain ⟨hE4,hF5⟩:=Prod.mk.inj hF4
 obtain ⟨hE5,hE6⟩:=Prod.mk.inj hF5
 clear hE hF1 hF2 hF3 hF4 hF5
 replace hE0:=hE0.symm
 subst hE0
 replace hE1:=hE1.symm
 subst hE1
 replace hE2:=hE2.symm
 subst hE2
 replace hE3:=hE3.symm
 subst hE3
 replace hE4:=hE4.symm
 subst hE4
 replace hE5:=hE5.symm
 subst hE5
 replace hE6:=hE6.symm
 subst hE6
 refine QH (Hr:=V10 ..) [5,6,7,8,9,0,1,2,3,4] Tryz.results10 (QD Z) ⟨cU,cV,cW,cX,cY,cZ,aP,aW,aY,aX,aZ,b1,b0,Z,Z,Z⟩ (asK [] Z) Z Z (.inl Z)
 replace hm:=Q1y hm c9
 refine Q5 [0,1] (S':=[_,_]) Z (Qs (Qj (Q4 (Q6 (Q2 (wP Z ?_))))))
 obtain ⟨⟨cD,bL,e8⟩,dV,hm⟩:=Q7 hm
 try dsimp only at hm
 refine wC [1,2,3,4,5] [0,6,7,8,9,10] Z fn_11 Z (Q5c N bA b4 b5 b6 l0 bB bC bD l1 bE bF bG l2 aP e3 _ _ _ dV) (asK [1] Z) Z (H':=V6 ..) Z ?_
 rintro _ _ _ ⟨cE,cF,e9,rfl,rfl,rfl⟩
 refine wP Z (wP Z (wP Z (Q25 Z Z Z Zq Z Q42 Z (fun eW=>(wS 0 0 Z Qe (all':=[_,_]) Z (H':=V13 ..) Z (wP Z (Q3 (Q4 (Q5 [11,10,0,1] (S':=V4 ..) Z (Q6 ?_))))))))))
 rcases Q32 hm with ⟨cG,hm⟩ | ⟨cG,hm⟩
 refine QV [0,1,2,3,4,6,7,9,10] Z Z (fun hok=>(xP hok 0 Z (xP hok 1 Z (xP hok 2 Z (Q1e (d:=68) (v':=.bool true) (S':=V6 ..) Z Z (Q16 cG) (xO hok 3 Z (xO hok 4 Z (xO hok 6 Z (xO hok 7 Z (xS hok 5 Z (wO Z (Q3 (Qy [0,1] [] Z Z (xS hok 8 Z ?_))))))))))))))
 refine wO Z (Q3 (Qy [0,1] [] Z Z (xO hok 9 Z (xP hok 10 Z (xS hok 11 Z (wP Z (Q3 (Qy [0,1] [] Z Z (QL hok Z (Q4 (Q5 [6] (S':=[_]) Z (QP ?_))))))))))))
 have hE:=(Zi hm).symm
 obtain ⟨hE0,hF1⟩:=Prod.mk.inj hE
 obtain ⟨hE1,hF2⟩:=Prod.mk.inj hF1
 obtain ⟨hE2,hF3⟩:=Prod.mk.inj hF2
 obtain ⟨hE3,hF4⟩:=Prod.mk.inj hF3
 obtain ⟨hE4,hF5⟩:=Prod.mk.inj hF4
 obtain ⟨hE5,hE6⟩:=Prod.mk.inj hF5
 clear hE hF1 hF2 hF3 hF4 hF5
 replace hE0:=hE0.symm
 subst hE0
 replace hE1:=hE1.symm
 subst hE1
 replace hE2:=hE2.symm
 subst hE2
 replace hE3:=hE3.symm
 subst hE3
 replace hE4:=hE4.symm
 subst hE4
 replace hE5:=hE5.symm
 subst hE5
 replace hE6:=hE6.symm
 subst hE6
 refine QH (Hr:=V10 ..) [2,3,4,5,6,8,9,10,11,12] Tryz.results10 (QD Z) ⟨bB,bD,bC,bE,bG,bF,aP,aW,aY,aX,aZ,b1,b0,Z,Z,Z⟩ (asK [] Z) Z Z (.inl Z)
 obtain ⟨⟨cH,eA,eB,eC,eD⟩,dW,hm⟩:=Q7 hm
 try dsimp only at hm
 obtain ⟨⟨cI,eE⟩,dX,hm⟩:=Q7 hm
 try dsimp only at hm
 refine QV [0,1,2,3,4,6,7,9,10] Z Z (fun hok=>(xP hok 0 Z (xP hok 1 Z (xP hok 2 Z (Q1e (d:=68) (v':=.bool false) (S':=V6 ..) Z Z (Q16 cG) (xP hok 3 Z (Qq hok 4 0 0 Z Z Z Zq Z Z Z Z (cs:=[_,_]) Z Qe QS Z Z (xP hok 6 Z (Qq hok 7 0 0 Z Z Z Zq Z Z Z Z (cs:=[_,_]) Z Qe QS Z Z (xS hok 5 Z (QK 1 Z (fun cJ _=>?_))))))))))))
 subst cJ
 refine wC [2,3,4,5,6,1] [0,7,8,9,10,11,12] Z fn_23 Z (Q8U N bA b4 b5 b6 l0 bB bC bD l1 bE bF bG l2 aP e3 cD cE bL.length cF bL _ _ _ _ _ dW) (asK [1] Z) Z (H':=V7 ..) Z ?_
 rintro _ _ _ ⟨d0,d1,d2,d3,d4,d5,rfl,rfl,rfl⟩
 refine Q3 (Qy [0,1] [6] Z Z (xS hok 8 Z (wC [8,9,10,11,12,5] [0,1,2,3,4,6,7] Z fn_31 Z (Q7Q N b2 aQ aR aS l4 aT aU aV l5 aW aX aY l6 aZ b0 b1 l7 cD cE bL.length cF bL _ _ dX) (asK [1] Z) Z (H':=V7 ..) Z ?_)))
 rintro _ _ _ ⟨rfl,rfl,rfl⟩
 refine Q3 (Qy [0,1] [11] Z Z (xP hok 9 Z (Q1e (d:=75) (v':=.bool (cH == cI)) (S':=V13 ..) Z Z (nateq (a:=cH) (b:=cI)) (xP hok 10 Z (xS hok 11 Z (wP Z (Q3 (Qy [0,1] [] Z Z (QL hok Z (Q4 (Q5 [6] (S':=[_]) Z (QP ?_))))))))))))
 have hE:=(Zi hm).symm
 obtain ⟨hE0,hF1⟩:=Prod.mk.inj hE
 obtain ⟨hE1,hF2⟩:=Prod.mk.inj hF1
 obtain ⟨hE2,hF3⟩:=Prod.mk.inj hF2
 obtain ⟨hE3,hF4⟩:=Prod.mk.inj hF3
 obtain ⟨hE4,hF5⟩:=Prod.mk.inj hF4
 obtain ⟨hE5,hE6⟩:=Prod.mk.inj hF5
 clear hE hF1 hF2 hF3 hF4 hF5
 replace hE0:=hE0.symm
 subst hE0
 replace hE1:=hE1.symm
 subst hE1
 replace hE2:=hE2.symm
 subst hE2
 replace hE3:=hE3.symm
 subst hE3
 replace hE4:=hE4.symm
 subst hE4
 replace hE5:=hE5.symm
 subst hE5
 replace hE6:=hE6.symm
 subst hE6
 refine QH (Hr:=V10 ..) [6,7,8,9,10,0,1,2,3,4] Tryz.results10 (QD Z) ⟨d0,d1,d2,d3,d4,d5,aP,aW,aY,aX,aZ,b1,b0,Z,Z,Z⟩ (asK [] Z) Z Z (.inl Z)
theorem Q7c (N:Nat) (a3:OA) (a4:Nat) (l0:List Qr) (a5:OA) (a6:Nat) (l1:List QG) (a2:Int) (a7:OA) (a8:Nat) (l3:List Int) (o0:Int) (hm:Q40 N l0 l1 a2 l3 = some o0):Q1R Tryz.prog 54 [.agg #[.slice a3 l0.length a4,.slice a5 l1.length a6],.agg #[.int .i64 a2,.slice a7 l3.length a8]] [.sli 2 QR a3 a4 l0,.sli 5 QM a5 a6 l1,.sli 1 Qi a7 a8 l3,tF] [] (fun v Φr Hr=>v = .int .i64 o0 ∧ Φr = [] ∧ Hr = []):=by
 unfold Q40 at hm
 refine QZ Tryz.func54 Z Tryz.ntmps54 Z (S:=[_,_]) Z (fun C=>(Q6 (Q2 (wB Z (fun g2=>(wB Z (fun g3=>(wP Z (Q3 (Q4 (Q5 [3,2] (S':=[_,_]) Z (Q6 (Q6 ?_)))))))))))))
 obtain ⟨aD,hm,hLj_1⟩:=Q7 hm
 refine Q18 (σ:=Bool) (fun a0=>aD = a0) (fun a0=>[(3,.pointer (some ⟨g3,0,none⟩)),(2,.pointer (some ⟨g2,0,none⟩)),(15,.bool a0)]) (fun a0=>[.sli 1 Qi a7 a8 l3,.sli 2 QR a3 a4 l0,.sli 5 QM a5 a6 l1,tF]) (fun a0=>[.blk g3 [.int .i64 a2,.slice a7 l3.length a8] 45,.blk g2 [.slice a3 l0.length a4,.slice a5 l1.length a6] 28]) ?_ ?_
 refine Q2 (wF Z Q2L (wD 0 0 Z Q1w Q3z Z (wP Z (wP Z ?_))))
 refine Q5F (d:=8) (S':=V5 ..) Z Z (fun a9=>?_) (fun a9=>?_)
 replace hm:=Q1z hm a9
 refine wO Z (wO Z (wO Z (wO Z (wO Z (wO Z (wP Z (Q3 ?_)))))))
 have hE:=(Zi hm).symm
 refine Qp true hE [3,2,15] Z (asK [2,0,1,3] Z) Z
 replace hm:=Q1y hm a9
 refine wF Z Q2L (wD 0 0 Z Q1w Q3z Z (wF Z Q5u (wD 1 1 Z Q7r Q7U Z (wN Z Q72 (wP Z (wP Z (Q3 ?_)))))))
 have hE:=(Zi hm).symm
 refine Qp (decide (a2 ≥ ((l1.length:Nat):Int))) hE [3,2,15] Z (asK [2,0,1,3] Z) Z
 rintro a0 hE
 try dsimp only
 have hm:=hLj_1
 try rw [hE] at hm
 refine QA Z (fun a1=>?_) (fun a1=>?_)
 replace hm:=Q1z hm a1
 refine Q5 [] (S':=[]) Z (Q6 (Q2 (wP Z (Q3 (Q4 (QP (Qn ?_)))))))
 have hE:=(Zi hm).symm
 replace hE:=hE.symm
 subst hE
 refine QH (Hr:=[]) [] Tryz.results54 (QD Z) ⟨Z,Z,Z⟩ (asK [] Z) Z Z (.inl Z)
 replace hm:=Q1y hm a1
 refine Q5 [3,2] (S':=[_,_]) Z (Qs (Q4 (Q6 (Q2 (wF Z Q5u (wD 1 1 Z Q7r Q7U Z (wF Z Q2L (wD 0 0 Z Q1w Q3z Z ?_))))))))
 obtain ⟨aE,hm⟩:=Qd hm
 obtain ⟨aM,aF,hm⟩:=Q7 hm
 refine Q53 2 a2.toNat Z Z Z Zq Z Z Z Z (QC aE) aF Q72 Q7V (fun aN aO aL aH=>(Q6m Q6g 1 Z (fun aP aG _=>?_)))
 subst aG
 refine wF Z tF_38_1 (Q6l 2 1 Z Z Z Zq Z Z Z (cs:=[_]) Z Q1w Q3z Z Z (wP Z (Q3 (Q4 (Q5 [4] (S':=[_]) Z (QP ?_))))))
 have hE:=(Zi hm).symm
 replace hE:=hE.symm
 subst hE
 refine QH (Hr:=[]) [] Tryz.results54 (QD Z) ⟨Z,Z,Z⟩ (asK [] Z) Z Z (.inl Z)
theorem Q7l (N:Nat) (aE:OA) (aF:Nat) (l0:List Int) (o2:List Int) (hm:Q4g N l0 = some o2):Q1R Tryz.prog 55 [.slice aE l0.length aF] [.sli 1 Qi aE aF l0,tF] [] (fun v Φr Hr=>∃ (o0:OA) (o1:Nat) (o3:Nat),v = .slice o0 o3 o1 ∧ Φr = [] ∧ Hr = [.own 3 1 Qi (.slice o0 o3 o1) o2]):=by
 unfold Q4g at hm
 refine QZ Tryz.func55 Z Tryz.ntmps55 Z (S:=[_]) Z (fun C=>(Q6 (Q2 (wP Z (Q3 (Q4 (Q5 [0] (S':=[_]) Z (Q6 (Q2 (wP Z (Q3 (Q4 (Q6 ?_)))))))))))))
 obtain ⟨aN,hm,hLj_1⟩:=Q7 hm
 refine Q18 (σ:=(List Int) × OA × Nat × Nat) (fun (aB,a4,a5,a6)=>aN = aB) (fun (aB,a4,a5,a6)=>[(3,.slice a4 a6 a5)]) (fun (aB,a4,a5,a6)=>[tF]) (fun (aB,a4,a5,a6)=>[.own 3 1 Qi (.slice a4 a6 a5) aB]) ?_ ?_
 refine Q6 (Q2 (wP Z (Q3 (Q4 (Qm (Q52 3 1 Qi (Q1f (σ:=Nat × Nat × (List Int) × OA × Nat × Nat) (fun (aJ,a2,a0,a8,a9,aA)=>Q1o (Q4m N l0) aJ (a2,a0) = some aN) (fun (aJ,a2,a0,a8,a9,aA)=>aJ) (fun (aJ,a2,a0,a8,a9,aA)=>[(4,.int .i64 ((a2:Nat):Int)),(3,.slice a8 aA a9),(0,.slice aE l0.length aF)]) (fun (aJ,a2,a0,a8,a9,aA)=>[.sli 1 Qi aE aF l0,tF]) (fun (aJ,a2,a0,a8,a9,aA)=>[.own 3 1 Qi (.slice a8 aA a9) a0]) (N,0,[],none,0,0) hm [4,3,0] Z (asK [0,1] Z) Z (fun s_ hm=>?_))))))))
 obtain ⟨aJ,a2,a0,a8,a9,aA⟩:=s_
 try dsimp only at hm ⊢
 obtain ⟨bR,bS,aW,hq,hLu1⟩:=Q1d hm
 clear hm
 subst aW
 replace hm:=hq
 clear hq
 unfold Q4m at hm
 try dsimp only at hm
 refine Q6 (Q6 (Q2 (wP Z (wP Z (wN Z Q1j (wP Z (Qz (d:=9) (v':=.bool (decide (a2 < l0.length))) (S':=V6 ..) Z Z (Q3f (a:=a2) (b:=l0.length)) (Q3 (Q4 (Q5 [9,4,3,0] (S':=V4 ..) Z ?_))))))))))
 refine QA Z (fun aU=>?_) (fun aU=>?_)
 replace hm:=Q1z hm aU
 refine Q5 [4,3,0] (S':=V3 ..) Z (Qs (Q4 (Q6 (Qm (Q6 (Q2 (wP Z (QK 0 Z (fun aX _=>(wN Z Q1j (Qz (d:=13) (v':=.int .i64 ((a0.length:Nat):Int)) (S':=V4 ..) Z Z (Q4A aX) (wP Z (Q3 (Q4 ?_))))))))))))))
 refine Q5 [5,4,3,0] (S':=V4 ..) Z (Q6 (Q2 (wP Z (QE Z Z Z Zq Z Q1j Q1w Q7g Z (zs:=[.int .i64 0]) (by kernel_rfl) Z (out:=[_]) Z (fun bT=>?_)))))
 obtain ⟨aO,hm⟩:=Qd hm
 refine Q2w [0] 1 0 Z Z Z Zq Z Z Z Z Z (fun F w hφ=>⟨[.int .i64 0],[],Z,Z,⟨(),Z,Qv⟩,Z⟩) Q1j tR_3 Z Z (Nat.le_trans aO (by decide)) (Nat.le_trans (Nat.mul_le_mul_right _ aO) (by decide)) (H2:=fun aH aG=>[_,.own 3 1 Qi (.slice aH ((a0 ++ [0]).length) aG) (a0 ++ [0])]) (fun _ _=>Z) (fun aH aG=>(Q3E 0 Z (H':=[_]) Z (QI (S':=V6 ..) Z Z Z Z Z (Q3 (Q4 (Q5 [3,5,4,0] (S':=V4 ..) Z (Q6 ?_)))))))
 obtain ⟨aP,hm,hLj_2⟩:=Q7 hm
 refine Q18 (σ:=(List Int) × Int) (fun (a7,aC)=>aP = (a7,aC)) (fun (a7,aC)=>[(3,.slice aH ((a0 ++ [0]).length) aG),(5,.int .i64 aC),(4,.int .i64 ((a2:Nat):Int)),(0,.slice aE l0.length aF)]) (fun (a7,aC)=>[.sli 1 Qi aE aF l0,tF]) (fun (a7,aC)=>[.own 3 1 Qi (.slice aH ((a0 ++ [0]).length) aG) a7]) ?_ ?_
 refine Qm (Q1f (σ:=Nat × (List Int) × Int) (fun (aK,a3,a1)=>Q1o (Q3w N l0 a2) aK (a3,a1) = some aP) (fun (aK,a3,a1)=>aK) (fun (aK,a3,a1)=>[(3,.slice aH ((a0 ++ [0]).length) aG),(5,.int .i64 a1),(4,.int .i64 ((a2:Nat):Int)),(0,.slice aE l0.length aF)]) (fun (aK,a3,a1)=>[.sli 1 Qi aE aF l0,tF]) (fun (aK,a3,a1)=>[.own 3 1 Qi (.slice aH ((a0 ++ [0]).length) aG) a3]) (N,a0 ++ [0],((a0.length:Nat):Int)) hm [3,5,4,0] Z (asK [0,1] Z) Z (fun s_ hm=>?_))
 obtain ⟨aK,a3,a1⟩:=s_
 try dsimp only at hm ⊢
 obtain ⟨bU,bV,aY,hq,hLu2⟩:=Q1d hm
 clear hm
 subst aY
 replace hm:=hq
 clear hq
 unfold Q3w at hm
 try dsimp only at hm
 refine Q6 (Q6 ?_)
 obtain ⟨aZ,hm,hLj_3⟩:=Q7 hm
 unfold Q6a at hm
 refine Q18 (σ:=Bool) (fun aD=>aZ = aD) (fun aD=>[(3,.slice aH ((a0 ++ [0]).length) aG),(5,.int .i64 a1),(4,.int .i64 ((a2:Nat):Int)),(0,.slice aE l0.length aF),(30,.bool aD)]) (fun aD=>[.sli 1 Qi aE aF l0,tF]) (fun aD=>[.own 3 1 Qi (.slice aH ((a0 ++ [0]).length) aG) a3]) ?_ ?_
 rcases Q32 hm with ⟨aL,hm⟩ | ⟨aL,hm⟩
 obtain ⟨b0,hm⟩:=Qd hm
 obtain ⟨b1,hm⟩:=Qd hm
 obtain ⟨b2,aQ,hm⟩:=Q7 hm
 obtain ⟨bH,b3,hm⟩:=Q7 hm
 refine QV [0,1,2,3,4,5,6,7,8,9,10,11,12,13] Z Z (fun hok=>(xP hok 0 Z (xP hok 1 Z (xP hok 2 Z (Q1e (d:=19) (v':=.bool true) (S':=V6 ..) Z Z (Q16 aL) (xP hok 3 Z (xP hok 4 Z (xP hok 5 Z (Q1e (d:=22) (v':=.int .i64 (a1 - 1)) (S':=V9 ..) Z Z (i64_in b0) (Q1F hok 6 0 ((a1 - 1).toNat) Z Z Z Zq Z Z Z Z Z (QC b1) (Qw aQ) Q1j Q1w (fun bW b4=>?_)))))))))))
 subst b4
 refine Q3j hok 7 Q1K 0 ((a1 - 1).toNat) 0 Z Z Z Zq Z Z Z Z aQ Q1w Q3z (v:=.int .i64 b2) Z Z (fun _=>(xP hok 8 Z (xP hok 9 Z (Q1Q hok 10 0 a2 Z Z Z Zq Z Z Z Z Z Z b3 Q1j Q1w (fun bX bY bP bI=>(Q2e Q1K 1 Z (fun bZ b5 _=>?_)))))))
 subst b5
 refine Q2Q hok 11 0 0 Z Z Z Zq Z Z Z Z (cs:=[_]) Z Q1w Q3z Z Z (xP hok 12 Z (xP hok 13 Z (QL hok Z ?_)))
 have hE:=(Zi hm).symm
 refine Qp (decide (b2 < bH)) hE [3,5,4,0,30] Z (asK [2,3] Z) Z
 refine QV [0,1,2,3,4,5,6,7,8,9,10,11,12,13] Z Z (fun hok=>(xP hok 0 Z (xP hok 1 Z (xP hok 2 Z (Q1e (d:=19) (v':=.bool false) (S':=V6 ..) Z Z (Q16 aL) (xO hok 3 Z (xO hok 4 Z (xO hok 5 Z (xO hok 6 Z (xO hok 7 Z (xO hok 8 Z (xO hok 9 Z (xO hok 10 Z (xO hok 11 Z ?_))))))))))))))
 refine xO hok 12 Z (xP hok 13 Z (QL hok Z ?_))
 have hE:=(Zi hm).symm
 refine Qp false hE [3,5,4,0,30] Z (asK [0,1] Z) Z
 rintro aD hE
 try dsimp only
 have hm:=hLj_3
 try rw [hE] at hm
 refine QA Z (fun aM=>?_) (fun aM=>?_)
 replace hm:=Q1z hm aM
 refine Q5 [3,5,4,0] (S':=V4 ..) Z (Qs (Q4 (Qm (Q6 (Q2 (wP Z (wP Z (wP Z (wP Z (wP Z ?_))))))))))
 obtain ⟨b6,hm⟩:=Qd hm
 refine Qz (d:=35) (v':=.int .i64 (a1 - 1)) (S':=V8 ..) Z Z (i64_in b6) ?_
 obtain ⟨b7,hm⟩:=Qd hm
 obtain ⟨aV,aR,hm⟩:=Q7 hm
 refine Q2E 0 ((a1 - 1).toNat) Z Z Z Zq Z Z Z Z (QC b7) (Qw aR) Q1j Q1w (fun c0 b8=>?_)
 subst b8
 refine Qk Q1K 0 ((a1 - 1).toNat) 0 Z Z Z Zq Z Z Z aR Q1w Q3z (v:=fun _=>.int .i64 aV) (fun _=>Z) (fun _=>Z) (fun _ _=>?_)
 obtain ⟨b9,hm⟩:=Qd hm
 obtain ⟨c1,aS,hm⟩:=Q7 hm
 refine Q6C 0 a1.toNat Z Z Z Zq Z Z Z Z (QC b9) (Qw aS) Q1j Q1w (QU (u:=aV) 0 a1.toNat Z Z Z Z Z (Qw aS) Z Z Q1w Z (fun F w hφ=>⟨(),Z,Qv⟩) (H':=[_]) Z (Q3 (Q4 (Q5 [3,5,4,0] (S':=V4 ..) Z (Q2 (wP Z (wP Z ?_)))))))
 obtain ⟨bA,hm⟩:=Qd hm
 refine Qz (d:=40) (v':=.int .i64 (a1 - 1)) (S':=V5 ..) Z Z (i64_in bA) (QI (S':=V5 ..) Z Z Z Z Z (Q3 (Qj ?_)))
 have hE:=(Zi hm).symm
 replace hE:=Q14 hLu2 hE
 refine Q1a (_,a3.set a1.toNat aV,a1 - 1) (Nat.lt_succ_self _) hE [3,5,4,0] Z (asK [0,1] Z) Z
 replace hm:=Q1y hm aM
 refine Q5 [3,5,4,0] (S':=V4 ..) Z (Q19 (Qc (Qc (Qt ?_))))
 have hE:=(Zi hm).symm
 replace hE:=QO hLu2 hE
 refine Qp (a3,a1) hE [3,5,4,0] Z (asK [0,1] Z) Z
 rintro ⟨a7,aC⟩ hE
 try dsimp only
 have hm:=hLj_2
 try rw [hE] at hm
 try dsimp only at hm
 refine Q2 (wP Z (wP Z (wP Z (wP Z ?_))))
 obtain ⟨bB,bC,hm⟩:=Q7 hm
 refine Q53 0 a2 Z Z Z Zq Z Z Z Z Z bC Q1j Q1w (fun c2 c3 bQ bJ=>(Q6m Q1K 1 Z (fun c4 bD _=>?_)))
 subst bD
 refine Q6l 0 0 Z Z Z Zq Z Z Z (cs:=[_]) Z Q1w Q3z Z Z ?_
 obtain ⟨bE,hm⟩:=Qd hm
 obtain ⟨c5,aT,hm⟩:=Q7 hm
 refine Q2E 0 aC.toNat Z Z Z Zq Z Z Z Z (QC bE) (Qw aT) Q1j Q1w (fun bK bF=>?_)
 subst bF
 refine QU (u:=bB) 0 aC.toNat Z Z Z Z Z (Qw aT) Z Z Q1w Z (fun F w hφ=>⟨(),Z,Qv⟩) (H':=[_]) Z (Q3 (Qj (Q4 (Q5 [3,4,0] (S':=V3 ..) Z (Q2 (wP Z (wP Z ?_)))))))
 obtain ⟨bG,hm⟩:=Qd hm
 refine Qz (d:=11) (v':=.int .i64 ((a2 + 1:Nat):Int)) (S':=V4 ..) Z Z (Q1i (a:=a2) (b:=1) bG) (QI (S':=V4 ..) Z Z Z Z Z (Q3 ?_))
 have hE:=(Zi hm).symm
 replace hE:=Q14 hLu1 hE
 refine Q1a (_,a2 + 1,a7.set aC.toNat bB,some ⟨bK,0,none⟩,aG,(a0 ++ [0]).length) (Nat.lt_succ_self _) hE [4,3,0] Z (asK [2,3] Z) Z
 replace hm:=Q1y hm aU
 refine Q5 [3] (S':=[_]) Z (Q19 (Qc (Qc (Qt ?_))))
 have hE:=(Zi hm).symm
 replace hE:=QO hLu1 hE
 refine Qp (a0,a8,a9,aA) hE [3] Z (asK [1] Z) Z
 rintro ⟨aB,a4,a5,a6⟩ hE
 try dsimp only
 have hm:=hLj_1
 try rw [hE] at hm
 refine Q6 (Q2 (wP Z (wP Z (Q3 (Q4 (Q5 [2] (S':=[_]) Z (QP ?_)))))))
 have hE:=(Zi hm).symm
 replace hE:=hE.symm
 subst hE
 refine QH (Hr:=[_]) [0] Tryz.results55 (QD Z) ⟨a4,a5,a6,Z,Z,Z⟩ (asK [] Z) Z Z (.inl Z)
theorem Q5w (N:Nat) (aT:OA) (aU:Nat) (l0:List Qr) (aV:OA) (aW:Nat) (l1:List QG) (a2:Int) (aD:OA) (aE:Nat) (l3:List Int) (a4:Int) (aF:OA) (aG:Nat) (l5:List Int) (o0:Bool) (hm:Q3O N l0 l1 a2 l3 a4 l5 = some o0):Q1R Tryz.prog 34 [.agg #[.slice aT l0.length aU,.slice aV l1.length aW],.agg #[.int .i64 a2,.slice aD l3.length aE],.agg #[.int .i64 a4,.slice aF l5.length aG]] [.sli 2 QR aT aU l0,.sli 5 QM aV aW l1,.sli 1 Qi aD aE l3,.sli 1 Qi aF aG l5,tF] [] (fun v Φr Hr=>v = .bool o0 ∧ Φr = [] ∧ Hr = []):=by
 unfold Q3O at hm
 refine QZ Tryz.func34 Z Tryz.ntmps34 Z (S:=V3 ..) Z (fun C=>(Q6 (Q2 (wB Z (fun g3=>(wB Z (fun g4=>(wB Z (fun g5=>(wP Z (Q3 (Q4 (Q5 [5,4,3] (S':=V3 ..) Z (Q6 ?_))))))))))))))
 obtain ⟨cI,bC,hm⟩:=Q7 hm
 obtain ⟨cJ,bD,hm⟩:=Q7 hm
 refine QV [0,1,3,4] Z Z (fun hok=>(Qq hok 0 2 0 Z Z Z Zq Z Z Z Z (cs:=[_,_]) Z Q6s Q7a Z Z (Qq hok 1 1 0 Z Z Z Zq Z Z Z Z (cs:=[_,_]) Z Qe QS Z Z (Qq hok 3 2 0 Z Z Z Zq Z Z Z Z (cs:=[_,_]) Z Q6s Q7a Z Z (Qq hok 4 0 0 Z Z Z Zq Z Z Z Z (cs:=[_,_]) Z Qe QS Z Z (xS hok 2 Z (wC [] [0,1,2] Z fn_54 Z (Q7c N aT aU l0 aV aW l1 a2 aD aE l3 _ bC) (asK [0,1,2,4] Z) Z (H':=V3 ..) Z ?_)))))))
 rintro _ _ _ ⟨rfl,rfl,rfl⟩
 refine Q3 (Qy [0,1,2,3,4] [0,2] Z Z (xS hok 5 Z (wC [] [0,1,2] Z fn_54 Z (Q7c N aT aU l0 aV aW l1 a4 aF aG l5 _ bD) (asK [0,1,3,4] Z) Z (H':=V3 ..) Z ?_)))
 rintro _ _ _ ⟨rfl,rfl,rfl⟩
 refine Q3 (Qy [0,1,2,3,4] [1,2] Z Z (xS hok 6 Z (wP Z (Q3 (Qy [0,1,2,3,4] [0,2] Z Z (xS hok 7 Z (wP Z (Q3 (Qy [0,1,2,3,4] [] Z Z (QL hok Z (Q4 (Q5 [8,7,5,4] (S':=V4 ..) Z (Q6 ?_)))))))))))))
 refine Q6 (Q2 (wP Z (wP Z (wP Z (Q3 (Q4 (Q5 [21,8,7,5,4] (S':=V5 ..) Z ?_)))))))
 refine QA Z (fun aL=>?_) (fun aL=>?_)
 replace hm:=Q1z hm aL
 refine Q5 [8,7] (S':=[_,_]) Z (Q6 (Q2 (wP Z (wP Z (wP Z (wP Z (Q3 (Q4 (Q5 [6] (S':=[_]) Z (QP (Qn ?_)))))))))))
 have hE:=(Zi hm).symm
 replace hE:=hE.symm
 subst hE
 refine QH (Hr:=[]) [] Tryz.results34 (QD Z) ⟨Z,Z,Z⟩ (asK [] Z) Z Z (.inl Z)
 replace hm:=Q1y hm aL
 refine Q5 [5,4] (S':=[_,_]) Z (Qs (Q4 (Q6 ?_)))
 obtain ⟨a6,bE,hm⟩:=Q7 hm
 obtain ⟨a5,bF,hm⟩:=Q7 hm
 refine QV [0,1,3,4] Z Z (fun hok=>(Ql hok 0 Z Z Z Zq Z Z Z Q3u (Qq hok 1 1 1 Z Z Z Zq Z Z Z Z (cs:=[_]) Z Q30 Q4R Z Z (Ql hok 3 Z Z Z Zq Z Z Z Q3u (Qq hok 4 0 1 Z Z Z Zq Z Z Z Z (cs:=[_]) Z Q30 Q4R Z Z (xS hok 2 Z (wC [] [0,1,2] Z fn_55 Z (Q7l N aD aE l3 _ bE) (asK [2,4] Z) Z (H':=V3 ..) Z ?_)))))))
 rintro _ _ _ ⟨a7,a8,a9,rfl,rfl,rfl⟩
 refine Q3 (Qy [0,1,2,3,4] [1] Z Z (xS hok 5 Z (wC [] [0,1,2,3] Z fn_55 Z (Q7l N aF aG l5 _ bF) (asK [3,4] Z) Z (H':=V4 ..) Z ?_)))
 rintro _ _ _ ⟨aA,aB,aC,rfl,rfl,rfl⟩
 refine Q3 (Qy [0,1,2,3,4] [3] Z Z (xS hok 6 Z (wP Z (Q3 (Qy [0,1,2,3,4] [2] Z Z (xS hok 7 Z (wP Z (Q3 (Qy [0,1,2,3,4] [] Z Z (QL hok Z (Q4 (Q5 [10,9,5,4] (S':=V4 ..) Z (Q6 ?_)))))))))))))
 obtain ⟨aZ,hm,hLj_1⟩:=Q35 hm
 refine Q18 (σ:=Unit) (fun _=>aZ = .inl ()) (fun _=>[(10,.slice aA aC aB),(9,.slice a7 a9 a8),(5,.pointer (some ⟨g5,0,none⟩)),(4,.pointer (some ⟨g4,0,none⟩))]) (fun _=>[.sli 1 Qi aF aG l5,.sli 1 Qi aD aE l3,tF]) (fun _=>[.own 3 1 Qi (.slice aA aC aB) a5,.own 3 1 Qi (.slice a7 a9 a8) a6,.blk g5 [.int .i64 a4,.slice aF l5.length aG] 45,.blk g4 [.int .i64 a2,.slice aD l3.length aE] 45]) ?_ ?_
 refine Q6 (Q2 (wP Z (Q3 (Q4 (Qm (Q6L [0,1,2,3] Z (H':=V4 ..) Z (Q1f (σ:=Nat × Nat) (fun (aI,a0)=>Q1o (Q2K N a6 a5) aI a0 = some aZ) (fun (aI,a0)=>aI) (fun (aI,a0)=>[(11,.int .i64 ((a0:Nat):Int)),(10,.slice aA aC aB),(9,.slice a7 a9 a8),(5,.pointer (some ⟨g5,0,none⟩)),(4,.pointer (some ⟨g4,0,none⟩))]) (fun (aI,a0)=>[.sli 1 Qi aF aG l5,.sli 1 Qi aD aE l3,tF]) (fun (aI,a0)=>[.own 3 1 Qi (.slice aA aC aB) a5,.own 3 1 Qi (.slice a7 a9 a8) a6,.blk g5 [.int .i64 a4,.slice aF l5.length aG] 45,.blk g4 [.int .i64 a2,.slice aD l3.length aE] 45]) (N,0) hm [11,10,9,5,4] Z (asK [3,2,4] Z) Z (fun s_ hm=>?_))))))))
 obtain ⟨aI,a0⟩:=s_
 try dsimp only at hm ⊢
 obtain ⟨cK,cL,bG,hq,hLu1⟩:=Q1d hm
 clear hm
 subst bG
 replace hm:=hq
 clear hq
 unfold Q2K at hm
 try dsimp only at hm
 refine Q6 (Q6 ?_)
 obtain ⟨bH,hm,hLj_2⟩:=Q7 hm
 refine Q18 (σ:=Bool) (fun a3=>bH = a3) (fun a3=>[(11,.int .i64 ((a0:Nat):Int)),(10,.slice aA aC aB),(9,.slice a7 a9 a8),(5,.pointer (some ⟨g5,0,none⟩)),(4,.pointer (some ⟨g4,0,none⟩)),(40,.bool a3)]) (fun a3=>[.sli 1 Qi aF aG l5,.sli 1 Qi aD aE l3,tF]) (fun a3=>[.own 3 1 Qi (.slice aA aC aB) a5,.own 3 1 Qi (.slice a7 a9 a8) a6,.blk g5 [.int .i64 a4,.slice aF l5.length aG] 45,.blk g4 [.int .i64 a2,.slice aD l3.length aE] 45]) ?_ ?_
 refine Q2 (wP Z (wP Z (QK 1 Z (fun bI _=>(wN Z Q1j (Qz (d:=33) (v':=.int .i64 ((a6.length:Nat):Int)) (S':=V7 ..) Z Z (Q4A bI) (wP Z (Qz (d:=34) (v':=.bool (decide (a0 < a6.length))) (S':=V8 ..) Z Z (Q3f (a:=a0) (b:=a6.length)) (wP Z ?_)))))))))
 refine Q5F (d:=35) (S':=V9 ..) Z Z (fun aM=>?_) (fun aM=>?_)
 replace hm:=Q1z hm aM
 refine wP Z (wP Z (QK 0 Z (fun bJ _=>(wN Z Q1j (Qz (d:=38) (v':=.int .i64 ((a5.length:Nat):Int)) (S':=V12 ..) Z Z (Q4A bJ) (wP Z (Qz (d:=39) (v':=.bool (decide (a0 < a5.length))) (S':=V13 ..) Z Z (Q3f (a:=a0) (b:=a5.length)) (wP Z (Q3 ?_)))))))))
 have hE:=(Zi hm).symm
 refine Qp (decide (a0 < a5.length)) hE [11,10,9,5,4,40] Z (asK [0,1,2] Z) Z
 replace hm:=Q1y hm aM
 refine wO Z (wO Z (wO Z (wO Z (wP Z (Q3 ?_)))))
 have hE:=(Zi hm).symm
 refine Qp false hE [11,10,9,5,4,40] Z (asK [0,1,2] Z) Z
 rintro a3 hE
 try dsimp only
 have hm:=hLj_2
 try rw [hE] at hm
 refine QA Z (fun aN=>?_) (fun aN=>?_)
 replace hm:=Q1z hm aN
 refine Q5 [11,10,9,5,4] (S':=V5 ..) Z (Qs (Q4 (Q6 (Qm (Q6 ?_)))))
 obtain ⟨bZ,b0,hm⟩:=Q7 hm
 obtain ⟨c0,b1,hm⟩:=Q7 hm
 refine QV [0,1,2,3,4,5,6,7,8] Z Z (fun hok=>(xP hok 0 Z (xP hok 1 Z (Q1F hok 2 1 a0 Z Z Z Zq Z Z Z Z Z Z (Qw b0) Q1j Q1w (fun cM bK=>?_)))))
 subst bK
 refine Q3j hok 3 Q1K 1 a0 0 Z Z Z Zq Z Z Z Z b0 Q1w Q3z (v:=.int .i64 bZ) Z Z (fun _=>(xP hok 4 Z (xP hok 5 Z (Q1F hok 6 0 a0 Z Z Z Zq Z Z Z Z Z Z (Qw b1) Q1j Q1w (fun cN bL=>?_)))))
 subst bL
 refine Q3j hok 7 Q1K 0 a0 0 Z Z Z Zq Z Z Z Z b1 Q1w Q3z (v:=.int .i64 c0) Z Z (fun _=>(xP hok 8 Z (QL hok Z (Q4 (Q5 [51,11,10,9,5,4] (S':=V6 ..) Z ?_)))))
 refine QA Z (fun aO=>?_) (fun aO=>?_)
 replace hm:=Q1z hm aO
 refine Q5 [11,10,9] (S':=V3 ..) Z (Q6 ?_)
 obtain ⟨c1,b2,hm⟩:=Q7 hm
 obtain ⟨c2,b3,hm⟩:=Q7 hm
 refine QV [0,1,2,3,4,5,6,7,8] Z Z (fun hok=>(xP hok 0 Z (xP hok 1 Z (QJ hok 2 1 a0 Z Z Z Zq Z Z Z Z Z Z (Qw b2) Q1j Q1w (Q3j hok 3 Q1K 1 a0 0 Z Z Z Zq Z Z Z Z b2 Q1w Q3z (v:=.int .i64 c1) Z Z (fun _=>(xP hok 4 Z (xP hok 5 Z (QJ hok 6 0 a0 Z Z Z Zq Z Z Z Z Z Z (Qw b3) Q1j Q1w (Q3j hok 7 Q1K 0 a0 0 Z Z Z Zq Z Z Z Z b3 Q1w Q3z (v:=.int .i64 c2) Z Z (fun _=>(xP hok 8 Z (xS hok 9 Z (wP Z (Q3 (Qy [0,1,2] [] Z Z ?_))))))))))))))))
 refine QL hok Z (Q4 (Q5 [6] (S':=[_]) Z (QP (Q11 (Qn (Qn (Q11 (Qn ?_))))))))
 have hE:=(Zi hm).symm
 replace hE:=QO hLu1 hE
 replace hE:=QO hLj_1 hE
 replace hE:=hE.symm
 subst hE
 refine QH (Hr:=[]) [] Tryz.results34 (QD Z) ⟨Z,Z,Z⟩ (asK [] Z) Z Z (.inl Z)
 replace hm:=Q1y hm aO
 refine Q5 [11,10,9,5,4] (S':=V5 ..) Z (Qs (Qj (Q4 (Q2 (wP Z (wP Z ?_))))))
 obtain ⟨bM,hm⟩:=Qd hm
 refine Qz (d:=42) (v':=.int .i64 ((a0 + 1:Nat):Int)) (S':=V6 ..) Z Z (Q1i (a:=a0) (b:=1) bM) (QI (S':=V6 ..) Z Z Z Z Z (Q3 ?_))
 have hE:=(Zi hm).symm
 replace hE:=Q14 hLu1 hE
 refine Q1a (_,a0 + 1) (Nat.lt_succ_self _) hE [11,10,9,5,4] Z (asK [0,1,2] Z) Z
 replace hm:=Q1y hm aN
 refine Q5 [10,9,5,4] (S':=V4 ..) Z (Q19 (Qc (Qc (Qt ?_))))
 have hE:=(Zi hm).symm
 replace hE:=QO hLu1 hE
 refine Qp () hE [10,9,5,4] Z (asK [0,1,2] Z) Z
 rintro _ hE
 try dsimp only
 have hm:=Q14 hLj_1 hE
 try dsimp only at hm
 refine Q6 (Q6 (Q2 (wP Z (QK 1 Z (fun bN _=>(wN Z Q1j (Qz (d:=62) (v':=.int .i64 ((a6.length:Nat):Int)) (S':=V5 ..) Z Z (Q4A bN) (wP Z (QK 0 Z (fun bO _=>(wN Z Q1j (Qz (d:=64) (v':=.int .i64 ((a5.length:Nat):Int)) (S':=V7 ..) Z Z (Q4A bO) (wP Z (Qz (d:=65) (v':=.bool (a6.length != a5.length)) (S':=V8 ..) Z Z (natne (a:=a6.length) (b:=a5.length)) (Q3 ?_)))))))))))))))
 refine Q4 (Q5 [65,10,9,5,4] (S':=V5 ..) Z ?_)
 refine QA Z (fun aP=>?_) (fun aP=>?_)
 replace hm:=Q1z hm aP
 refine Q5 [10,9] (S':=[_,_]) Z (Q6 (Q2 (wP Z (QK 1 Z (fun bP _=>(wN Z Q1j (Qz (d:=67) (v':=.int .i64 ((a6.length:Nat):Int)) (S':=V3 ..) Z Z (Q4A bP) (wP Z (QK 0 Z (fun bQ _=>(wN Z Q1j (Qz (d:=69) (v':=.int .i64 ((a5.length:Nat):Int)) (S':=V5 ..) Z Z (Q4A bQ) (wP Z (Qz (d:=70) (v':=.bool (decide (a5.length < a6.length))) (S':=V6 ..) Z Z (natgt (a:=a6.length) (b:=a5.length)) (wP Z ?_)))))))))))))))
 refine Q3 (Q4 (Q5 [6] (S':=[_]) Z (QP (Qn ?_))))
 have hE:=(Zi hm).symm
 replace hE:=hE.symm
 subst hE
 refine QH (Hr:=[]) [] Tryz.results34 (QD Z) ⟨Z,Z,Z⟩ (asK [] Z) Z Z (.inl Z)
 replace hm:=Q1y hm aP
 refine Q5 [5,4] (S':=[_,_]) Z (Qs (Q4 (Q6 (Q6 (Q2 (wF Z Q2L (wD 3 0 Z Q1w Q3z Z (wF Z Q2L (wD 2 0 Z Q1w Q3z Z (wP Z (Q3 (Q4 (Q5 [75,5,4] (S':=V3 ..) Z ?_)))))))))))))
 refine QA Z (fun aQ=>?_) (fun aQ=>?_)
 replace hm:=Q1z hm aQ
 refine Q5 [5,4] (S':=[_,_]) Z (Q6 (Q2 (wF Z Q2L (wD 3 0 Z Q1w Q3z Z (wF Z Q2L (wD 2 0 Z Q1w Q3z Z (wP Z (wP Z (Q3 (Q4 (Q5 [6] (S':=[_]) Z (QP (Qn ?_)))))))))))))
 have hE:=(Zi hm).symm
 replace hE:=hE.symm
 subst hE
 refine QH (Hr:=[]) [] Tryz.results34 (QD Z) ⟨Z,Z,Z⟩ (asK [] Z) Z Z (.inl Z)
 replace hm:=Q1y hm aQ
 refine Q5 [5,4] (S':=[_,_]) Z (Qs (Q4 (Q6 ?_)))
 obtain ⟨b4,hm,hLj_3⟩:=Q35 hm
 refine Q18 (σ:=Unit) (fun _=>b4 = .inl ()) (fun _=>[]) (fun _=>[tF]) (fun _=>[]) ?_ ?_
 refine Q6 (Q2 (wP Z (Q3 (Q4 (Qm (Q6L [2,3] Z (H':=[_,_]) Z (Q1f (σ:=Nat × Nat) (fun (aJ,a1)=>Q1o (Q37 N l3 l5) aJ a1 = some b4) (fun (aJ,a1)=>aJ) (fun (aJ,a1)=>[(12,.int .i64 ((a1:Nat):Int)),(5,.pointer (some ⟨g5,0,none⟩)),(4,.pointer (some ⟨g4,0,none⟩))]) (fun (aJ,a1)=>[.sli 1 Qi aF aG l5,.sli 1 Qi aD aE l3,tF]) (fun (aJ,a1)=>[.blk g5 [.int .i64 a4,.slice aF l5.length aG] 45,.blk g4 [.int .i64 a2,.slice aD l3.length aE] 45]) (N,0) hm [12,5,4] Z (asK [0,1,2] Z) Z (fun s_ hm=>?_))))))))
 obtain ⟨aJ,a1⟩:=s_
 try dsimp only at hm ⊢
 obtain ⟨cO,cP,bR,hq,hLu2⟩:=Q1d hm
 clear hm
 subst bR
 replace hm:=hq
 clear hq
 unfold Q37 at hm
 try dsimp only at hm
 refine Q6 (Q6 (Q2 (wP Z (wF Z Q3u (wD 1 1 Z Q30 Q4R Z (wN Z Q1j (wP Z (Qz (d:=85) (v':=.bool (decide (a1 < l3.length))) (S':=V7 ..) Z Z (Q3f (a:=a1) (b:=l3.length)) (Q3 (Q4 (Q5 [85,12,5,4] (S':=V4 ..) Z ?_)))))))))))
 refine QA Z (fun aR=>?_) (fun aR=>?_)
 replace hm:=Q1z hm aR
 refine Q5 [12,5,4] (S':=V3 ..) Z (Qs (Q4 (Q6 (Qm (Q6 ?_)))))
 obtain ⟨cQ,bS,hm⟩:=Q7 hm
 obtain ⟨cR,bT,hm⟩:=Q7 hm
 refine QV [0,1,2,3,4,5,6,7,8,9,10] Z Z (fun hok=>(Ql hok 0 Z Z Z Zq Z Z Z Q3u (Qq hok 1 1 1 Z Z Z Zq Z Z Z Z (cs:=[_]) Z Q30 Q4R Z Z (xP hok 2 Z (Q1Q hok 3 1 a1 Z Z Z Zq Z Z Z Z Z Z bS Q1j Q1w (fun cS cT c8 c3=>(Q2e Q1K 1 Z (fun cU bU _=>?_))))))))
 subst bU
 refine Q2Q hok 4 0 0 Z Z Z Zq Z Z Z Z (cs:=[_]) Z Q1w Q3z Z Z (Ql hok 5 Z Z Z Zq Z Z Z Q3u (Qq hok 6 0 1 Z Z Z Zq Z Z Z Z (cs:=[_]) Z Q30 Q4R Z Z (xP hok 7 Z (Q1Q hok 8 2 a1 Z Z Z Zq Z Z Z Z Z Z bT Q1j Q1w (fun cV cW c9 c4=>(Q2e Q1K 1 Z (fun cX bV _=>?_)))))))
 subst bV
 refine Q2Q hok 9 0 0 Z Z Z Zq Z Z Z Z (cs:=[_]) Z Q1w Q3z Z Z (xP hok 10 Z (QL hok Z (Q4 (Q5 [98,12,5,4] (S':=V4 ..) Z ?_))))
 refine QA Z (fun aS=>?_) (fun aS=>?_)
 replace hm:=Q1z hm aS
 refine Q5 [12,5,4] (S':=V3 ..) Z (Q6 ?_)
 obtain ⟨cA,b7,hm⟩:=Q7 hm
 obtain ⟨cB,b8,hm⟩:=Q7 hm
 refine QV [0,1,2,3,4,5,6,7,8,9,10] Z Z (fun hok=>(Ql hok 0 Z Z Z Zq Z Z Z Q3u (Qq hok 1 1 1 Z Z Z Zq Z Z Z Z (cs:=[_]) Z Q30 Q4R Z Z (xP hok 2 Z (Q1Q hok 3 5 a1 Z Z Z Zq Z Z Z Z Z Z b7 Q1j Q1w (fun cC cD c5 bX=>(Q2e Q1K 1 Z (fun cE b9 _=>?_))))))))
 subst b9
 refine Q2Q hok 4 0 0 Z Z Z Zq Z Z Z Z (cs:=[_]) Z Q1w Q3z Z Z (Ql hok 5 Z Z Z Zq Z Z Z Q3u (Qq hok 6 0 1 Z Z Z Zq Z Z Z Z (cs:=[_]) Z Q30 Q4R Z Z (xP hok 7 Z (Q1Q hok 8 6 a1 Z Z Z Zq Z Z Z Z Z Z b8 Q1j Q1w (fun cF cG c6 bY=>(Q2e Q1K 1 Z (fun cH bA _=>?_)))))))
 subst bA
 refine Q2Q hok 9 0 0 Z Z Z Zq Z Z Z Z (cs:=[_]) Z Q1w Q3z Z Z (xP hok 10 Z (xS hok 11 Z (wP Z (Q3 (Qy [0,1,2,3,4,5,6,7,8,9,10] [] Z Z (QL hok Z (Q4 (Q5 [6] (S':=[_]) Z (QP (Q11 (Qn (Qn (Q11 ?_)))))))))))))
 refine Qn ?_
 have hE:=(Zi hm).symm
 replace hE:=QO hLu2 hE
 replace hE:=QO hLj_3 hE
 replace hE:=hE.symm
 subst hE
 refine QH (Hr:=[]) [] Tryz.results34 (QD Z) ⟨Z,Z,Z⟩ (asK [] Z) Z Z (.inl Z)
 replace hm:=Q1y hm aS
 refine Q5 [12,5,4] (S':=V3 ..) Z (Qs (Qj (Q4 (Q2 (wP Z (wP Z ?_))))))
 obtain ⟨bW,hm⟩:=Qd hm
 refine Qz (d:=87) (v':=.int .i64 ((a1 + 1:Nat):Int)) (S':=V4 ..) Z Z (Q1i (a:=a1) (b:=1) bW) (QI (S':=V4 ..) Z Z Z Z Z (Q3 ?_))
 have hE:=(Zi hm).symm
 replace hE:=Q14 hLu2 hE
 refine Q1a (_,a1 + 1) (Nat.lt_succ_self _) hE [12,5,4] Z (asK [4,5,6] Z) Z
 replace hm:=Q1y hm aR
 refine Q5 [] (S':=[]) Z (Q19 (Qc (Qc (Qt ?_))))
 have hE:=(Zi hm).symm
 replace hE:=QO hLu2 hE
 refine Q1m [] Z (H':=[]) Z ?_
 refine Qp () hE [] Z (asK [2] Z) Z
 rintro _ hE
 try dsimp only
 have hm:=Q14 hLj_3 hE
 try dsimp only at hm
 refine Q6 (Q2 (wP Z (Q3 (Q4 (QP ?_)))))
 have hE:=(Zi hm).symm
 replace hE:=hE.symm
 subst hE
 refine QH (Hr:=[]) [] Tryz.results34 (QD Z) ⟨Z,Z,Z⟩ (asK [] Z) Z Z (.inl Z)
theorem Q8h (N:Nat) (aH:Nat) (a8:OA) (aC:Nat) (a9:Nat) (l0:List Qr) (aA:OA) (aD:Nat) (aB:Nat) (l1:List QG) (aE:OA) (aF:Nat) (aG:Nat) (l2:List Q1) (a2:OA) (a3:Nat) (a4:Nat) (l3:List Bool) (o0:Int) (o3:List Int) (o4:Bool) (hm:Q3m N l0 l1 l2 l3 = some (o0,o3,o4)):Q1R Tryz.prog 12 [.pointer (some ⟨aH,0,none⟩)] [tF] [.blk aH [.slice a8 aC a9,.slice aA aD aB,.slice aE aF aG,.slice a2 a3 a4] 70,.own 213 2 QR (.slice a8 aC a9) l0,.own 38 5 QM (.slice aA aD aB) l1,.own 45 2 Q9 (.slice aE aF aG) l2,.own 4 1 QW (.slice a2 a3 a4) l3] (fun v Φr Hr=>∃ (o1:OA) (o2:Nat),v = .tuple #[.agg #[.int .i64 o0,.slice o1 o3.length o2],.bool o4] ∧ Φr = [.sli 1 Qi o1 o2 o3] ∧ Hr = [.blk aH [.slice a8 aC a9,.slice aA aD aB,.slice aE aF aG,.slice a2 a3 a4] 70,.own 213 2 QR (.slice a8 aC a9) l0,.own 38 5 QM (.slice aA aD aB) l1,.own 45 2 Q9 (.slice aE aF aG) l2,.own 4 1 QW (.slice a2 a3 a4) l3]):=by
 unfold Q3m at hm
 refine QZ Tryz.func12 Z Tryz.ntmps12 Z (S:=[_]) Z (fun C=>(Q6 (Q2 (Q25 Z Z Z Zq Z Q42 Z (fun g2=>(wP Z (Q3 (Q4 (Q5 [2,0] (S':=[_,_]) Z (Q6 (Q2 (wP Z (Q3 (Q4 (Q6 ?_)))))))))))))))
 obtain ⟨b2,hm,hLj_1⟩:=Q7 hm
 refine Q18 (σ:=Int) (fun a5=>b2 = a5) (fun a5=>[(2,.pointer (some ⟨g2,0,none⟩)),(0,.pointer (some ⟨aH,0,none⟩)),(4,.int .i64 a5)]) (fun a5=>[tF]) (fun a5=>[.blk g2 [.int .i64 0,V1] 45,.blk aH [.slice a8 aC a9,.slice aA aD aB,.slice aE aF aG,.slice a2 a3 a4] 70,.own 213 2 QR (.slice a8 aC a9) l0,.own 38 5 QM (.slice aA aD aB) l1,.own 45 2 Q9 (.slice aE aF aG) l2,.own 4 1 QW (.slice a2 a3 a4) l3]) ?_ ?_
 refine Q6 (Q2 (wP Z (Q3 (Q4 (Qm (Q1f (σ:=Nat × Nat × Int) (fun (aO,a0,a1)=>Q1o (Q23 N l2 l3 l0 l1) aO (a0,a1) = some b2) (fun (aO,a0,a1)=>aO) (fun (aO,a0,a1)=>[(5,.int .i64 ((a0:Nat):Int)),(4,.int .i64 a1),(2,.pointer (some ⟨g2,0,none⟩)),(0,.pointer (some ⟨aH,0,none⟩))]) (fun (aO,a0,a1)=>[tF]) (fun (aO,a0,a1)=>[.blk g2 [.int .i64 0,V1] 45,.blk aH [.slice a8 aC a9,.slice aA aD aB,.slice aE aF aG,.slice a2 a3 a4] 70,.own 213 2 QR (.slice a8 aC a9) l0,.own 38 5 QM (.slice aA aD aB) l1,.own 45 2 Q9 (.slice aE aF aG) l2,.own 4 1 QW (.slice a2 a3 a4) l3]) (N,0,-1) hm [5,4,2,0] Z (asK [0] Z) Z (fun s_ hm=>?_)))))))
 obtain ⟨aO,a0,a1⟩:=s_
 try dsimp only at hm ⊢
 obtain ⟨bN,bO,b6,hq,hLu1⟩:=Q1d hm
 clear hm
 subst b6
 replace hm:=hq
 clear hq
 unfold Q23 at hm
 try dsimp only at hm
 refine Q6 (Q6 (Q2 (wP Z (wP Z (wP Z (wF Z Q7O (wD 1 2 Z Q1X Q3D Z (QK 4 Z (fun b7 _=>(wN Z QB (Qz (d:=11) (v':=.int .i64 ((l2.length:Nat):Int)) (S':=V9 ..) Z Z (Q4A b7) (wP Z (Qz (d:=12) (v':=.bool (decide (a0 < l2.length))) (S':=V10 ..) Z Z (Q3f (a:=a0) (b:=l2.length)) (Q3 ?_))))))))))))))
 refine Q4 (Q5 [12,5,4,2,0] (S':=V5 ..) Z ?_)
 refine QA Z (fun aS=>?_) (fun aS=>?_)
 replace hm:=Q1z hm aS
 refine Q5 [5,4,2,0] (S':=V4 ..) Z (Qs (Q4 (Q6 ?_)))
 obtain ⟨b8,hm,hLj_2⟩:=Q7 hm
 refine Q18 (σ:=Int) (fun a7=>b8 = a7) (fun a7=>[(5,.int .i64 ((a0:Nat):Int)),(4,.int .i64 a7),(2,.pointer (some ⟨g2,0,none⟩)),(0,.pointer (some ⟨aH,0,none⟩))]) (fun a7=>[tF]) (fun a7=>[.blk g2 [.int .i64 0,V1] 45,.blk aH [.slice a8 aC a9,.slice aA aD aB,.slice aE aF aG,.slice a2 a3 a4] 70,.own 213 2 QR (.slice a8 aC a9) l0,.own 38 5 QM (.slice aA aD aB) l1,.own 45 2 Q9 (.slice aE aF aG) l2,.own 4 1 QW (.slice a2 a3 a4) l3]) ?_ ?_
 refine Qm (Q6 ?_)
 obtain ⟨b9,hm,hLj_3⟩:=Q7 hm
 unfold Q2m at hm
 refine Q18 (σ:=Bool) (fun a6=>b9 = a6) (fun a6=>[(5,.int .i64 ((a0:Nat):Int)),(4,.int .i64 a1),(2,.pointer (some ⟨g2,0,none⟩)),(0,.pointer (some ⟨aH,0,none⟩)),(47,.bool a6)]) (fun a6=>[tF]) (fun a6=>[.blk g2 [.int .i64 0,V1] 45,.blk aH [.slice a8 aC a9,.slice aA aD aB,.slice aE aF aG,.slice a2 a3 a4] 70,.own 213 2 QR (.slice a8 aC a9) l0,.own 38 5 QM (.slice aA aD aB) l1,.own 45 2 Q9 (.slice aE aF aG) l2,.own 4 1 QW (.slice a2 a3 a4) l3]) ?_ ?_
 obtain ⟨b5,aK,hm⟩:=Q7 hm
 rcases Q32 hm with ⟨aR,hm⟩ | ⟨aR,hm⟩
 rcases Q32 hm with ⟨aT,hm⟩ | ⟨aT,hm⟩
 ·
  refine QV [0,1,2,3,4,5,6,7,8,9,10,11,12,13,14,15,16,17,18,19,20,21,23,24,25,26,27,28,31,32] Z Z (fun hok=>(xP hok 0 Z (xP hok 1 Z (Ql hok 2 Z Z Z Zq Z Z Z Q85 (Qq hok 3 1 3 Z Z Z Zq Z Z Z Z (cs:=[_]) Z tS_68 tA_68 Z Z (xP hok 4 Z (Q1F hok 5 5 a0 Z Z Z Zq Z Z Z Z Z Z (Qw aK) tE_68 tS_4 (fun bA aL=>?_))))))))
  subst aL
  refine Q3j hok 6 Q56 5 a0 0 Z Z Z Zq Z Z Z Z aK tS_4 tA_4 (v:=.bool b5) Z Z (fun _=>(xP hok 7 Z (xP hok 8 Z (Q1e (d:=23) (v':=.bool true) (S':=V12 ..) Z Z (Q16 aR) (xP hok 9 Z (xP hok 10 Z (xP hok 11 Z (Q1e (d:=26) (v':=.bool true) (S':=V15 ..) Z Z (Q16 aT) (xO hok 12 Z (xO hok 13 Z (xO hok 14 Z (xO hok 15 Z (xO hok 16 Z (xO hok 17 Z ?_))))))))))))))
  refine xO hok 18 Z (xO hok 19 Z (xO hok 20 Z (xO hok 21 Z (xO hok 23 Z (xO hok 24 Z (xO hok 25 Z (xO hok 26 Z (xO hok 27 Z (xO hok 28 Z ?_)))))))))
  refine Q1W hok 22 29 Z Z Z Z Z Z ?_ ?_
  rotate_left
  focus
   refine wO Z (Q3 (Qy [0] [5,1] Z Z (xS hok 22 Z ?_)))
  rotate_right
  focus
   refine wO Z (Q3 (Qy [0] [5,1] Z Z (xS hok 29 Z ?_)))
  all_goals
   refine wO Z (Q3 (Qy [0] [5,1] Z Z (xS hok 30 Z (wO Z (Q3 (Qy [0] [5,1] Z Z (xP hok 31 Z (xP hok 32 Z (QL hok Z ?_)))))))))
   have hE:=(Zi hm).symm
   refine Qp true hE [5,4,2,0,47] Z (asK [0] Z) Z
 ·
  obtain ⟨aM,aU,hm⟩:=Q7 hm
  obtain ⟨bB,hm⟩:=Qd hm
  obtain ⟨aN,aV,hm⟩:=Q7 hm
  obtain ⟨bI,b3,hm⟩:=Q7 hm
  refine QV [0,1,2,3,4,5,6,7,8,9,10,11,12,13,14,15,16,17,18,19,20,21,23,24,25,26,27,28,31,32] Z Z (fun hok=>(xP hok 0 Z (xP hok 1 Z (Ql hok 2 Z Z Z Zq Z Z Z Q85 (Qq hok 3 1 3 Z Z Z Zq Z Z Z Z (cs:=[_]) Z tS_68 tA_68 Z Z (xP hok 4 Z (Q1F hok 5 5 a0 Z Z Z Zq Z Z Z Z Z Z (Qw aK) tE_68 tS_4 (fun bA aL=>?_))))))))
  subst aL
  refine Q3j hok 6 Q56 5 a0 0 Z Z Z Zq Z Z Z Z aK tS_4 tA_4 (v:=.bool b5) Z Z (fun _=>(xP hok 7 Z (xP hok 8 Z (Q1e (d:=23) (v':=.bool true) (S':=V12 ..) Z Z (Q16 aR) (xP hok 9 Z (xP hok 10 Z (xP hok 11 Z (Q1e (d:=26) (v':=.bool false) (S':=V15 ..) Z Z (Q16 aT) (xP hok 12 Z (xP hok 13 Z (Ql hok 14 Z Z Z Zq Z Z Z tF_70_0 (Qq hok 15 1 0 Z Z Z Zq Z Z Z Z (cs:=[_,_]) Z Q6s Q7a Z Z (xP hok 16 Z (xP hok 17 Z ?_))))))))))))))
  refine Ql hok 18 Z Z Z Zq Z Z Z Q7O (Qq hok 19 1 2 Z Z Z Zq Z Z Z Z (cs:=[_]) Z Q1X Q3D Z Z (xP hok 20 Z (Q1F hok 21 4 a0 Z Z Z Zq Z Z Z Z Z Z (Qw aU) QB Qe (fun bP bC=>?_))))
  subst bC
  refine xP hok 23 Z (xP hok 24 Z (Ql hok 25 Z Z Z Zq Z Z Z Q7O (Qq hok 26 1 2 Z Z Z Zq Z Z Z Z (cs:=[_]) Z Q1X Q3D Z Z (xP hok 27 Z (QJ hok 28 4 a1.toNat Z Z Z Zq Z Z Z Z Z (QC bB) (Qw aV) QB Qe ?_)))))
  refine Q1W hok 22 29 Z Z Z Z Z Z ?_ ?_
  rotate_left
  focus
   refine Qk Qa 4 a1.toNat 0 Z Z Z Zq Z Z Z aV Qe QS (v:=fun aI=>.agg #[.int .i64 (aN.rule),.slice aI.1 aN.ids.length aI.2]) (fun _=>Z) (fun _=>Z) (fun aI _=>(Q3 (Qy [1] [1,1,1,5,1] Z Z (xS hok 22 Z (Qk Qa 4 a0 0 Z Z Z Zq Z Z Z aU Qe QS (v:=fun aJ=>.agg #[.int .i64 (aM.rule),.slice aJ.1 aM.ids.length aJ.2]) (fun _=>Z) (fun _=>Z) (fun aJ _=>(Q3 (Qy [1,2] [1,1,1,5,1] Z Z (xS hok 30 Z (QK 2 Z (fun aP _=>?_)))))))))))
   subst aP
   refine QK 3 Z (fun aQ _=>?_)
   subst aQ
   refine Q2k [] [0,1,2,3,4,5] [2,3] Z Z Z Zq Z Z fn_34 Z (Q5w N a8 a9 l0 aA aB l1 aM.rule aJ.1 aJ.2 aM.ids aN.rule aI.1 aI.2 aN.ids _ b3) (fun F w hφ hh=>(Qh (Q1n (hh _ (Qu (k:=0) Z))) (Qh (Q1n (hh _ (Qu (k:=1) Z))) (Qh (hφ _ (Qu (k:=0) Z)) (Qh (hφ _ (Qu (k:=1) Z)) (Qh (hφ _ (Qu (k:=2) Z)) Qv)))))) (fun _ _ _ hR=>by obtain ⟨rfl,rfl,rfl⟩:=hR; exact ⟨Z,(fun _ h=>Q1O h)⟩) Z Z (H':=V6 ..) Z ?_
  rotate_right
  focus
   refine Qk Qa 4 a0 0 Z Z Z Zq Z Z Z aU Qe QS (v:=fun aJ=>.agg #[.int .i64 (aM.rule),.slice aJ.1 aM.ids.length aJ.2]) (fun _=>Z) (fun _=>Z) (fun aJ _=>(Q3 (Qy [1] [1,1,1,5,1] Z Z (xS hok 29 Z (Qk Qa 4 a1.toNat 0 Z Z Z Zq Z Z Z aV Qe QS (v:=fun aI=>.agg #[.int .i64 (aN.rule),.slice aI.1 aN.ids.length aI.2]) (fun _=>Z) (fun _=>Z) (fun aI _=>(Q3 (Qy [1,2] [1,1,1,5,1] Z Z (xS hok 30 Z (QK 2 Z (fun aP _=>?_)))))))))))
   subst aP
   refine QK 3 Z (fun aQ _=>?_)
   subst aQ
   refine Q2k [] [0,1,2,3,4,5] [2,3] Z Z Z Zq Z Z fn_34 Z (Q5w N a8 a9 l0 aA aB l1 aM.rule aJ.1 aJ.2 aM.ids aN.rule aI.1 aI.2 aN.ids _ b3) (fun F w hφ hh=>(Qh (Q1n (hh _ (Qu (k:=0) Z))) (Qh (Q1n (hh _ (Qu (k:=1) Z))) (Qh (hφ _ (Qu (k:=1) Z)) (Qh (hφ _ (Qu (k:=0) Z)) (Qh (hφ _ (Qu (k:=2) Z)) Qv)))))) (fun _ _ _ hR=>by obtain ⟨rfl,rfl,rfl⟩:=hR; exact ⟨Z,(fun _ h=>Q1O h)⟩) Z Z (H':=V6 ..) Z ?_
  all_goals
   rintro _ _ _ ⟨rfl,rfl,rfl⟩
   refine Q3 (Qy [0,1,2] [1,1,5,1] Z Z (xP hok 31 Z (xP hok 32 Z (QL hok Z ?_))))
   have hE:=(Zi hm).symm
   refine Qp bI hE [5,4,2,0,47] Z (asK [2] Z) Z
 ·
  refine QV [0,1,2,3,4,5,6,7,8,9,10,11,12,13,14,15,16,17,18,19,20,21,23,24,25,26,27,28,31,32] Z Z (fun hok=>(xP hok 0 Z (xP hok 1 Z (Ql hok 2 Z Z Z Zq Z Z Z Q85 (Qq hok 3 1 3 Z Z Z Zq Z Z Z Z (cs:=[_]) Z tS_68 tA_68 Z Z (xP hok 4 Z (Q1F hok 5 5 a0 Z Z Z Zq Z Z Z Z Z Z (Qw aK) tE_68 tS_4 (fun bA aL=>?_))))))))
  subst aL
  refine Q3j hok 6 Q56 5 a0 0 Z Z Z Zq Z Z Z Z aK tS_4 tA_4 (v:=.bool b5) Z Z (fun _=>(xP hok 7 Z (xP hok 8 Z (Q1e (d:=23) (v':=.bool false) (S':=V12 ..) Z Z (Q16 aR) (xO hok 9 Z (xO hok 10 Z (xO hok 11 Z (xO hok 12 Z (xO hok 13 Z (xO hok 14 Z (xO hok 15 Z (xO hok 16 Z (xO hok 17 Z (xO hok 18 Z ?_))))))))))))))
  refine xO hok 19 Z (xO hok 20 Z (xO hok 21 Z (xO hok 23 Z (xO hok 24 Z (xO hok 25 Z (xO hok 26 Z (xO hok 27 Z (xO hok 28 Z ?_))))))))
  refine Q1W hok 22 29 Z Z Z Z Z Z ?_ ?_
  rotate_left
  focus
   refine wO Z (Q3 (Qy [0] [5,1] Z Z (xS hok 22 Z ?_)))
  rotate_right
  focus
   refine wO Z (Q3 (Qy [0] [5,1] Z Z (xS hok 29 Z ?_)))
  all_goals
   refine wO Z (Q3 (Qy [0] [5,1] Z Z (xS hok 30 Z (wO Z (Q3 (Qy [0] [5,1] Z Z (xO hok 31 Z (xP hok 32 Z (QL hok Z ?_)))))))))
   have hE:=(Zi hm).symm
   refine Qp false hE [5,4,2,0,47] Z (asK [0] Z) Z
 rintro a6 hE
 try dsimp only
 have hm:=hLj_3
 try rw [hE] at hm
 refine QA Z (fun aW=>?_) (fun aW=>?_)
 replace hm:=Q1z hm aW
 refine Q5 [5,2,0] (S':=V3 ..) Z (Q2 (wP Z (wP Z (Q3 (Qj ?_)))))
 have hE:=(Zi hm).symm
 refine Qp ((a0:Nat):Int) hE [5,4,2,0] Z (asK [0] Z) Z
 replace hm:=Q1y hm aW
 refine Q5 [5,4,2,0] (S':=V4 ..) Z (Qs (Qj ?_))
 have hE:=(Zi hm).symm
 refine Qp a1 hE [5,4,2,0] Z (asK [0] Z) Z
 rintro a7 hE
 try dsimp only
 have hm:=hLj_2
 try rw [hE] at hm
 refine Q2 (wP Z (wP Z ?_))
 obtain ⟨bD,hm⟩:=Qd hm
 refine Qz (d:=14) (v':=.int .i64 ((a0 + 1:Nat):Int)) (S':=V5 ..) Z Z (Q1i (a:=a0) (b:=1) bD) (QI (S':=V5 ..) Z Z Z Z Z (Q3 ?_))
 have hE:=(Zi hm).symm
 replace hE:=Q14 hLu1 hE
 refine Q1a (_,a0 + 1,a7) (Nat.lt_succ_self _) hE [5,4,2,0] Z (asK [0] Z) Z
 replace hm:=Q1y hm aS
 refine Q5 [4,2,0] (S':=V3 ..) Z (Q19 (Qc (Qc (Qt ?_))))
 have hE:=(Zi hm).symm
 replace hE:=QO hLu1 hE
 refine Qp a1 hE [2,0,4] Z (asK [0] Z) Z
 rintro a5 hE
 try dsimp only
 have hm:=hLj_1
 try rw [hE] at hm
 refine Q6 (Q6 (Q2 (wP Z (wP Z (Q3 (Q4 (Q5 [50,2,0,4] (S':=V4 ..) Z ?_)))))))
 refine QA Z (fun aX=>?_) (fun aX=>?_)
 replace hm:=Q1z hm aX
 refine Q5 [2] (S':=[_]) Z (Q6 (Q2 (Q7w Z Z Z Zq Z Q42 tP_45 Z (out:=[_,_]) Z (wS 0 0 Z Qe (all':=[_,_]) Z (H':=V6 ..) Z (wP Z (Q3 (Q4 (Q5 [3,2] (S':=[_,_]) Z (QP (Qn ?_))))))))))
 have hE:=(Zi hm).symm
 obtain ⟨hE0,hF1⟩:=Prod.mk.inj hE
 obtain ⟨hE1,hE2⟩:=Prod.mk.inj hF1
 clear hE hF1
 replace hE0:=hE0.symm
 subst hE0
 replace hE1:=hE1.symm
 subst hE1
 replace hE2:=hE2.symm
 subst hE2
 refine we_fact (.sli 1 Qi none 0 ([] : List Int)) (fun _ _ _=>Q5n) ?_
 refine Q7e (Hr:=V5 ..) [1,2,3,4,5] Tryz.results12 (Q5D 0 Z Z Qe QS Z Z) (QD Z) ⟨none,0,Z,Z,Z⟩ (asK [0] Z) Z Z (.inl Z)
 replace hm:=Q1y hm aX
 refine Q5 [2,0,4] (S':=V3 ..) Z (Qs (Q4 (Q6 (Q2 (wP Z (wP Z (wF Z Q7O (wD 1 2 Z Q1X Q3D Z (wP Z ?_)))))))))
 obtain ⟨bE,hm⟩:=Qd hm
 obtain ⟨bF,b4,hm⟩:=Q7 hm
 refine Q2E 4 a5.toNat Z Z Z Zq Z Z Z Z (QC bE) (Qw b4) QB Qe (fun bQ bG=>?_)
 subst bG
 refine Qk Qa 4 a5.toNat 0 Z Z Z Zq Z Z Z b4 Qe QS (v:=fun aY=>.agg #[.int .i64 (bF.rule),.slice aY.1 bF.ids.length aY.2]) (fun _=>Z) (fun _=>Z) (fun aY _=>(wS 0 0 Z Qe (all':=[_,_]) Z (H':=V6 ..) Z (wP Z (Q3 (Q4 (Q5 [3,2] (S':=[_,_]) Z (QP ?_)))))))
 have hE:=(Zi hm).symm
 obtain ⟨hE0,hF1⟩:=Prod.mk.inj hE
 obtain ⟨hE1,hE2⟩:=Prod.mk.inj hF1
 clear hE hF1
 replace hE0:=hE0.symm
 subst hE0
 replace hE1:=hE1.symm
 subst hE1
 replace hE2:=hE2.symm
 subst hE2
 refine Q7e (Hr:=V5 ..) [1,2,3,4,5] Tryz.results12 (Q5D 0 Z Z Qe QS Z Z) (QD Z) ⟨aY.1,aY.2,Z,Z,Z⟩ (asK [0] Z) Z Z (.inl Z)
theorem Q6z (N:Nat) (aS:Nat) (aH:OA) (aM:Nat) (aI:Nat) (l0:List Qr) (aJ:OA) (aN:Nat) (aK:Nat) (l1:List QG) (aO:OA) (aP:Nat) (aQ:Nat) (l2:List Q1) (aR:OA) (a7:Nat) (a8:Nat) (l3:List Bool) (o2:List Q1) (hm:Q2H N l0 l1 l2 l3 = some o2):Q1R Tryz.prog 16 [.pointer (some ⟨aS,0,none⟩)] [tF] [.blk aS [.slice aH aM aI,.slice aJ aN aK,.slice aO aP aQ,.slice aR a7 a8] 70,.own 213 2 QR (.slice aH aM aI) l0,.own 38 5 QM (.slice aJ aN aK) l1,.own 45 2 Q9 (.slice aO aP aQ) l2,.own 4 1 QW (.slice aR a7 a8) l3] (fun v Φr Hr=>∃ (o0:OA) (o1:Nat) (o3:Nat),v = .slice o0 o3 o1 ∧ Φr = [] ∧ Hr = [.own 45 2 Q9 (.slice o0 o3 o1) o2,.blk aS [.slice aH aM aI,.slice aJ aN aK,.slice aO aP aQ,.slice aR a7 a8] 70,.own 213 2 QR (.slice aH aM aI) l0,.own 38 5 QM (.slice aJ aN aK) l1,.own 45 2 Q9 (.slice aO aP aQ) l2,.own 4 1 QW (.slice aR a7 a8) l3]):=by
 unfold Q2H at hm
 refine QZ Tryz.func16 Z Tryz.ntmps16 Z (S:=[_]) Z (fun C=>(Q6 (Q2 (wP Z (Q3 (Q4 (Q5 [0] (S':=[_]) Z (Q6 (Q2 (wP Z (Q3 (Q4 (Q6 ?_)))))))))))))
 obtain ⟨bF,hm,hLj_1⟩:=Q7 hm
 refine Q18 (σ:=(List Q1) × OA × Nat × Nat) (fun (aG,a9,aA,aB)=>bF = aG) (fun (aG,a9,aA,aB)=>[(3,.slice a9 aB aA)]) (fun (aG,a9,aA,aB)=>[tF]) (fun (aG,a9,aA,aB)=>[.own 45 2 Q9 (.slice a9 aB aA) aG,.blk aS [.slice aH aM aI,.slice aJ aN aK,.slice aO aP aQ,.slice aR a7 a8] 70,.own 213 2 QR (.slice aH aM aI) l0,.own 38 5 QM (.slice aJ aN aK) l1,.own 45 2 Q9 (.slice aO aP aQ) l2,.own 4 1 QW (.slice aR a7 a8) l3]) ?_ ?_
 refine Q6 (Q2 (wP Z (Q3 (Q4 (Qm (Q52 45 2 Q9 (Q1f (σ:=Nat × Nat × (List Q1) × OA × Nat × Nat) (fun (aY,a5,a0,a1,a2,a4)=>Q1o (Q3o N l2 l3 l0 l1) aY (a5,a0) = some bF) (fun (aY,a5,a0,a1,a2,a4)=>aY) (fun (aY,a5,a0,a1,a2,a4)=>[(4,.int .i64 ((a5:Nat):Int)),(3,.slice a1 a4 a2),(0,.pointer (some ⟨aS,0,none⟩))]) (fun (aY,a5,a0,a1,a2,a4)=>[tF]) (fun (aY,a5,a0,a1,a2,a4)=>[.own 45 2 Q9 (.slice a1 a4 a2) a0,.blk aS [.slice aH aM aI,.slice aJ aN aK,.slice aO aP aQ,.slice aR a7 a8] 70,.own 213 2 QR (.slice aH aM aI) l0,.own 38 5 QM (.slice aJ aN aK) l1,.own 45 2 Q9 (.slice aO aP aQ) l2,.own 4 1 QW (.slice aR a7 a8) l3]) (N,0,[],none,0,0) hm [4,3,0] Z (asK [0] Z) Z (fun s_ hm=>?_))))))))
 obtain ⟨aY,a5,a0,a1,a2,a4⟩:=s_
 try dsimp only at hm ⊢
 obtain ⟨cE,cF,bR,hq,hLu1⟩:=Q1d hm
 clear hm
 subst bR
 replace hm:=hq
 clear hq
 unfold Q3o at hm
 try dsimp only at hm
 refine Q6 (Q6 (Q2 (wP Z (wP Z (wP Z (wF Z Q7O (wD 1 2 Z Q1X Q3D Z (QK 4 Z (fun bS _=>(wN Z QB (Qz (d:=12) (v':=.int .i64 ((l2.length:Nat):Int)) (S':=V8 ..) Z Z (Q4A bS) (wP Z (Qz (d:=13) (v':=.bool (decide (a5 < l2.length))) (S':=V9 ..) Z Z (Q3f (a:=a5) (b:=l2.length)) (Q3 ?_))))))))))))))
 refine Q4 (Q5 [13,4,3,0] (S':=V4 ..) Z ?_)
 refine QA Z (fun b6=>?_) (fun b6=>?_)
 replace hm:=Q1z hm b6
 refine Q5 [4,3,0] (S':=V3 ..) Z (Qs (Q4 (Q6 ?_)))
 obtain ⟨bT,hm,hLj_2⟩:=Q7 hm
 unfold Q5h at hm
 refine Q18 (σ:=(List Q1) × OA × Nat × Nat) (fun (aC,aD,aE,aF)=>bT = aC) (fun (aC,aD,aE,aF)=>[(4,.int .i64 ((a5:Nat):Int)),(3,.slice aD aF aE),(0,.pointer (some ⟨aS,0,none⟩))]) (fun (aC,aD,aE,aF)=>[tF]) (fun (aC,aD,aE,aF)=>[.own 45 2 Q9 (.slice aD aF aE) aC,.blk aS [.slice aH aM aI,.slice aJ aN aK,.slice aO aP aQ,.slice aR a7 a8] 70,.own 213 2 QR (.slice aH aM aI) l0,.own 38 5 QM (.slice aJ aN aK) l1,.own 45 2 Q9 (.slice aO aP aQ) l2,.own 4 1 QW (.slice aR a7 a8) l3]) ?_ ?_
 refine Qm (Q6 (Q6 (Q2 (wP Z (wP Z (wF Z Q85 (wD 1 3 Z tS_68 tA_68 Z (wP Z ?_))))))))
 obtain ⟨c8,bG,hm⟩:=Q7 hm
 refine Q2E 5 a5 Z Z Z Zq Z Z Z Z Z (Qw bG) tE_68 tS_4 (fun b4 bU=>?_)
 subst bU
 refine Qk Q56 5 a5 0 Z Z Z Zq Z Z Z bG tS_4 tA_4 (v:=fun _=>.bool c8) (fun _=>Z) (fun _=>Z) (fun _ _=>(wP Z (Q3 (Q4 (Q5 [23,4,3,0] (S':=V4 ..) Z ?_)))))
 refine QA Z (fun b7=>?_) (fun b7=>?_)
 replace hm:=Q1z hm b7
 refine Q5 [4,3,0] (S':=V3 ..) Z (Q19 (Qc (Qt ?_)))
 have hE:=(Zi hm).symm
 refine Qp (a0,a1,a2,a4) hE [4,3,0] Z (asK [0] Z) Z
 replace hm:=Q1y hm b7
 refine Q5 [4,3,0] (S':=V3 ..) Z (Qs (Q4 (Q6 (Q2 (wP Z (Q3 (Q4 (Q6 ?_))))))))
 obtain ⟨bH,hm,hLj_3⟩:=Q7 hm
 refine Q18 (σ:=Nat) (fun a3=>bH = a3) (fun a3=>[(4,.int .i64 ((a5:Nat):Int)),(3,.slice a1 a4 a2),(0,.pointer (some ⟨aS,0,none⟩)),(5,.int .i64 ((a3:Nat):Int))]) (fun a3=>[tF]) (fun a3=>[.own 45 2 Q9 (.slice a1 a4 a2) a0,.blk aS [.slice aH aM aI,.slice aJ aN aK,.slice aO aP aQ,.slice (some ⟨b4,0,none⟩) a7 a8] 70,.own 213 2 QR (.slice aH aM aI) l0,.own 38 5 QM (.slice aJ aN aK) l1,.own 45 2 Q9 (.slice aO aP aQ) l2,.own 4 1 QW (.slice (some ⟨b4,0,none⟩) a7 a8) l3]) ?_ ?_
 refine Qm (Q1f (σ:=Nat × Nat) (fun (aZ,a6)=>Q1o (Q2M N a0 l2 a5 l0 l1) aZ a6 = some bH) (fun (aZ,a6)=>aZ) (fun (aZ,a6)=>[(5,.int .i64 ((a6:Nat):Int)),(4,.int .i64 ((a5:Nat):Int)),(3,.slice a1 a4 a2),(0,.pointer (some ⟨aS,0,none⟩))]) (fun (aZ,a6)=>[tF]) (fun (aZ,a6)=>[.own 45 2 Q9 (.slice a1 a4 a2) a0,.blk aS [.slice aH aM aI,.slice aJ aN aK,.slice aO aP aQ,.slice (some ⟨b4,0,none⟩) a7 a8] 70,.own 213 2 QR (.slice aH aM aI) l0,.own 38 5 QM (.slice aJ aN aK) l1,.own 45 2 Q9 (.slice aO aP aQ) l2,.own 4 1 QW (.slice (some ⟨b4,0,none⟩) a7 a8) l3]) (N,0) hm [5,4,3,0] Z (asK [0] Z) Z (fun s_ hm=>?_))
 obtain ⟨aZ,a6⟩:=s_
 try dsimp only at hm ⊢
 obtain ⟨cG,cH,bV,hq,hLu2⟩:=Q1d hm
 clear hm
 subst bV
 replace hm:=hq
 clear hq
 unfold Q2M at hm
 try dsimp only at hm
 refine Q6 (Q6 ?_)
 obtain ⟨bW,hm,hLj_4⟩:=Q7 hm
 refine Q18 (σ:=Bool) (fun aL=>bW = aL) (fun aL=>[(5,.int .i64 ((a6:Nat):Int)),(4,.int .i64 ((a5:Nat):Int)),(3,.slice a1 a4 a2),(0,.pointer (some ⟨aS,0,none⟩)),(45,.bool aL)]) (fun aL=>[tF]) (fun aL=>[.own 45 2 Q9 (.slice a1 a4 a2) a0,.blk aS [.slice aH aM aI,.slice aJ aN aK,.slice aO aP aQ,.slice (some ⟨b4,0,none⟩) a7 a8] 70,.own 213 2 QR (.slice aH aM aI) l0,.own 38 5 QM (.slice aJ aN aK) l1,.own 45 2 Q9 (.slice aO aP aQ) l2,.own 4 1 QW (.slice (some ⟨b4,0,none⟩) a7 a8) l3]) ?_ ?_
 rcases Q32 hm with ⟨b8,hm⟩ | ⟨b8,hm⟩
 ·
  obtain ⟨aW,b9,hm⟩:=Q7 hm
  obtain ⟨aX,bA,hm⟩:=Q7 hm
  obtain ⟨c9,bI,hm⟩:=Q7 hm
  refine QV [0,1,2,3,4,5,6,7,8,9,10,11,13,14,15,16,17,18,21] Z Z (fun hok=>(xP hok 0 Z (xP hok 1 Z (Q6D 0 Z (fun bB _=>(Q4r hok 2 Z Z Z Zq Z Z Z QB (Q1e (d:=26) (v':=.int .i64 ((a0.length:Nat):Int)) (S':=V6 ..) Z Z (Q4A bB) (xP hok 3 Z (Q1e (d:=27) (v':=.bool (decide (a6 < a0.length))) (S':=V7 ..) Z Z (Q3f (a:=a6) (b:=a0.length)) (xP hok 4 Z (Q1e (d:=28) (v':=.bool true) (S':=V8 ..) Z Z (Q16 b8) (xP hok 5 Z (xP hok 6 Z (Ql hok 7 Z Z Z Zq Z Z Z tF_70_0 (Qq hok 8 1 0 Z Z Z Zq Z Z Z Z (cs:=[_,_]) Z Q6s Q7a Z Z ?_)))))))))))))))
  refine xP hok 9 Z (xP hok 10 Z (Q1F hok 11 0 a6 Z Z Z Zq Z Z Z Z Z Z (Qw b9) QB Qe (fun cI bX=>?_)))
  subst bX
  refine xP hok 13 Z (xP hok 14 Z (Ql hok 15 Z Z Z Zq Z Z Z Q7O (Qq hok 16 1 2 Z Z Z Zq Z Z Z Z (cs:=[_]) Z Q1X Q3D Z Z (xP hok 17 Z (Q1F hok 18 4 a5 Z Z Z Zq Z Z Z Z Z Z (Qw bA) QB Qe (fun cJ bY=>?_))))))
  subst bY
  refine Q1W hok 12 19 Z Z Z Z Z Z ?_ ?_
  rotate_left
  focus
   refine Qk Qa 4 a5 0 Z Z Z Zq Z Z Z bA Qe QS (v:=fun aT=>.agg #[.int .i64 (aX.rule),.slice aT.1 aX.ids.length aT.2]) (fun _=>Z) (fun _=>Z) (fun aT _=>(Q3 (Qy [1] [1,1] Z Z (xS hok 12 Z (Qk Qa 0 a6 0 Z Z Z Zq Z Z Z b9 Qe QS (v:=fun aU=>.agg #[.int .i64 (aW.rule),.slice aU.1 aW.ids.length aU.2]) (fun _=>Z) (fun _=>Z) (fun aU _=>(Q3 (Qy [1,2] [1,1] Z Z (xS hok 20 Z (QK 2 Z (fun b0 _=>?_)))))))))))
   subst b0
   refine QK 3 Z (fun b1 _=>?_)
   subst b1
   refine Q2k [] [0,1,2,3,4,5] [2,3] Z Z Z Zq Z Z fn_34 Z (Q5w N aH aI l0 aJ aK l1 aW.rule aU.1 aU.2 aW.ids aX.rule aT.1 aT.2 aX.ids _ bI) (fun F w hφ hh=>(Qh (Q1n (hh _ (Qu (k:=0) Z))) (Qh (Q1n (hh _ (Qu (k:=1) Z))) (Qh (hφ _ (Qu (k:=0) Z)) (Qh (hφ _ (Qu (k:=1) Z)) (Qh (hφ _ (Qu (k:=2) Z)) Qv)))))) (fun _ _ _ hR=>by obtain ⟨rfl,rfl,rfl⟩:=hR; exact ⟨Z,(fun _ h=>Q1O h)⟩) Z Z (H':=V6 ..) Z ?_
  rotate_right
  focus
   refine Qk Qa 0 a6 0 Z Z Z Zq Z Z Z b9 Qe QS (v:=fun aU=>.agg #[.int .i64 (aW.rule),.slice aU.1 aW.ids.length aU.2]) (fun _=>Z) (fun _=>Z) (fun aU _=>(Q3 (Qy [1] [1,1] Z Z (xS hok 19 Z (Qk Qa 4 a5 0 Z Z Z Zq Z Z Z bA Qe QS (v:=fun aT=>.agg #[.int .i64 (aX.rule),.slice aT.1 aX.ids.length aT.2]) (fun _=>Z) (fun _=>Z) (fun aT _=>(Q3 (Qy [1,2] [1,1] Z Z (xS hok 20 Z (QK 2 Z (fun b0 _=>?_)))))))))))
   subst b0
   refine QK 3 Z (fun b1 _=>?_)
   subst b1
   refine Q2k [] [0,1,2,3,4,5] [2,3] Z Z Z Zq Z Z fn_34 Z (Q5w N aH aI l0 aJ aK l1 aW.rule aU.1 aU.2 aW.ids aX.rule aT.1 aT.2 aX.ids _ bI) (fun F w hφ hh=>(Qh (Q1n (hh _ (Qu (k:=0) Z))) (Qh (Q1n (hh _ (Qu (k:=1) Z))) (Qh (hφ _ (Qu (k:=1) Z)) (Qh (hφ _ (Qu (k:=0) Z)) (Qh (hφ _ (Qu (k:=2) Z)) Qv)))))) (fun _ _ _ hR=>by obtain ⟨rfl,rfl,rfl⟩:=hR; exact ⟨Z,(fun _ h=>Q1O h)⟩) Z Z (H':=V6 ..) Z ?_
  all_goals
   rintro _ _ _ ⟨rfl,rfl,rfl⟩
   refine Q3 (Qy [0,1,2] [1] Z Z (xP hok 21 Z (QL hok Z ?_)))
   have hE:=(Zi hm).symm
   refine Qp c9 hE [5,4,3,0,45] Z (asK [2] Z) Z
 ·
  refine QV [0,1,2,3,4,5,6,7,8,9,10,11,13,14,15,16,17,18,21] Z Z (fun hok=>(xP hok 0 Z (xP hok 1 Z (Q6D 0 Z (fun bB _=>(Q4r hok 2 Z Z Z Zq Z Z Z QB (Q1e (d:=26) (v':=.int .i64 ((a0.length:Nat):Int)) (S':=V6 ..) Z Z (Q4A bB) (xP hok 3 Z (Q1e (d:=27) (v':=.bool (decide (a6 < a0.length))) (S':=V7 ..) Z Z (Q3f (a:=a6) (b:=a0.length)) (xP hok 4 Z (Q1e (d:=28) (v':=.bool false) (S':=V8 ..) Z Z (Q16 b8) (xO hok 5 Z (xO hok 6 Z (xO hok 7 Z (xO hok 8 Z ?_)))))))))))))))
  refine xO hok 9 Z (xO hok 10 Z (xO hok 11 Z (xO hok 13 Z (xO hok 14 Z (xO hok 15 Z (xO hok 16 Z (xO hok 17 Z (xO hok 18 Z ?_))))))))
  refine Q1W hok 12 19 Z Z Z Z Z Z ?_ ?_
  rotate_left
  focus
   refine wO Z (Q3 (Qy [0] [] Z Z (xS hok 12 Z ?_)))
  rotate_right
  focus
   refine wO Z (Q3 (Qy [0] [] Z Z (xS hok 19 Z ?_)))
  all_goals
   refine wO Z (Q3 (Qy [0] [] Z Z (xS hok 20 Z (wO Z (Q3 (Qy [0] [] Z Z (xP hok 21 Z (QL hok Z ?_))))))))
   have hE:=(Zi hm).symm
   refine Qp false hE [5,4,3,0,45] Z (asK [0] Z) Z
 rintro aL hE
 try dsimp only
 have hm:=hLj_4
 try rw [hE] at hm
 refine QA Z (fun bC=>?_) (fun bC=>?_)
 replace hm:=Q1z hm bC
 refine Q5 [5,4,3,0] (S':=V4 ..) Z (Qs (Q4 (Qm (Q2 (wP Z (wP Z ?_))))))
 obtain ⟨bZ,hm⟩:=Qd hm
 refine Qz (d:=47) (v':=.int .i64 ((a6 + 1:Nat):Int)) (S':=V5 ..) Z Z (Q1i (a:=a6) (b:=1) bZ) (QI (S':=V5 ..) Z Z Z Z Z (Q3 (Qj ?_)))
 have hE:=(Zi hm).symm
 replace hE:=Q14 hLu2 hE
 refine Q1a (_,a6 + 1) (Nat.lt_succ_self _) hE [5,4,3,0] Z (asK [0] Z) Z
 replace hm:=Q1y hm bC
 refine Q5 [5,4,3,0] (S':=V4 ..) Z (Q19 (Qc (Qc (Qt ?_))))
 have hE:=(Zi hm).symm
 replace hE:=QO hLu2 hE
 refine Qp a6 hE [4,3,0,5] Z (asK [0] Z) Z
 rintro a3 hE
 try dsimp only
 have hm:=hLj_3
 try rw [hE] at hm
 refine Q6 (Q2 (QE Z Z Z Zq Z QB Qe Q42 Z (zs:=[]) (by kernel_rfl) Z (out:=[]) Z (fun c0=>(wP Z (wP Z ?_)))))
 obtain ⟨bJ,hm⟩:=Qd hm
 refine Q8R 1 Z (fun bO bD=>(Q7D Z Z Z Zq Z Z Z Z QB Qe (Nat.le_trans bJ (by rw [← bD.2]; exact bD.1)) bO (QK 1 Z (fun b5 _=>?_))))
 subst b5
 refine Q6B 1 Z (H':=V6 ..) Z (Q4Q (.sli 2 Q9 a1 a2 a0) (fun F w hφ=>Q1n (hφ _ (Qu (k:=0) Z))) (Q4Q (.sli 2 Q9 a1 a2 (a0.take a3)) (fun _ _ hφ=>view_to (hφ _ (Qu (k:=0) Z)) a3) (Q4F 0 (v':=.slice a1 ((a0.take a3).length) a2) Z (take_slice bJ) (Q3V (sz:=2) (m:=0) Qb.pair [] 0 Z (fun F w hφ=>Z) Z (by decide) (H':=V6 ..) Z (Q2x [Q2j Qb [] none,_,_,_,_,_,_] (fun _ h=>h.bagNil Qb) (Q2x [Q1l Qb 45 2 (.slice (some ⟨c0,0,none⟩) 0 0) ([] : List Q1),_,_,_,_,_] (fun _ h=>h.treeIn 1 0 Z Z Z Z) (Q2x [.own 45 2 Q9 (.slice (some ⟨c0,0,none⟩) 0 0) ([] : List Q1),_,_,_,_,_] (fun _ h=>h.letgo Q4B 0 Z) ?_)))))))
 obtain ⟨bK,hm⟩:=Qd hm
 refine Q83 0 0 Z Z Z Zq Z Z Z Z Z QB Q7P Z Z (Nat.le_trans bK (by decide)) (Nat.le_trans (Nat.mul_le_mul_right _ bK) (by decide)) (H2:=fun c1 c2=>[.own 45 2 Q9 (.slice c1 ((([] : List Q1) ++ (a0.take a3)).length) c2) (([] : List Q1) ++ (a0.take a3)),_,_,_,_,_]) (fun _ _=>Z) (fun c1 c2=>(wP Z (Q3 (Q4 (Q5 [6,4,3,0,5] (S':=V5 ..) Z (Q6 (Q2 (wP Z (wP Z (wP Z (wF Z Q7O (wD 1 2 Z Q1X Q3D Z (wP Z ?_)))))))))))))
 obtain ⟨aV,bL,hm⟩:=Q7 hm
 refine Q2E 4 a5 Z Z Z Zq Z Z Z Z Z (Qw bL) QB Qe (fun cK c3=>?_)
 subst c3
 refine Qk Qa 4 a5 0 Z Z Z Zq Z Z Z bL Qe QS (v:=fun b2=>.agg #[.int .i64 (aV.rule),.slice b2.1 aV.ids.length b2.2]) (fun _=>Z) (fun _=>Z) (fun b2 _=>(QE Z Z Z Zq Z QB Qe Q42 Z (zs:=[.int .i64 0,V1]) (by kernel_rfl) Z (out:=[_,_]) Z (fun cL=>?_)))
 obtain ⟨bM,hm⟩:=Qd hm
 refine Q2w [aV] 1 0 Z Z Z Zq Z Z Z Z Z (fun F w hφ=>⟨[.int .i64 (aV.rule),.slice b2.1 aV.ids.length b2.2],[],Z,Z,⟨(b2.1,b2.2),Z,(Qh (hφ _ (Qu (k:=0) Z)) Qv)⟩,Z⟩) QB Q7P Z Z (Nat.le_trans bM (by decide)) (Nat.le_trans (Nat.mul_le_mul_right _ bM) (by decide)) (H2:=fun c4 c5=>[_,.own 45 2 Q9 (.slice c4 (((([] : List Q1) ++ (a0.take a3)) ++ [aV]).length) c5) ((([] : List Q1) ++ (a0.take a3)) ++ [aV]),_,_,_,_,_]) (fun _ _=>Z) (fun c4 c5=>(Q3E 0 Z (H':=V6 ..) Z (QI (S':=V14 ..) Z Z Z Z Z (Q3 (Q4 (Q5 [6,4,3,0,5] (S':=V5 ..) Z (Q2 (wP Z (wP Z (wP Z ?_))))))))))
 obtain ⟨c6,hm⟩:=Qd hm
 refine wl_sliFrom 2 Z Z Z Zq Z Z Z Z Z QB Qe c6 (fun cM=>?_)
 obtain ⟨bN,hm⟩:=Qd hm
 refine Q83 0 0 Z Z Z Zq Z Z Z Z Z QB Q7P Z Z (Nat.le_trans bN (by decide)) (Nat.le_trans (Nat.mul_le_mul_right _ bN) (by decide)) (H2:=fun bP bQ=>[.own 45 2 Q9 (.slice bP ((((([] : List Q1) ++ (a0.take a3)) ++ [aV]) ++ (a0.drop a3)).length) bQ) (((([] : List Q1) ++ (a0.take a3)) ++ [aV]) ++ (a0.drop a3)),_,_,_,_,_]) (fun _ _=>Z) (fun bP bQ=>(QI (S':=V9 ..) Z Z Z Z Z (Q3 (Qj ?_))))
 have hE:=(Zi hm).symm
 refine Qp ((((([] : List Q1) ++ (a0.take a3)) ++ [aV]) ++ (a0.drop a3)),bP,bQ,((((([] : List Q1) ++ (a0.take a3)) ++ [aV]) ++ (a0.drop a3)).length)) hE [4,3,0] Z (asK [5] Z) Z
 rintro ⟨aC,aD,aE,aF⟩ hE
 try dsimp only
 have hm:=hLj_2
 try rw [hE] at hm
 refine Q2 (wP Z (wP Z ?_))
 obtain ⟨c7,hm⟩:=Qd hm
 refine Qz (d:=15) (v':=.int .i64 ((a5 + 1:Nat):Int)) (S':=V4 ..) Z Z (Q1i (a:=a5) (b:=1) c7) (QI (S':=V4 ..) Z Z Z Z Z (Q3 ?_))
 have hE:=(Zi hm).symm
 replace hE:=Q14 hLu1 hE
 refine Q1a (_,a5 + 1,aC,aD,aE,aF) (Nat.lt_succ_self _) hE [4,3,0] Z (asK [0] Z) Z
 replace hm:=Q1y hm b6
 refine Q5 [3] (S':=[_]) Z (Q19 (Qc (Qc (Qt ?_))))
 have hE:=(Zi hm).symm
 replace hE:=QO hLu1 hE
 refine Qp (a0,a1,a2,a4) hE [3] Z (asK [0] Z) Z
 rintro ⟨aG,a9,aA,aB⟩ hE
 try dsimp only
 have hm:=hLj_1
 try rw [hE] at hm
 refine Q6 (Q2 (wP Z (wP Z (Q3 (Q4 (Q5 [2] (S':=[_]) Z (QP ?_)))))))
 have hE:=(Zi hm).symm
 replace hE:=hE.symm
 subst hE
 refine QH (Hr:=V6 ..) [0,1,2,3,4,5] Tryz.results16 (QD Z) ⟨a9,aA,aB,Z,Z,Z⟩ (asK [] Z) Z Z (.inl Z)
end Go.Proofs.YtgangmegcejllaaGreatDoor
