import Derived.Test.YtgangmegcejllaaGreatDoorXW4
namespace Go.Proofs.YtgangmegcejllaaGreatDoor
open Go.RowKit
set_option maxRecDepth 100000
set_option maxHeartbeats 4000000
theorem Q8L (N:Nat) (rc:Int → Int → Int → ByteArray → Int → Int → (List Q12) → Option (Int × Int × Int × ByteArray × Int × Int × (List Q12))) (ih : ∀ (a0:Int) (a1:Int) (a2:Int) (a3:ByteArray) (a4:Int) (a5:Int) (a6:OA) (a7:Nat) (l6:List Q12) (o0:Int) (o1:Int) (o2:Int) (o3:ByteArray) (o4:Int) (o5:Int) (o8:List Q12),rc a0 a1 a2 a3 a4 a5 l6 = some (o0,o1,o2,o3,o4,o5,o8) → Q1R Tryz.prog 194 [.agg #[.int .u8 a0,.int .u8 a1,.int .i64 a2,.string a3,.int .i64 a4,.int .u8 a5,.slice a6 l6.length a7]] [.sli 7 Q1C a6 a7 l6] [] (fun v Φr Hr=>∃ (o6:OA) (o7:Nat) (o9:Nat),v = .agg #[.int .u8 o0,.int .u8 o1,.int .i64 o2,.string o3,.int .i64 o4,.int .u8 o5,.slice o6 o9 o7] ∧ Φr = [] ∧ Hr = [.own 194 7 Q1C (.slice o6 o9 o7) o8])) (a0:Int) (a1:Int) (a2:Int) (a3:ByteArray) (a4:Int) (a5:Int) (a6:OA) (a7:Nat) (l6:List Q12) (o0:Int) (o1:Int) (o2:Int) (o3:ByteArray) (o4:Int) (o5:Int) (o8:List Q12) (hm:Q6p N rc a0 a1 a2 a3 a4 a5 l6 = some (o0,o1,o2,o3,o4,o5,o8)):Q1R Tryz.prog 194 [.agg #[.int .u8 a0,.int .u8 a1,.int .i64 a2,.string a3,.int .i64 a4,.int .u8 a5,.slice a6 l6.length a7]] [.sli 7 Q1C a6 a7 l6] [] (fun v Φr Hr=>∃ (o6:OA) (o7:Nat) (o9:Nat),v = .agg #[.int .u8 o0,.int .u8 o1,.int .i64 o2,.string o3,.int .i64 o4,.int .u8 o5,.slice o6 o9 o7] ∧ Φr = [] ∧ Hr = [.own 194 7 Q1C (.slice o6 o9 o7) o8]):=by
 unfold Q6p at hm
 refine QZ Tryz.func194 Z Tryz.ntmps194 Z (S:=[_]) Z (fun C=>(Q6 (Q2 (wB Z (fun g1=>(Q25 Z Z Z Zq Z tZ_194 Z (fun g2=>(Q3 (Q4 (Q5 [2,1] (S':=[_,_]) Z (Q6 (Q2 (wF Z tF_194_4 (wD 1 6 Z tS_190 tA_190 Z ?_))))))))))))))
 obtain ⟨v5,aS,hm⟩:=Q7 hm
 refine wC [] [0,1] Z fn_195 Z (Q8n N rc ih a6 a7 l6 _ aS) (asK [0] Z) Z (H':=[_,_]) Z ?_
 rintro _ _ _ ⟨aP,aQ,aR,rfl,rfl,rfl⟩
 refine wF Z tF_194_4 (wS 2 6 Z tS_190 (all':=V7 ..) Z (H':=V3 ..) Z (Q3 (Q4 (Q5 [2,1] (S':=[_,_]) Z (Q6 (Q2 (Q1V 2 0 Z Z Z Zq Z Z Z (cs:=V7 ..) Z Q7A tA_194 Z Z (wS 1 0 Z Q7A (all':=V7 ..) Z (H':=V3 ..) Z (Q3 (Q4 (Q5 [2] (S':=[_]) Z (QP ?_))))))))))))
 have hE:=(Zi hm).symm
 obtain ⟨hE0,hF1⟩:=Prod.mk.inj hE
 obtain ⟨hE1,hF2⟩:=Prod.mk.inj hF1
 obtain ⟨hE2,hF3⟩:=Prod.mk.inj hF2
 obtain ⟨hE3,hF4⟩:=Prod.mk.inj hF3
 obtain ⟨hE4,hF5⟩:=Prod.mk.inj hF4
 obtain ⟨hE5,hE6⟩:=Prod.mk.inj hF5
 clear hE hF1 hF2 hF3 hF4 hF5
 replace hE0:=hE0.symm
 subst hE0
 replace hE1:=hE1.symm
 subst hE1
 replace hE2:=hE2.symm
 subst hE2
 replace hE3:=hE3.symm
 subst hE3
 replace hE4:=hE4.symm
 subst hE4
 replace hE5:=hE5.symm
 subst hE5
 replace hE6:=hE6.symm
 subst hE6
 refine QH (Hr:=[_]) [0] Tryz.results194 (Q5D 1 Z Z Q7A tA_194 Z Z) ⟨aP,aQ,aR,Z,Z,Z⟩ (asK [] Z) Z Z (.inl Z)
theorem Q7s : ∀ (N:Nat),∀ (a0:Int) (a1:Int) (a2:Int) (a3:ByteArray) (a4:Int) (a5:Int) (qp0:OA) (qc1:Nat) (l6:List Q12) (o0:Int) (o1:Int) (o2:Int) (o3:ByteArray) (o4:Int) (o5:Int) (o8:List Q12),Q5a N a0 a1 a2 a3 a4 a5 l6 = some (o0,o1,o2,o3,o4,o5,o8) → Q1R Tryz.prog 194 [.agg #[.int .u8 a0,.int .u8 a1,.int .i64 a2,.string a3,.int .i64 a4,.int .u8 a5,.slice qp0 l6.length qc1]] [.sli 7 Q1C qp0 qc1 l6] [] (fun v Φr Hr=>∃ (o6:OA) (o7:Nat) (o9:Nat),v = .agg #[.int .u8 o0,.int .u8 o1,.int .i64 o2,.string o3,.int .i64 o4,.int .u8 o5,.slice o6 o9 o7] ∧ Φr = [] ∧ Hr = [.own 194 7 Q1C (.slice o6 o9 o7) o8]):=by
 intro N
 induction N with
 | zero=>intro a0 a1 a2 a3 a4 a5 qp0 qc1 l6 o0 o1 o2 o3 o4 o5 o8 hm; cases hm
 | succ N ih=>intro a0 a1 a2 a3 a4 a5 qp0 qc1 l6 o0 o1 o2 o3 o4 o5 o8 hm; exact Q8L N (Q5a N) ih a0 a1 a2 a3 a4 a5 qp0 qc1 l6 o0 o1 o2 o3 o4 o5 o8 hm
theorem Q9f (N:Nat) (a0:Int) (a1:Int) (a2:OA) (a9:Nat) (l2:List ArgD) (a3:Int) (a4:Int) (a5:Int) (a6:ByteArray) (a7:Int) (a8:Int) (aA:OA) (aB:Nat) (l9:List Q12) (o2:Int) (o3:Int) (o4:Int) (o5:ByteArray) (o6:Int) (o7:Int) (aC:List Q12) (hm:Q6H N a0 a1 l2 a3 a4 a5 a6 a7 a8 l9 = some (o2,o3,o4,o5,o6,o7,aC)):Q1R Tryz.prog 178 [.agg #[.int .u8 a0,.int .i64 a1,.slice a2 l2.length a9,.int .u8 a3,.int .u8 a4,.int .i64 a5,.string a6,.int .i64 a7,.int .u8 a8,.slice aA l9.length aB]] [.sli 5 Q9v a2 a9 l2,.sli 7 Q1C aA aB l9] [] (fun v Φr Hr=>∃ (o0:OA) (o1:Nat) (o8:OA) (o9:Nat) (aD:Nat),v = .agg #[.int .u8 a0,.int .i64 a1,.slice o0 (l2).length o1,.int .u8 o2,.int .u8 o3,.int .i64 o4,.string o5,.int .i64 o6,.int .u8 o7,.slice o8 aD o9] ∧ Φr = [] ∧ Hr = [.own 200 5 Q9v (.slice o0 (l2).length o1) l2,.own 194 7 Q1C (.slice o8 aD o9) aC]):=by
 unfold Q6H at hm
 refine QZ Tryz.func178 Z Tryz.ntmps178 Z (S:=[_]) Z (fun C=>(Q6 (Q2 (wB Z (fun g1=>(Q25 Z Z Z Zq Z tZ_204 Z (fun g2=>(Q3 (Q4 (Q5 [2,1] (S':=[_,_]) Z (Q6 (Q2 (wF Z tF_204_2 (wD 1 2 Z tS_197 tA_197 Z ?_))))))))))))))
 obtain ⟨_,aS,hm⟩:=Q7 hm
 try dsimp only at hm
 refine wC [] [0,1] Z fn_193 Z (Q9e N a2 a9 l2 aS) (asK [0] Z) Z (H':=[_,_]) Z ?_
 rintro _ _ _ ⟨aE,aF,rfl,rfl,rfl⟩
 refine wF Z tF_204_2 (wS 2 2 Z tS_197 (all':=V10 ..) Z (H':=V3 ..) Z (Q3 (Q4 (Q5 [2,1] (S':=[_,_]) Z (Q6 (Q2 (wF Z tF_204_3 (Q1V 2 3 Z Z Z Zq Z Z Z (cs:=V7 ..) Z Q7A tA_194 Z Z ?_))))))))
 obtain ⟨⟨b4,b5,b6,b7,b8,b9,bA⟩,aT,hm⟩:=Q7 hm
 try dsimp only at hm
 refine wC [] [0,1,2] Z fn_194 Z (Q7s N a3 a4 a5 a6 a7 a8 aA aB l9 _ _ _ _ _ _ _ aT) (asK [1] Z) Z (H':=V3 ..) Z ?_
 rintro _ _ _ ⟨aG,aH,aI,rfl,rfl,rfl⟩
 refine wF Z tF_204_3 (wS 3 3 Z Q7A (all':=V10 ..) Z (H':=V4 ..) Z (Q3 (Q4 (Q5 [2,1] (S':=[_,_]) Z (Q6 (Q2 (Q1V 3 0 Z Z Z Zq Z Z Z (cs:=V10 ..) Z tS_204 tA_204 Z Z (wS 2 0 Z tS_204 (all':=V10 ..) Z (H':=V4 ..) Z (Q3 (Q4 (Q5 [2] (S':=[_]) Z (QP ?_))))))))))))
 have hE:=(Zi hm).symm
 obtain ⟨hE0,hF1⟩:=Prod.mk.inj hE
 obtain ⟨hE1,hF2⟩:=Prod.mk.inj hF1
 obtain ⟨hE2,hF3⟩:=Prod.mk.inj hF2
 obtain ⟨hE3,hF4⟩:=Prod.mk.inj hF3
 obtain ⟨hE4,hF5⟩:=Prod.mk.inj hF4
 obtain ⟨hE5,hE6⟩:=Prod.mk.inj hF5
 clear hE hF1 hF2 hF3 hF4 hF5
 replace hE0:=hE0.symm
 subst hE0
 replace hE1:=hE1.symm
 subst hE1
 replace hE2:=hE2.symm
 subst hE2
 replace hE3:=hE3.symm
 subst hE3
 replace hE4:=hE4.symm
 subst hE4
 replace hE5:=hE5.symm
 subst hE5
 replace hE6:=hE6.symm
 subst hE6
 refine QH (Hr:=[_,_]) [1,0] Tryz.results178 (Q5D 2 Z Z tS_204 tA_204 Z Z) ⟨aE,aF,aG,aH,aI,Z,Z,Z⟩ (asK [] Z) Z Z (.inl Z)
theorem Q8V (N:Nat) (aP:OA) (aQ:Nat) (l0:List Q2X) (o2:List Q2X) (hm:Q4V N l0 = some o2):Q1R Tryz.prog 158 [.slice aP l0.length aQ] [.sli 10 Q5g aP aQ l0] [] (fun v Φr Hr=>∃ (o0:OA) (o1:Nat) (o3:Nat),v = .slice o0 o3 o1 ∧ Φr = [] ∧ Hr = [.own 204 10 Q5g (.slice o0 o3 o1) o2]):=by
 unfold Q4V at hm
 refine QZ Tryz.func158 Z Tryz.ntmps158 Z (S:=[_]) Z (fun C=>(Q6 (Q2 (wP Z (Q3 (Q4 (Q5 [0] (S':=[_]) Z (Q6 (Q2 (wP Z (Q3 (Q4 (Q6 ?_)))))))))))))
 obtain ⟨aT,hm,hLj_1⟩:=Q7 hm
 refine Q18 (σ:=(List Q2X) × OA × Nat × Nat) (fun (a8,a2,a3,a4)=>aT = a8) (fun (a8,a2,a3,a4)=>[(3,.slice a2 a4 a3)]) (fun (a8,a2,a3,a4)=>[]) (fun (a8,a2,a3,a4)=>[.own 204 10 Q5g (.slice a2 a4 a3) a8]) ?_ ?_
 refine Q6 (Q2 (wP Z (Q3 (Q4 (Qm (Q52 204 10 Q5g (Q1f (σ:=Nat × Nat × (List Q2X) × OA × Nat × Nat) (fun (aL,a9,a1,a5,a6,a7)=>Q1o (Q59 N l0) aL (a9,a1) = some aT) (fun (aL,a9,a1,a5,a6,a7)=>aL) (fun (aL,a9,a1,a5,a6,a7)=>[(4,.int .i64 ((a9:Nat):Int)),(3,.slice a5 a7 a6),(0,.slice aP l0.length aQ)]) (fun (aL,a9,a1,a5,a6,a7)=>[.sli 10 Q5g aP aQ l0]) (fun (aL,a9,a1,a5,a6,a7)=>[.own 204 10 Q5g (.slice a5 a7 a6) a1]) (N,0,[],none,0,0) hm [4,3,0] Z (asK [0] Z) Z (fun s_ hm=>?_))))))))
 obtain ⟨aL,a9,a1,a5,a6,a7⟩:=s_
 try dsimp only at hm ⊢
 obtain ⟨bA,bB,aY,hq,hLu1⟩:=Q1d hm
 clear hm
 subst aY
 replace hm:=hq
 clear hq
 unfold Q59 at hm
 try dsimp only at hm
 refine Q6 (Q6 (Q2 (wP Z (wP Z (wN Z tE_35 (wP Z (Qz (d:=9) (v':=.bool (decide (a9 < l0.length))) (S':=V6 ..) Z Z (Q3f (a:=a9) (b:=l0.length)) (Q3 (Q4 (Q5 [9,4,3,0] (S':=V4 ..) Z ?_))))))))))
 refine QA Z (fun aV=>?_) (fun aV=>?_)
 replace hm:=Q1z hm aV
 refine Q5 [4,3,0] (S':=V3 ..) Z (Qs (Q4 (Q6 (Qm (Q6 (Q2 (wP Z (wP Z ?_))))))))
 obtain ⟨a0,aZ,hm⟩:=Q7 hm
 refine Q53 0 a9 Z Z Z Zq Z Z Z Z Z aZ tE_35 tS_204 (fun bC bD b9 b3=>(Q6m R_Api_CondD_opens 1 Z (fun aR b0 _=>?_)))
 subst b0
 refine Q6l 2 0 Z Z Z Zq Z Z Z (cs:=V10 ..) Z tS_204 tA_204 Z Z ?_
 obtain ⟨⟨aA,aB,aC,aD,aE,aF,aG⟩,b1,hm⟩:=Q7 hm
 try dsimp only at hm
 refine wC [] [0] Z fn_178 Z (Q9f N a0.kind a0.type aR.1.1 aR.1.2 a0.args a0.test.kind a0.test.value.k a0.test.value.n a0.test.value.s a0.test.var a0.test.op aR.2.1 aR.2.2 a0.test.kids _ _ _ _ _ _ _ b1) (asK [0,1] Z) Z (H':=[_]) Z ?_
 rintro _ _ _ ⟨aH,aI,aJ,aK,aM,rfl,rfl,rfl⟩
 refine Q25 Z Z Z Zq Z tZ_204 Z (fun g5=>(wS 0 0 Z tS_204 (all':=V10 ..) Z (H':=V4 ..) Z (Q3 (Q4 (Q5 [5,4,3,0] (S':=V4 ..) Z (Q2 (wP Z (Q1V 0 0 Z Z Z Zq Z Z Z (cs:=V10 ..) Z tS_204 tA_204 Z Z (QE Z Z Z Zq Z tE_35 tS_204 tZ_204 Z (zs:=[.int .u8 0,.int .i64 0,V1,.int .u8 0,.int .u8 0,.int .i64 0,.string ((⟨#[]⟩ : ByteArray)),.int .i64 0,.int .u8 0,V1]) (by kernel_rfl) Z (out:=V10 ..) Z (fun b4=>(QK 2 Z (fun aN _=>(Q4F 1 (v':=.agg #[.int .u8 (a0.kind),.int .i64 (a0.type),.slice aH a0.args.length aI,.int .u8 aA,.int .u8 aB,.int .i64 aC,.string aD,.int .i64 aE,.int .u8 aF,.slice aJ aM aK]) Z (by first | rfl | rw [aN]) (Q28 0 (φ':=.blk b4 [.int .u8 (a0.kind),.int .i64 (a0.type),.slice aH a0.args.length aI,.int .u8 aA,.int .u8 aB,.int .i64 aC,.string aD,.int .i64 aE,.int .u8 aF,.slice aJ aM aK] 204) Z (by first | rfl | rw [aN]) (H':=V5 ..) Z (Q28 1 (φ':=.blk g5 [.int .u8 (a0.kind),.int .i64 (a0.type),.slice aH a0.args.length aI,.int .u8 aA,.int .u8 aB,.int .i64 aC,.string aD,.int .i64 aE,.int .u8 aF,.slice aJ aM aK] 204) Z (by first | rfl | rw [aN]) (H':=V5 ..) Z (Q28 2 (φ':=.own 200 5 Q9v (.slice aH a0.args.length aI) a0.args) Z (by first | rfl | rw [aN]) (H':=V5 ..) Z ?_))))))))))))))))
 refine Q6B 2 Z (H':=V4 ..) Z (Q4Q (.sli 5 Q9v aH aI a0.args) (fun F w hφ=>Q1n (hφ _ (Qu (k:=0) Z))) (QK 2 Z (fun aO _=>?_)))
 subst aO
 refine Q6B 2 Z (H':=V3 ..) Z (Q4Q (.sli 7 Q1C aJ aK aG) (fun F w hφ=>Q1n (hφ _ (Qu (k:=0) Z))) ?_)
 obtain ⟨aU,hm⟩:=Qd hm
 refine Q2w ([(⟨a0.kind,a0.type,a0.args,(⟨aA,(⟨aB,aC,aD⟩ : V),aE,aF,aG⟩ : Q12)⟩ : Q2X)]) 2 0 Z Z Z Zq Z Z Z Z Z (fun F w hφ=>⟨[.int .u8 (a0.kind),.int .i64 (a0.type),.slice aH a0.args.length aI,.int .u8 aA,.int .u8 aB,.int .i64 aC,.string aD,.int .i64 aE,.int .u8 aF,.slice aJ aG.length aK],[],Z,Z,⟨((aH,aI),(aJ,aK)),Z,(Qh (hφ _ (Qu (k:=2) Z)) (Qh (hφ _ (Qu (k:=0) Z)) Qv))⟩,Z⟩) tE_35 tR_204 Z Z (Nat.le_trans aU (by decide)) (Nat.le_trans (Nat.mul_le_mul_right _ aU) (by decide)) (H2:=fun aW aX=>[_,_,.own 204 10 Q5g (.slice aW ((a1 ++ ([(⟨a0.kind,a0.type,a0.args,(⟨aA,(⟨aB,aC,aD⟩ : V),aE,aF,aG⟩ : Q12)⟩ : Q2X)])).length) aX) (a1 ++ ([(⟨a0.kind,a0.type,a0.args,(⟨aA,(⟨aB,aC,aD⟩ : V),aE,aF,aG⟩ : Q12)⟩ : Q2X)]))]) (fun _ _=>Z) (fun aW aX=>(Q3E 0 Z (H':=[_,_]) Z (QI (S':=V7 ..) Z Z Z Z Z (Q3 (Qj (Q4 (Q5 [3,4,0] (S':=V3 ..) Z (Q2 (wP Z (wP Z ?_))))))))))
 obtain ⟨b2,hm⟩:=Qd hm
 refine Qz (d:=11) (v':=.int .i64 ((a9 + 1:Nat):Int)) (S':=V4 ..) Z Z (Q1i (a:=a9) (b:=1) b2) (QI (S':=V4 ..) Z Z Z Z Z (Q3 ?_))
 have hE:=(Zi hm).symm
 replace hE:=Q14 hLu1 hE
 refine Q1m [1] Z (H':=[_]) Z ?_
 refine Q1a (_,a9 + 1,(a1 ++ ([(⟨a0.kind,a0.type,a0.args,(⟨aA,(⟨aB,aC,aD⟩ : V),aE,aF,aG⟩ : Q12)⟩ : Q2X)])),aW,aX,((a1 ++ ([(⟨a0.kind,a0.type,a0.args,(⟨aA,(⟨aB,aC,aD⟩ : V),aE,aF,aG⟩ : Q12)⟩ : Q2X)])).length)) (Nat.lt_succ_self _) hE [4,3,0] Z (asK [8] Z) Z
 replace hm:=Q1y hm aV
 refine Q5 [3] (S':=[_]) Z (Q19 (Qc (Qc (Qt ?_))))
 have hE:=(Zi hm).symm
 replace hE:=QO hLu1 hE
 refine Qp (a1,a5,a6,a7) hE [3] Z (asK [] Z) Z
 rintro ⟨a8,a2,a3,a4⟩ hE
 try dsimp only
 have hm:=hLj_1
 try rw [hE] at hm
 refine Q6 (Q2 (wP Z (wP Z (Q3 (Q4 (Q5 [2] (S':=[_]) Z (QP ?_)))))))
 have hE:=(Zi hm).symm
 replace hE:=hE.symm
 subst hE
 refine QH (Hr:=[_]) [0] Tryz.results158 (QD Z) ⟨a2,a3,a4,Z,Z,Z⟩ (asK [] Z) Z Z (.inl Z)
theorem Q8W (N:Nat) (aL:OA) (aM:Nat) (l0:List Q12) (o2:List Q12) (hm:Q6w N l0 = some o2):Q1R Tryz.prog 195 [.slice aL l0.length aM] [.sli 7 Q1C aL aM l0] [] (fun v Φr Hr=>∃ (o0:OA) (o1:Nat) (o3:Nat),v = .slice o0 o3 o1 ∧ Φr = [] ∧ Hr = [.own 194 7 Q1C (.slice o0 o3 o1) o2]):=by
 unfold Q6w at hm
 refine QZ Tryz.func195 Z Tryz.ntmps195 Z (S:=[_]) Z (fun C=>(Q6 (Q2 (wP Z (Q3 (Q4 (Q5 [0] (S':=[_]) Z (Q6 (Q2 (wP Z (Q3 (Q4 (Q6 ?_)))))))))))))
 obtain ⟨aO,hm,hLj_1⟩:=Q7 hm
 refine Q18 (σ:=(List Q12) × OA × Nat × Nat) (fun (a7,a1,a2,a3)=>aO = a7) (fun (a7,a1,a2,a3)=>[(3,.slice a1 a3 a2)]) (fun (a7,a1,a2,a3)=>[]) (fun (a7,a1,a2,a3)=>[.own 194 7 Q1C (.slice a1 a3 a2) a7]) ?_ ?_
 refine Q6 (Q2 (wP Z (Q3 (Q4 (Qm (Q52 194 7 Q1C (Q1f (σ:=Nat × Nat × (List Q12) × OA × Nat × Nat) (fun (aG,a8,a0,a4,a5,a6)=>Q1o (Q68 N l0) aG (a8,a0) = some aO) (fun (aG,a8,a0,a4,a5,a6)=>aG) (fun (aG,a8,a0,a4,a5,a6)=>[(4,.int .i64 ((a8:Nat):Int)),(3,.slice a4 a6 a5),(0,.slice aL l0.length aM)]) (fun (aG,a8,a0,a4,a5,a6)=>[.sli 7 Q1C aL aM l0]) (fun (aG,a8,a0,a4,a5,a6)=>[.own 194 7 Q1C (.slice a4 a6 a5) a0]) (N,0,[],none,0,0) hm [4,3,0] Z (asK [0] Z) Z (fun s_ hm=>?_))))))))
 obtain ⟨aG,a8,a0,a4,a5,a6⟩:=s_
 try dsimp only at hm ⊢
 obtain ⟨b6,b7,aT,hq,hLu1⟩:=Q1d hm
 clear hm
 subst aT
 replace hm:=hq
 clear hq
 unfold Q68 at hm
 try dsimp only at hm
 refine Q6 (Q6 (Q2 (wP Z (wP Z (wN Z tE_190 (wP Z (Qz (d:=9) (v':=.bool (decide (a8 < l0.length))) (S':=V6 ..) Z Z (Q3f (a:=a8) (b:=l0.length)) (Q3 (Q4 (Q5 [9,4,3,0] (S':=V4 ..) Z ?_))))))))))
 refine QA Z (fun aQ=>?_) (fun aQ=>?_)
 replace hm:=Q1z hm aQ
 refine Q5 [4,3,0] (S':=V3 ..) Z (Qs (Q4 (Q6 (Qm (Q6 (Q2 (wP Z (wP Z ?_))))))))
 obtain ⟨aH,aU,hm⟩:=Q7 hm
 refine Q53 0 a8 Z Z Z Zq Z Z Z Z Z aU tE_190 Q7A (fun b8 b9 b5 aZ=>(Q6m Q91 1 Z (fun aV aW _=>?_)))
 subst aW
 refine Q6l 1 0 Z Z Z Zq Z Z Z (cs:=V7 ..) Z Q7A tA_194 Z Z ?_
 obtain ⟨⟨aA,aB,aC,aD,aE,aF,a9⟩,aX,hm⟩:=Q7 hm
 try dsimp only at hm
 refine wC [] [0] Z fn_194 Z (Q7s N aH.kind aH.value.k aH.value.n aH.value.s aH.var aH.op aV.1 aV.2 aH.kids _ _ _ _ _ _ _ aX) (asK [0] Z) Z (H':=[_]) Z ?_
 rintro _ _ _ ⟨aI,aJ,b0,rfl,rfl,rfl⟩
 refine Q25 Z Z Z Zq Z tZ_194 Z (fun g5=>(wS 0 0 Z Q7A (all':=V7 ..) Z (H':=V3 ..) Z (Q3 (Q4 (Q5 [5,4,3,0] (S':=V4 ..) Z (Q2 (wP Z (Q1V 0 0 Z Z Z Zq Z Z Z (cs:=V7 ..) Z Q7A tA_194 Z Z (QE Z Z Z Zq Z tE_190 Q7A tZ_194 Z (zs:=[.int .u8 0,.int .u8 0,.int .i64 0,.string ((⟨#[]⟩ : ByteArray)),.int .i64 0,.int .u8 0,V1]) (by kernel_rfl) Z (out:=V7 ..) Z (fun bA=>(QK 2 Z (fun aK _=>?_))))))))))))
 subst aK
 refine Q6B 2 Z (H':=V3 ..) Z (Q4Q (.sli 7 Q1C aI aJ a9) (fun F w hφ=>Q1n (hφ _ (Qu (k:=0) Z))) ?_)
 obtain ⟨aP,hm⟩:=Qd hm
 refine Q2w ([(⟨aA,(⟨aB,aC,aD⟩ : V),aE,aF,a9⟩ : Q12)]) 2 0 Z Z Z Zq Z Z Z Z Z (fun F w hφ=>⟨[.int .u8 aA,.int .u8 aB,.int .i64 aC,.string aD,.int .i64 aE,.int .u8 aF,.slice aI a9.length aJ],[],Z,Z,(rec_shut (aI,aJ) Z (Qh (hφ _ (Qu (k:=0) Z)) Qv)),Z⟩) tE_190 tR_194 Z Z (Nat.le_trans aP (by decide)) (Nat.le_trans (Nat.mul_le_mul_right _ aP) (by decide)) (H2:=fun aR aS=>[_,_,.own 194 7 Q1C (.slice aR ((a0 ++ ([(⟨aA,(⟨aB,aC,aD⟩ : V),aE,aF,a9⟩ : Q12)])).length) aS) (a0 ++ ([(⟨aA,(⟨aB,aC,aD⟩ : V),aE,aF,a9⟩ : Q12)]))]) (fun _ _=>Z) (fun aR aS=>(Q3E 0 Z (H':=[_,_]) Z (QI (S':=V7 ..) Z Z Z Z Z (Q3 (Qj (Q4 (Q5 [3,4,0] (S':=V3 ..) Z (Q2 (wP Z (wP Z ?_))))))))))
 obtain ⟨aY,hm⟩:=Qd hm
 refine Qz (d:=11) (v':=.int .i64 ((a8 + 1:Nat):Int)) (S':=V4 ..) Z Z (Q1i (a:=a8) (b:=1) aY) (QI (S':=V4 ..) Z Z Z Z Z (Q3 ?_))
 have hE:=(Zi hm).symm
 replace hE:=Q14 hLu1 hE
 refine Q1m [1] Z (H':=[_]) Z ?_
 refine Q1a (_,a8 + 1,(a0 ++ ([(⟨aA,(⟨aB,aC,aD⟩ : V),aE,aF,a9⟩ : Q12)])),aR,aS,((a0 ++ ([(⟨aA,(⟨aB,aC,aD⟩ : V),aE,aF,a9⟩ : Q12)])).length)) (Nat.lt_succ_self _) hE [4,3,0] Z (asK [5] Z) Z
 replace hm:=Q1y hm aQ
 refine Q5 [3] (S':=[_]) Z (Q19 (Qc (Qc (Qt ?_))))
 have hE:=(Zi hm).symm
 replace hE:=QO hLu1 hE
 refine Qp (a0,a4,a5,a6) hE [3] Z (asK [] Z) Z
 rintro ⟨a7,a1,a2,a3⟩ hE
 try dsimp only
 have hm:=hLj_1
 try rw [hE] at hm
 refine Q6 (Q2 (wP Z (wP Z (Q3 (Q4 (Q5 [2] (S':=[_]) Z (QP ?_)))))))
 have hE:=(Zi hm).symm
 replace hE:=hE.symm
 subst hE
 refine QH (Hr:=[_]) [0] Tryz.results195 (QD Z) ⟨a1,a2,a3,Z,Z,Z⟩ (asK [] Z) Z Z (.inl Z)
theorem Q9r (N:Nat) (a0:Int) (a1:Int) (a2:Int) (qp0:OA) (qc1:Nat) (l3:List Q12) (o2:List Q12) (hm:Q6X N a0 a1 a2 l3 = some o2):Q1R Tryz.prog 179 [.agg #[.int .u8 a0,.int .i64 a1,.int .i64 a2,.slice qp0 l3.length qc1]] [.sli 7 Q1C qp0 qc1 l3] [] (fun v Φr Hr=>∃ (o0:OA) (o1:Nat) (o3:Nat),v = .agg #[.int .u8 a0,.int .i64 a1,.int .i64 a2,.slice o0 o3 o1] ∧ Φr = [] ∧ Hr = [.own 194 7 Q1C (.slice o0 o3 o1) o2]):=by
 unfold Q6X at hm
 refine QZ Tryz.func179 Z Tryz.ntmps179 Z (S:=[_]) Z (fun C=>(Q6 (Q2 (wB Z (fun g1=>(Q25 Z Z Z Zq Z tZ_209 Z (fun g2=>(Q3 (Q4 (Q5 [2,1] (S':=[_,_]) Z (Q6 (Q2 (wF Z tF_209_3 (wD 1 3 Z tS_190 tA_190 Z ?_))))))))))))))
 obtain ⟨v5,hc5,hm⟩:=Q7 hm
 refine wC [] [0,1] Z fn_195 Z (Q8W N qp0 qc1 l3 _ hc5) (asK [0] Z) Z (H':=[_,_]) Z ?_
 rintro _ _ _ ⟨p5_0,c5_1,c5_2,rfl,rfl,rfl⟩
 refine wF Z tF_209_3 (wS 2 3 Z tS_190 (all':=V4 ..) Z (H':=V3 ..) Z (Q3 (Q4 (Q5 [2,1] (S':=[_,_]) Z (Q6 (Q2 (Q1V 2 0 Z Z Z Zq Z Z Z (cs:=V4 ..) Z tS_209 tA_209 Z Z (wS 1 0 Z tS_209 (all':=V4 ..) Z (H':=V3 ..) Z (Q3 (Q4 (Q5 [2] (S':=[_]) Z (QP ?_))))))))))))
 have hE:=(Zi hm).symm
 replace hE:=hE.symm
 subst hE
 refine QH (Hr:=[_]) [0] Tryz.results179 (Q5D 1 Z Z tS_209 tA_209 Z Z) ⟨p5_0,c5_1,c5_2,Z,Z,Z⟩ (asK [] Z) Z Z (.inl Z)
theorem Q9d (N:Nat) (aF:OA) (aG:Nat) (l0:List Q3G) (o2:List Q3G) (hm:Q58 N l0 = some o2):Q1R Tryz.prog 159 [.slice aF l0.length aG] [.sli 4 Q5L aF aG l0] [] (fun v Φr Hr=>∃ (o0:OA) (o1:Nat) (o3:Nat),v = .slice o0 o3 o1 ∧ Φr = [] ∧ Hr = [.own 209 4 Q5L (.slice o0 o3 o1) o2]):=by
 unfold Q58 at hm
 refine QZ Tryz.func159 Z Tryz.ntmps159 Z (S:=[_]) Z (fun C=>(Q6 (Q2 (wP Z (Q3 (Q4 (Q5 [0] (S':=[_]) Z (Q6 (Q2 (wP Z (Q3 (Q4 (Q6 ?_)))))))))))))
 obtain ⟨aI,hm,hLj_1⟩:=Q7 hm
 refine Q18 (σ:=(List Q3G) × OA × Nat × Nat) (fun (a8,a1,a2,a3)=>aI = a8) (fun (a8,a1,a2,a3)=>[(3,.slice a1 a3 a2)]) (fun (a8,a1,a2,a3)=>[]) (fun (a8,a1,a2,a3)=>[.own 209 4 Q5L (.slice a1 a3 a2) a8]) ?_ ?_
 refine Q6 (Q2 (wP Z (Q3 (Q4 (Qm (Q52 209 4 Q5L (Q1f (σ:=Nat × Nat × (List Q3G) × OA × Nat × Nat) (fun (aA,a9,a0,a5,a6,a7)=>Q1o (Q5i N l0) aA (a9,a0) = some aI) (fun (aA,a9,a0,a5,a6,a7)=>aA) (fun (aA,a9,a0,a5,a6,a7)=>[(4,.int .i64 ((a9:Nat):Int)),(3,.slice a5 a7 a6),(0,.slice aF l0.length aG)]) (fun (aA,a9,a0,a5,a6,a7)=>[.sli 4 Q5L aF aG l0]) (fun (aA,a9,a0,a5,a6,a7)=>[.own 209 4 Q5L (.slice a5 a7 a6) a0]) (N,0,[],none,0,0) hm [4,3,0] Z (asK [0] Z) Z (fun s_ hm=>?_))))))))
 obtain ⟨aA,a9,a0,a5,a6,a7⟩:=s_
 try dsimp only at hm ⊢
 obtain ⟨b0,b1,aN,hq,hLu1⟩:=Q1d hm
 clear hm
 subst aN
 replace hm:=hq
 clear hq
 unfold Q5i at hm
 try dsimp only at hm
 refine Q6 (Q6 (Q2 (wP Z (wP Z (wN Z tE_36 (wP Z (Qz (d:=9) (v':=.bool (decide (a9 < l0.length))) (S':=V6 ..) Z Z (Q3f (a:=a9) (b:=l0.length)) (Q3 (Q4 (Q5 [9,4,3,0] (S':=V4 ..) Z ?_))))))))))
 refine QA Z (fun aK=>?_) (fun aK=>?_)
 replace hm:=Q1z hm aK
 refine Q5 [4,3,0] (S':=V3 ..) Z (Qs (Q4 (Q6 (Qm (Q6 (Q2 (wP Z (wP Z ?_))))))))
 obtain ⟨a4,aO,hm⟩:=Q7 hm
 refine Q53 0 a9 Z Z Z Zq Z Z Z Z Z aO tE_36 tS_209 (fun b2 b3 aZ aT=>(Q6m R_Api_ActD_opens 1 Z (fun aP aQ _=>?_)))
 subst aQ
 refine Q6l 1 0 Z Z Z Zq Z Z Z (cs:=V4 ..) Z tS_209 tA_209 Z Z ?_
 obtain ⟨aB,aR,hm⟩:=Q7 hm
 refine wC [] [0] Z fn_179 Z (Q9r N a4.kind a4.type a4.which aP.1 aP.2 a4.exprs _ aR) (asK [0] Z) Z (H':=[_]) Z ?_
 rintro _ _ _ ⟨aC,aD,aU,rfl,rfl,rfl⟩
 refine Q25 Z Z Z Zq Z tZ_209 Z (fun g5=>(wS 0 0 Z tS_209 (all':=V4 ..) Z (H':=V3 ..) Z (Q3 (Q4 (Q5 [5,4,3,0] (S':=V4 ..) Z (Q2 (wP Z (Q1V 0 0 Z Z Z Zq Z Z Z (cs:=V4 ..) Z tS_209 tA_209 Z Z (QE Z Z Z Zq Z tE_36 tS_209 tZ_209 Z (zs:=[.int .u8 0,.int .i64 0,.int .i64 0,V1]) (by kernel_rfl) Z (out:=V4 ..) Z (fun b4=>(QK 2 Z (fun aE _=>?_))))))))))))
 subst aE
 refine Q6B 2 Z (H':=V3 ..) Z (Q4Q (.sli 7 Q1C aC aD aB) (fun F w hφ=>Q1n (hφ _ (Qu (k:=0) Z))) ?_)
 obtain ⟨aJ,hm⟩:=Qd hm
 refine Q2w ([(⟨a4.kind,a4.type,a4.which,aB⟩ : Q3G)]) 2 0 Z Z Z Zq Z Z Z Z Z (fun F w hφ=>⟨[.int .u8 (a4.kind),.int .i64 (a4.type),.int .i64 (a4.which),.slice aC aB.length aD],[],Z,Z,⟨(aC,aD),Z,(Qh (hφ _ (Qu (k:=0) Z)) Qv)⟩,Z⟩) tE_36 tR_209 Z Z (Nat.le_trans aJ (by decide)) (Nat.le_trans (Nat.mul_le_mul_right _ aJ) (by decide)) (H2:=fun aL aM=>[_,_,.own 209 4 Q5L (.slice aL ((a0 ++ ([(⟨a4.kind,a4.type,a4.which,aB⟩ : Q3G)])).length) aM) (a0 ++ ([(⟨a4.kind,a4.type,a4.which,aB⟩ : Q3G)]))]) (fun _ _=>Z) (fun aL aM=>(Q3E 0 Z (H':=[_,_]) Z (QI (S':=V7 ..) Z Z Z Z Z (Q3 (Qj (Q4 (Q5 [3,4,0] (S':=V3 ..) Z (Q2 (wP Z (wP Z ?_))))))))))
 obtain ⟨aS,hm⟩:=Qd hm
 refine Qz (d:=11) (v':=.int .i64 ((a9 + 1:Nat):Int)) (S':=V4 ..) Z Z (Q1i (a:=a9) (b:=1) aS) (QI (S':=V4 ..) Z Z Z Z Z (Q3 ?_))
 have hE:=(Zi hm).symm
 replace hE:=Q14 hLu1 hE
 refine Q1m [1] Z (H':=[_]) Z ?_
 refine Q1a (_,a9 + 1,(a0 ++ ([(⟨a4.kind,a4.type,a4.which,aB⟩ : Q3G)])),aL,aM,((a0 ++ ([(⟨a4.kind,a4.type,a4.which,aB⟩ : Q3G)])).length)) (Nat.lt_succ_self _) hE [4,3,0] Z (asK [5] Z) Z
 replace hm:=Q1y hm aK
 refine Q5 [3] (S':=[_]) Z (Q19 (Qc (Qc (Qt ?_))))
 have hE:=(Zi hm).symm
 replace hE:=QO hLu1 hE
 refine Qp (a0,a5,a6,a7) hE [3] Z (asK [] Z) Z
 rintro ⟨a8,a1,a2,a3⟩ hE
 try dsimp only
 have hm:=hLj_1
 try rw [hE] at hm
 refine Q6 (Q2 (wP Z (wP Z (Q3 (Q4 (Q5 [2] (S':=[_]) Z (QP ?_)))))))
 have hE:=(Zi hm).symm
 replace hE:=hE.symm
 subst hE
 refine QH (Hr:=[_]) [0] Tryz.results159 (QD Z) ⟨a1,a2,a3,Z,Z,Z⟩ (asK [] Z) Z Z (.inl Z)
theorem Q9h (N:Nat) (a0:ByteArray) (a1:Int) (a2:Int) (qp0:OA) (qc1:Nat) (l3:List Q2X) (qp2:OA) (qc3:Nat) (l4:List Q3G) (o2:List Q2X) (o6:List Q3G) (hm:Q5b N a0 a1 a2 l3 l4 = some (o2,o6)):Q1R Tryz.prog 98 [.agg #[.string a0,.int .i64 a1,.int .i64 a2,.slice qp0 l3.length qc1,.slice qp2 l4.length qc3]] [.sli 10 Q5g qp0 qc1 l3,.sli 4 Q5L qp2 qc3 l4] [] (fun v Φr Hr=>∃ (o0:OA) (o1:Nat) (o3:Nat) (o4:OA) (o5:Nat) (o7:Nat),v = .agg #[.string a0,.int .i64 a1,.int .i64 a2,.slice o0 o3 o1,.slice o4 o7 o5] ∧ Φr = [] ∧ Hr = [.own 204 10 Q5g (.slice o0 o3 o1) o2,.own 209 4 Q5L (.slice o4 o7 o5) o6]):=by
 unfold Q5b at hm
 refine QZ Tryz.func98 Z Tryz.ntmps98 Z (S:=[_]) Z (fun C=>(Q6 (Q2 (wB Z (fun g1=>(Q25 Z Z Z Zq Z tZ_38 Z (fun g2=>(Q3 (Q4 (Q5 [2,1] (S':=[_,_]) Z (Q6 (Q2 (wF Z tF_38_3 (wD 1 3 Z tS_35 tA_35 Z ?_))))))))))))))
 obtain ⟨v5,hc5,hm⟩:=Q7 hm
 refine wC [] [0,1] Z fn_158 Z (Q8V N qp0 qc1 l3 _ hc5) (asK [0] Z) Z (H':=[_,_]) Z ?_
 rintro _ _ _ ⟨p5_0,c5_1,c5_2,rfl,rfl,rfl⟩
 refine wF Z tF_38_3 (wS 2 3 Z tS_35 (all':=V5 ..) Z (H':=V3 ..) Z (Q3 (Q4 (Q5 [2,1] (S':=[_,_]) Z (Q6 (Q2 (wF Z tF_38_4 (wD 2 4 Z tS_36 tA_36 Z ?_))))))))
 obtain ⟨v9,hc9,hm⟩:=Q7 hm
 refine wC [] [0,1,2] Z fn_159 Z (Q9d N qp2 qc3 l4 _ hc9) (asK [1] Z) Z (H':=V3 ..) Z ?_
 rintro _ _ _ ⟨p9_0,c9_1,c9_2,rfl,rfl,rfl⟩
 refine wF Z tF_38_4 (wS 3 4 Z tS_36 (all':=V5 ..) Z (H':=V4 ..) Z (Q3 (Q4 (Q5 [2,1] (S':=[_,_]) Z (Q6 (Q2 (Q1V 3 0 Z Z Z Zq Z Z Z (cs:=V5 ..) Z Q7V tA_38 Z Z (wS 2 0 Z Q7V (all':=V5 ..) Z (H':=V4 ..) Z (Q3 (Q4 (Q5 [2] (S':=[_]) Z (QP ?_))))))))))))
 have hE:=(Zi hm).symm
 obtain ⟨hE0,hE1⟩:=Prod.mk.inj hE
 clear hE
 replace hE0:=hE0.symm
 subst hE0
 replace hE1:=hE1.symm
 subst hE1
 refine QH (Hr:=[_,_]) [1,0] Tryz.results98 (Q5D 2 Z Z Q7V tA_38 Z Z) ⟨p5_0,c5_1,c5_2,p9_0,c9_1,c9_2,Z,Z,Z⟩ (asK [] Z) Z Z (.inl Z)
theorem Q82 (N:Nat) (aI:OA) (aJ:Nat) (aK:Nat) (l0:List QG) (o2:List QG) (hm:Q5j N l0 = some o2):Q1R Tryz.prog 48 [.slice aI aJ aK] [] [.own 38 5 QM (.slice aI aJ aK) l0] (fun v Φr Hr=>∃ (o0:OA) (o1:Nat) (o3:Nat),v = .slice o0 o3 o1 ∧ Φr = [] ∧ Hr = [.own 38 5 QM (.slice o0 o3 o1) o2,.own 38 5 QM (.slice aI aJ aK) l0]):=by
 unfold Q5j at hm
 refine QZ Tryz.func48 Z Tryz.ntmps48 Z (S:=[_]) Z (fun C=>(Q6 (Q2 (wP Z (Q3 (Q4 (Q5 [0] (S':=[_]) Z (Q6 (Q2 (wP Z (Q3 (Q4 (Q6 ?_)))))))))))))
 obtain ⟨aO,hm,hLj_1⟩:=Q7 hm
 refine Q18 (σ:=(List QG) × OA × Nat × Nat) (fun (a9,a2,a3,a4)=>aO = a9) (fun (a9,a2,a3,a4)=>[(3,.slice a2 a4 a3)]) (fun (a9,a2,a3,a4)=>[]) (fun (a9,a2,a3,a4)=>[.own 38 5 QM (.slice a2 a4 a3) a9,.own 38 5 QM (.slice aI aJ aK) l0]) ?_ ?_
 refine Q6 (Q2 (wP Z (Q3 (Q4 (Qm (Q52 38 5 QM (Q1f (σ:=Nat × Nat × (List QG) × OA × Nat × Nat) (fun (aD,a5,a0,a6,a7,a8)=>Q1o (Q39 N l0) aD (a5,a0) = some aO) (fun (aD,a5,a0,a6,a7,a8)=>aD) (fun (aD,a5,a0,a6,a7,a8)=>[(4,.int .i64 ((a5:Nat):Int)),(3,.slice a6 a8 a7),(0,.slice aI aJ aK)]) (fun (aD,a5,a0,a6,a7,a8)=>[]) (fun (aD,a5,a0,a6,a7,a8)=>[.own 38 5 QM (.slice a6 a8 a7) a0,.own 38 5 QM (.slice aI aJ aK) l0]) (N,0,[],none,0,0) hm [4,3,0] Z (asK [] Z) Z (fun s_ hm=>?_))))))))
 obtain ⟨aD,a5,a0,a6,a7,a8⟩:=s_
 try dsimp only at hm ⊢
 obtain ⟨b5,b6,aU,hq,hLu1⟩:=Q1d hm
 clear hm
 subst aU
 replace hm:=hq
 clear hq
 unfold Q39 at hm
 try dsimp only at hm
 refine Q6 (Q6 (Q2 (wP Z (wP Z (QK 1 Z (fun aY _=>(wN Z Q72 (Qz (d:=8) (v':=.int .i64 ((l0.length:Nat):Int)) (S':=V5 ..) Z Z (Q4A aY) (wP Z (Qz (d:=9) (v':=.bool (decide (a5 < l0.length))) (S':=V6 ..) Z Z (Q3f (a:=a5) (b:=l0.length)) (Q3 (Q4 (Q5 [9,4,3,0] (S':=V4 ..) Z ?_)))))))))))))
 refine QA Z (fun aR=>?_) (fun aR=>?_)
 replace hm:=Q1z hm aR
 refine Q5 [4,3,0] (S':=V3 ..) Z (Qs (Q4 (Q6 (Qm (Q6 (Q2 (wP Z (wP Z ?_))))))))
 obtain ⟨a1,aP,hm⟩:=Q7 hm
 refine Q2E 1 a5 Z Z Z Zq Z Z Z Z Z (Qw aP) Q72 Q7V (fun b7 aV=>?_)
 subst aV
 refine Qk Q6g 1 a5 0 Z Z Z Zq Z Z Z aP Q7V tA_38 (v:=fun aC=>.agg #[.string a1.name,.int .i64 (a1.salience),.int .i64 (a1.vars),.slice aC.1.1 a1.conds.length aC.1.2,.slice aC.2.1 a1.acts.length aC.2.2]) (fun _=>Z) (fun _=>Z) (fun aC _=>?_)
 obtain ⟨⟨aA,aB⟩,aW,hm⟩:=Q7 hm
 try dsimp only at hm
 refine wC [] [0,1] Z fn_98 Z (Q9h N a1.name a1.salience a1.vars aC.1.1 aC.1.2 a1.conds aC.2.1 aC.2.2 a1.acts _ _ aW) (asK [0,1] Z) Z (H':=[_,_]) Z ?_
 rintro _ _ _ ⟨aE,aF,aZ,aG,aH,b0,rfl,rfl,rfl⟩
 refine Q25 Z Z Z Zq Z tZ_38 Z (fun g5=>(wS 0 0 Z Q7V (all':=V5 ..) Z (H':=V5 ..) Z (Q3 (Q4 (Q5 [5,4,3,0] (S':=V4 ..) Z (Q2 (wP Z (Q1V 0 0 Z Z Z Zq Z Z Z (cs:=V5 ..) Z Q7V tA_38 Z Z (QE Z Z Z Zq Z Q72 Q7V tZ_38 Z (zs:=[.string ((⟨#[]⟩ : ByteArray)),.int .i64 0,.int .i64 0,V1,V1]) (by kernel_rfl) Z (out:=V5 ..) Z (fun b8=>(QK 2 Z (fun aL _=>?_))))))))))))
 subst aL
 refine Q6B 2 Z (H':=V5 ..) Z (Q4Q (.sli 10 Q5g aE aF aA) (fun F w hφ=>Q1n (hφ _ (Qu (k:=0) Z))) (QK 2 Z (fun aM _=>?_)))
 subst aM
 refine Q6B 2 Z (H':=V4 ..) Z (Q4Q (.sli 4 Q5L aG aH aB) (fun F w hφ=>Q1n (hφ _ (Qu (k:=0) Z))) ?_)
 obtain ⟨aQ,hm⟩:=Qd hm
 refine Q2w ([(⟨a1.name,a1.salience,a1.vars,aA,aB⟩ : QG)]) 2 0 Z Z Z Zq Z Z Z Z Z (fun F w hφ=>⟨[.string a1.name,.int .i64 (a1.salience),.int .i64 (a1.vars),.slice aE aA.length aF,.slice aG aB.length aH],[],Z,Z,⟨((aE,aF),(aG,aH)),Z,(Qh (hφ _ (Qu (k:=2) Z)) (Qh (hφ _ (Qu (k:=0) Z)) Qv))⟩,Z⟩) Q72 tR_38 Z Z (Nat.le_trans aQ (by decide)) (Nat.le_trans (Nat.mul_le_mul_right _ aQ) (by decide)) (H2:=fun aS aT=>[_,_,.own 38 5 QM (.slice aS ((a0 ++ ([(⟨a1.name,a1.salience,a1.vars,aA,aB⟩ : QG)])).length) aT) (a0 ++ ([(⟨a1.name,a1.salience,a1.vars,aA,aB⟩ : QG)])),_]) (fun _ _=>Z) (fun aS aT=>(Q3E 0 Z (H':=V3 ..) Z (QI (S':=V7 ..) Z Z Z Z Z (Q3 (Qj (Q4 (Q5 [3,4,0] (S':=V3 ..) Z (Q2 (wP Z (wP Z ?_))))))))))
 obtain ⟨aX,hm⟩:=Qd hm
 refine Qz (d:=11) (v':=.int .i64 ((a5 + 1:Nat):Int)) (S':=V4 ..) Z Z (Q1i (a:=a5) (b:=1) aX) (QI (S':=V4 ..) Z Z Z Z Z (Q3 ?_))
 have hE:=(Zi hm).symm
 replace hE:=Q14 hLu1 hE
 refine Q1m [1,2] Z (H':=[_,_]) Z ?_
 refine Q1a (_,a5 + 1,(a0 ++ ([(⟨a1.name,a1.salience,a1.vars,aA,aB⟩ : QG)])),aS,aT,((a0 ++ ([(⟨a1.name,a1.salience,a1.vars,aA,aB⟩ : QG)])).length)) (Nat.lt_succ_self _) hE [4,3,0] Z (asK [] Z) Z
 replace hm:=Q1y hm aR
 refine Q5 [3] (S':=[_]) Z (Q19 (Qc (Qc (Qt ?_))))
 have hE:=(Zi hm).symm
 replace hE:=QO hLu1 hE
 refine Qp (a0,a6,a7,a8) hE [3] Z (asK [] Z) Z
 rintro ⟨a9,a2,a3,a4⟩ hE
 try dsimp only
 have hm:=hLj_1
 try rw [hE] at hm
 refine Q6 (Q2 (wP Z (wP Z (Q3 (Q4 (Q5 [2] (S':=[_]) Z (QP ?_)))))))
 have hE:=(Zi hm).symm
 replace hE:=hE.symm
 subst hE
 refine QH (Hr:=[_,_]) [0,1] Tryz.results48 (QD Z) ⟨a2,a3,a4,Z,Z,Z⟩ (asK [] Z) Z Z (.inl Z)
theorem Q6S (N:Nat) (qp0:OA) (qc1:Nat) (l0:List Qr) (qp2:OA) (qn3:Nat) (qc4:Nat) (l1:List QG) (o4:List QG) (hm:Q4W N l0 l1 = some o4):Q1R Tryz.prog 25 [.agg #[.slice qp0 l0.length qc1,.slice qp2 qn3 qc4]] [.sli 2 QR qp0 qc1 l0] [.own 38 5 QM (.slice qp2 qn3 qc4) l1] (fun v Φr Hr=>∃ (o0:OA) (o1:Nat) (o2:OA) (o3:Nat) (o5:Nat),v = .agg #[.slice o0 (l0).length o1,.slice o2 o5 o3] ∧ Φr = [] ∧ Hr = [.own 213 2 QR (.slice o0 (l0).length o1) l0,.own 38 5 QM (.slice o2 o5 o3) o4,.own 38 5 QM (.slice qp2 qn3 qc4) l1]):=by
 unfold Q4W at hm
 refine QZ Tryz.func25 Z Tryz.ntmps25 Z (S:=[_]) Z (fun C=>(Q6 (Q2 (wB Z (fun g1=>(Q25 Z Z Z Zq Z tZ_28 Z (fun g2=>(Q3 (Q4 (Q5 [2,1] (S':=[_,_]) Z (Q6 (Q2 (wF Z tF_28_0 (wD 1 0 Z tS_25 tA_25 Z ?_))))))))))))))
 obtain ⟨_,hc5,hm⟩:=Q7 hm
 try dsimp only at hm
 refine wC [] [0,1,2] Z fn_47 Z (Q8Y N qp0 qc1 l0 hc5) (asK [0] Z) Z (H':=V3 ..) Z ?_
 rintro _ _ _ ⟨p5_0,c5_1,rfl,rfl,rfl⟩
 refine wF Z tF_28_0 (wS 2 0 Z tS_25 (all':=[_,_]) Z (H':=V4 ..) Z (Q3 (Q4 (Q5 [2,1] (S':=[_,_]) Z (Q6 (Q2 (wF Z Q5u (wD 2 1 Z Q7r Q7U Z (QK 3 Z (fun hzqn3 _=>?_))))))))))
 subst hzqn3
 obtain ⟨v9,hc9,hm⟩:=Q7 hm
 refine wC [3] [0,1,2] Z fn_48 Z (Q82 N qp2 l1.length qc4 l1 _ hc9) (asK [] Z) Z (H':=V3 ..) Z ?_
 rintro _ _ _ ⟨p9_0,c9_1,c9_2,rfl,rfl,rfl⟩
 refine wF Z Q5u (wS 4 1 Z Q7r (all':=[_,_]) Z (H':=V5 ..) Z (Q3 (Q4 (Q5 [2,1] (S':=[_,_]) Z (Q6 (Q2 (Q1V 4 0 Z Z Z Zq Z Z Z (cs:=[_,_]) Z Q6s Q7a Z Z (wS 3 0 Z Q6s (all':=[_,_]) Z (H':=V5 ..) Z (Q3 (Q4 (Q5 [2] (S':=[_]) Z (QP ?_))))))))))))
 have hE:=(Zi hm).symm
 replace hE:=hE.symm
 subst hE
 refine QH (Hr:=V3 ..) [2,0,1] Tryz.results25 (Q5D 3 Z Z Q6s Q7a Z Z) ⟨p5_0,c5_1,p9_0,c9_1,c9_2,Z,Z,Z⟩ (asK [] Z) Z Z (.inl Z)
theorem Q7j (N:Nat) (qp0:OA) (qc1:Nat) (l0:List Qr) (qp2:OA) (qn3:Nat) (qc4:Nat) (l1:List QG)  (hm:Q31 N l0 l1 = some (.inl ())):Q1R Tryz.prog 8 [.agg #[.slice qp0 l0.length qc1,.slice qp2 qn3 qc4]] [.sli 2 QR qp0 qc1 l0,tF] [.own 38 5 QM (.slice qp2 qn3 qc4) l1] (fun v Φr Hr=>v = .tuple #[.pointer none,.bool false] ∧ Φr = [] ∧ Hr = [.own 38 5 QM (.slice qp2 qn3 qc4) l1]):=by
 unfold Q31 at hm
 refine QZ Tryz.func8 Z Tryz.ntmps8 Z (S:=[_]) Z (fun C=>(Q6 (Q2 (wB Z (fun g1=>(wP Z (wP Z (Q3 (Q4 (Q5 [1] (S':=[_]) Z (Q6 (Q6 (Q2 (wF Z Q5u (wD 0 1 Z Q7r Q7U Z ?_)))))))))))))))
 refine QK 1 Z (fun hl6 _=>(wN Z Q72 (Qz (d:=6) (v':=.int .i64 ((l1.length:Nat):Int)) (S':=V3 ..) Z Z (Q4A hl6) (wP Z (Qz (d:=7) (v':=.bool (decide (64 < l1.length))) (S':=V4 ..) Z Z (natgt (a:=l1.length) (b:=64)) (Q3 (Q4 (Q5 [7,1] (S':=[_,_]) Z ?_))))))))
 refine QA Z (fun hb7=>?_) (fun hb7=>?_)
 replace hm:=Q1z hm hb7
 refine Q5 [] (S':=[]) Z (Q6 (Q2 (wP Z (wP Z (Q3 (Q4 (QP (Qn ?_))))))))
 have hE:=(Zi hm).symm
 replace hE:=Sum.inl.inj hE
 refine Q7e (Hr:=[_]) [1] Tryz.results8 (QD Z) (QD Z) ⟨Z,Z,Z⟩ (asK [] Z) Z Z (.inl Z)
 ·
  replace hm:=Q1y hm hb7
  refine Q5 [1] (S':=[_]) Z (Qs (Q4 (Q6 (Q2 (Q1V 0 0 Z Z Z Zq Z Z Z (cs:=[_,_]) Z Q6s Q7a Z Z (QK 1 Z (fun hzqn3 _=>?_)))))))
  subst hzqn3
  obtain ⟨v9,hc9,hm⟩:=Q7 hm
  refine wC [1] [0] Z fn_25 Z (Q6S N qp0 qc1 l0 qp2 l1.length qc4 l1 _ hc9) (asK [0] Z) Z (H':=[_]) Z ?_
  rintro _ _ _ ⟨p9_0,c9_1,p9_2,c9_3,c9_4,rfl,rfl,rfl⟩
  refine Q7w Z Z Z Zq Z tZ_70 tP_70 Z (out:=V4 ..) Z (wB Z (fun g11=>(wP Z (wP Z (Q3 (Q4 (Q5 [3,2] (S':=[_,_]) Z (QP ?_))))))))
  have hE:=(Zi hm).symm
  cases hE
theorem Q7k (N:Nat) (qp0:OA) (qc1:Nat) (l0:List Qr) (qp2:OA) (qn3:Nat) (qc4:Nat) (l1:List QG) (o5:List QG) (hm:Q31 N l0 l1 = some (.inr o5)):Q1R Tryz.prog 8 [.agg #[.slice qp0 l0.length qc1,.slice qp2 qn3 qc4]] [.sli 2 QR qp0 qc1 l0,tF] [.own 38 5 QM (.slice qp2 qn3 qc4) l1] (fun v Φr Hr=>∃ (o0:Nat) (o1:OA) (o2:Nat) (o3:OA) (o4:Nat) (o6:Nat),v = .tuple #[.pointer (some ⟨o0,0,none⟩),.bool true] ∧ Φr = [] ∧ Hr = [.blk o0 [.slice o1 (l0).length o2,.slice o3 o6 o4,V1,V1] 70,.own 213 2 QR (.slice o1 (l0).length o2) l0,.own 38 5 QM (.slice o3 o6 o4) o5,.own 38 5 QM (.slice qp2 qn3 qc4) l1]):=by
 unfold Q31 at hm
 refine QZ Tryz.func8 Z Tryz.ntmps8 Z (S:=[_]) Z (fun C=>(Q6 (Q2 (wB Z (fun g1=>(wP Z (wP Z (Q3 (Q4 (Q5 [1] (S':=[_]) Z (Q6 (Q6 (Q2 (wF Z Q5u (wD 0 1 Z Q7r Q7U Z ?_)))))))))))))))
 refine QK 1 Z (fun hl6 _=>(wN Z Q72 (Qz (d:=6) (v':=.int .i64 ((l1.length:Nat):Int)) (S':=V3 ..) Z Z (Q4A hl6) (wP Z (Qz (d:=7) (v':=.bool (decide (64 < l1.length))) (S':=V4 ..) Z Z (natgt (a:=l1.length) (b:=64)) (Q3 (Q4 (Q5 [7,1] (S':=[_,_]) Z ?_))))))))
 refine QA Z (fun hb7=>?_) (fun hb7=>?_)
 ·
  replace hm:=Q1z hm hb7
  refine Q5 [] (S':=[]) Z (Q6 (Q2 (wP Z (wP Z (Q3 (Q4 (QP (Qn ?_))))))))
  have hE:=(Zi hm).symm
  cases hE
 replace hm:=Q1y hm hb7
 refine Q5 [1] (S':=[_]) Z (Qs (Q4 (Q6 (Q2 (Q1V 0 0 Z Z Z Zq Z Z Z (cs:=[_,_]) Z Q6s Q7a Z Z (QK 1 Z (fun hzqn3 _=>?_)))))))
 subst hzqn3
 obtain ⟨v9,hc9,hm⟩:=Q7 hm
 refine wC [1] [0] Z fn_25 Z (Q6S N qp0 qc1 l0 qp2 l1.length qc4 l1 _ hc9) (asK [0] Z) Z (H':=[_]) Z ?_
 rintro _ _ _ ⟨p9_0,c9_1,p9_2,c9_3,c9_4,rfl,rfl,rfl⟩
 refine Q7w Z Z Z Zq Z tZ_70 tP_70 Z (out:=V4 ..) Z (wB Z (fun g11=>(wP Z (wP Z (Q3 (Q4 (Q5 [3,2] (S':=[_,_]) Z (QP ?_))))))))
 have hE:=(Zi hm).symm
 replace hE:=Sum.inr.inj hE
 replace hE:=hE.symm
 subst hE
 refine Q7e (Hr:=V4 ..) [0,1,2,3] Tryz.results8 (QD Z) (QD Z) ⟨g11,p9_0,c9_1,p9_2,c9_3,c9_4,Z,Z,Z⟩ (asK [] Z) Z Z (.inl Z)
theorem Q9s (N:Nat) (a5:OA) (a6:Nat) (l0:List Q1) (o0:Bool) (hm:Q5m N l0 = some o0):Q1R Tryz.prog 9 [.slice a5 l0.length a6] [.sli 2 Q9 a5 a6 l0,tF] [] (fun v Φr Hr=>v = .bool o0 ∧ Φr = [] ∧ Hr = []):=by
 unfold Q5m at hm
 refine QZ Tryz.func9 Z Tryz.ntmps9 Z (S:=[_]) Z (fun C=>(Q6 (Q2 (wP Z (Q3 (Q4 (Q5 [0] (S':=[_]) Z (Q6 (Q2 (wP Z (wN Z QB (wP Z (Q3 (Q4 ?_))))))))))))))
 refine Q5 [3,0] (S':=[_,_]) Z (Q6 ?_)
 obtain ⟨aA,hm,hLj_1⟩:=Q7 hm
 refine Q18 (σ:=Nat) (fun a2=>aA = a2) (fun a2=>[(3,.int .i64 ((a2:Nat):Int))]) (fun a2=>[tF]) (fun a2=>[]) ?_ ?_
 refine Q6 (Q2 (wP Z (Q3 (Q4 (Qm (Q1f (σ:=Nat × Nat × Nat) (fun (a4,a1,a0)=>Q1o (Q4N N l0) a4 (a1,a0) = some aA) (fun (a4,a1,a0)=>a4) (fun (a4,a1,a0)=>[(4,.int .i64 ((a1:Nat):Int)),(3,.int .i64 ((a0:Nat):Int)),(0,.slice a5 l0.length a6)]) (fun (a4,a1,a0)=>[.sli 2 Q9 a5 a6 l0,tF]) (fun (a4,a1,a0)=>[]) (N,0,l0.length) hm [4,3,0] Z (asK [0,1] Z) Z (fun s_ hm=>?_)))))))
 obtain ⟨a4,a1,a0⟩:=s_
 try dsimp only at hm ⊢
 obtain ⟨aL,aM,aC,hq,hLu1⟩:=Q1d hm
 clear hm
 subst aC
 replace hm:=hq
 clear hq
 unfold Q4N at hm
 try dsimp only at hm
 refine Q6 (Q6 ?_)
 obtain ⟨aD,hm,hLj_2⟩:=Q7 hm
 refine Q18 (σ:=Bool) (fun a3=>aD = a3) (fun a3=>[(4,.int .i64 ((a1:Nat):Int)),(3,.int .i64 ((a0:Nat):Int)),(0,.slice a5 l0.length a6),(14,.bool a3)]) (fun a3=>[.sli 2 Q9 a5 a6 l0,tF]) (fun a3=>[]) ?_ ?_
 refine Q2 (wP Z (wP Z (wN Z QB (wP Z (Qz (d:=10) (v':=.bool (decide (a1 < l0.length))) (S':=V6 ..) Z Z (Q3f (a:=a1) (b:=l0.length)) (wP Z ?_))))))
 refine Q5F (d:=11) (S':=V7 ..) Z Z (fun a8=>?_) (fun a8=>?_)
 replace hm:=Q1z hm a8
 refine wP Z (wP Z (Qz (d:=13) (v':=.bool (decide (a0 ≤ 400))) (S':=V9 ..) Z Z (natle (a:=a0) (b:=400)) (wP Z (Q3 ?_))))
 have hE:=(Zi hm).symm
 refine Qp (decide (a0 ≤ 400)) hE [4,3,0,14] Z (asK [0,1] Z) Z
 replace hm:=Q1y hm a8
 refine wO Z (wO Z (wP Z (Q3 ?_)))
 have hE:=(Zi hm).symm
 refine Qp false hE [4,3,0,14] Z (asK [0,1] Z) Z
 rintro a3 hE
 try dsimp only
 have hm:=hLj_2
 try rw [hE] at hm
 refine QA Z (fun a9=>?_) (fun a9=>?_)
 replace hm:=Q1z hm a9
 refine Q5 [4,3,0] (S':=V3 ..) Z (Qs (Q4 (Q6 (Qm (Q2 (wP Z (wP Z (wP Z ?_))))))))
 obtain ⟨aB,aE,hm⟩:=Q7 hm
 refine Q53 0 a1 Z Z Z Zq Z Z Z Z Z aE QB Qe (fun aN aO aK aI=>(Q6m Qa 1 Z (fun aP aF _=>?_)))
 subst aF
 refine wF Z Q3u (Q6l 1 1 Z Z Z Zq Z Z Z (cs:=[_]) Z Q30 Q4R Z Z (wN Z Q1j (wP Z ?_)))
 obtain ⟨aG,hm⟩:=Qd hm
 refine Qz (d:=24) (v':=.int .i64 ((a0 + aB.ids.length:Nat):Int)) (S':=V10 ..) Z Z (Q1i (a:=a0) (b:=aB.ids.length) aG) (QI (S':=V10 ..) Z Z Z Z Z (Q3 (Qj (Q4 (Q5 [3,4,0] (S':=V3 ..) Z (Q2 (wP Z (wP Z ?_))))))))
 obtain ⟨aH,hm⟩:=Qd hm
 refine Qz (d:=16) (v':=.int .i64 ((a1 + 1:Nat):Int)) (S':=V4 ..) Z Z (Q1i (a:=a1) (b:=1) aH) (QI (S':=V4 ..) Z Z Z Z Z (Q3 ?_))
 have hE:=(Zi hm).symm
 replace hE:=Q14 hLu1 hE
 refine Q1a (_,a1 + 1,a0 + aB.ids.length) (Nat.lt_succ_self _) hE [4,3,0] Z (asK [3,4] Z) Z
 replace hm:=Q1y hm a9
 refine Q5 [3] (S':=[_]) Z (Q19 (Qc (Qc (Qt ?_))))
 have hE:=(Zi hm).symm
 replace hE:=QO hLu1 hE
 refine Qp a0 hE [3] Z (asK [1] Z) Z
 rintro a2 hE
 try dsimp only
 have hm:=hLj_1
 try rw [hE] at hm
 refine Q6 (Q2 (wP Z (wP Z (Qz (d:=26) (v':=.bool (decide (400 < a2))) (S':=[_,_]) Z Z (natgt (a:=a2) (b:=400)) (wP Z (Q3 (Q4 (Q5 [2] (S':=[_]) Z (QP ?_)))))))))
 have hE:=(Zi hm).symm
 replace hE:=hE.symm
 subst hE
 refine QH (Hr:=[]) [] Tryz.results9 (QD Z) ⟨Z,Z,Z⟩ (asK [] Z) Z Z (.inl Z)
theorem Q8e (N:Nat) (a0:Int) (a1:Int) (o0:Int) (hm:Q4T N a0 a1 = some o0):Q1R Tryz.prog 26 [.int .i64 a0,.int .i64 a1] [] [] (fun v Φr Hr=>v = .int .i64 o0 ∧ Φr = [] ∧ Hr = []):=by
 unfold Q4T at hm
 refine QZ Tryz.func26 Z Tryz.ntmps26 Z (S:=[_,_]) Z (fun C=>(Q6 (Q2 (wP Z (Q3 (Q4 (Q5 [0,1] (S':=[_,_]) Z (Q6 (Q6 (Q2 (wP Z (wP Z (Q3 (Q4 ?_))))))))))))))
 refine Q5 [6,0,1] (S':=V3 ..) Z ?_
 refine QA Z (fun hb6=>?_) (fun hb6=>?_)
 replace hm:=Q1z hm hb6
 refine Q5 [] (S':=[]) Z (Q6 (Q2 (wP Z (Q3 (Q4 (QP (Qn ?_)))))))
 have hE:=(Zi hm).symm
 replace hE:=hE.symm
 subst hE
 refine QH (Hr:=[]) [] Tryz.results26 (QD Z) ⟨Z,Z,Z⟩ (asK [] Z) Z Z (.inl Z)
 replace hm:=Q1y hm hb6
 refine Q5 [0,1] (S':=[_,_]) Z (Qs (Q4 (Q6 (Q2 (wP Z (wP Z ?_))))))
 obtain ⟨hg9,hm⟩:=Qd hm
 refine Q5q Z Z Z Zq Z Z Z (run_rem hg9) (QI (S':=V4 ..) Z Z Z Z Z (Q3 (Q4 (Q5 [0,1] (S':=[_,_]) Z (Q6 ?_)))))
 obtain ⟨bj_1,hm,hLj_1⟩:=Q7 hm
 refine Q18 (σ:=Int) (fun j_1_0=>bj_1 = j_1_0) (fun j_1_0=>[(0,.int .i64 j_1_0)]) (fun j_1_0=>[]) (fun j_1_0=>[]) ?_ ?_
 refine Q6 (Q2 (wP Z (wP Z (Q3 (Q4 (Q5 [11,0,1] (S':=V3 ..) Z ?_))))))
 refine QA Z (fun hb11=>?_) (fun hb11=>?_)
 replace hm:=Q1z hm hb11
 refine Q5 [0,1] (S':=[_,_]) Z (Q2 (wP Z (wP Z (wP Z ?_))))
 obtain ⟨hg14,hm⟩:=Qd hm
 refine Qz (d:=14) (v':=.int .i64 ((Int.tmod a0 a1) + a1)) (S':=V4 ..) Z Z (i64_in hg14) (QI (S':=V4 ..) Z Z Z Z Z (Q3 ?_))
 have hE:=(Zi hm).symm
 refine Qp ((Int.tmod a0 a1) + a1) hE [0] Z (asK [] Z) Z
 replace hm:=Q1y hm hb11
 refine Q5 [0] (S':=[_]) Z (Qs ?_)
 have hE:=(Zi hm).symm
 refine Qp (Int.tmod a0 a1) hE [0] Z (asK [] Z) Z
 rintro j_1_0 hE
 try dsimp only
 have hm:=hLj_1
 try rw [hE] at hm
 refine Q6 (Q2 (wP Z (wP Z (Q3 (Q4 (Q5 [4] (S':=[_]) Z (QP ?_)))))))
 have hE:=(Zi hm).symm
 replace hE:=hE.symm
 subst hE
 refine QH (Hr:=[]) [] Tryz.results26 (QD Z) ⟨Z,Z,Z⟩ (asK [] Z) Z Z (.inl Z)
theorem Q51 (N:Nat) (a0:Int) (a1:Int)  (hm:Q3i N a0 a1 = some ()):Q1R Tryz.prog 99 [.int .i64 a0,.int .i64 a1] [] [] (fun v Φr Hr=>v = .int .i64 (IntKind.wrap .i64 ((IntKind.wrap .i64 (1000003 * (IntKind.wrap .i64 (a0 + 7)))) + a1)) ∧ Φr = [] ∧ Hr = []):=by
 unfold Q3i at hm
 refine QZ Tryz.func99 Z Tryz.ntmps99 Z (S:=[_,_]) Z (fun C=>(Q6 (Q2 (wP Z (Q3 (Q4 (Q5 [0,1] (S':=[_,_]) Z (Q6 (Q2 (wP Z (wP Z (wP Z (wP Z (wP Z ?_))))))))))))))
 refine wP Z (Q3 (Q4 (Q5 [4] (S':=[_]) Z (QP ?_))))
 have hE:=(Zi hm).symm
 refine QH (Hr:=[]) [] Tryz.results99 (QD Z) ⟨Z,Z,Z⟩ (asK [] Z) Z Z (.inl Z)
theorem Q9i (N:Nat) (aB:OA) (aC:Nat) (l0:List Int) (o2:List Int) (hm:Q5U N l0 = some o2):Q1R Tryz.prog 86 [.slice aB l0.length aC] [.sli 1 Qi aB aC l0] [] (fun v Φr Hr=>∃ (o0:OA) (o1:Nat) (o3:Nat),v = .slice o0 l0.length o1 ∧ Φr = [] ∧ Hr = [.own 3 1 Qi (.slice o0 o3 o1) o2]):=by
 unfold Q5U at hm
 refine QZ Tryz.func86 Z Tryz.ntmps86 Z (S:=[_]) Z (fun C=>(Q6 (Q2 (wP Z (Q3 (Q4 (Q5 [0] (S':=[_]) Z (Q6 (Q2 (wP Z (wN Z Q1j (wP Z ?_))))))))))))
 obtain ⟨aS,hm⟩:=Qd hm
 refine Qz (d:=7) (v':=.int .i64 ((l0.length + 12:Nat):Int)) (S':=V3 ..) Z Z (Q1i (a:=l0.length) (b:=12) aS) ?_
 obtain ⟨aN,hm⟩:=Qd hm
 refine wl_makeCap (m:=l0.length + 12) Qi Z Z Z Zq Z Z Z Z Q1j tR_3 Z Z (Nat.le_trans (Nat.mul_le_mul_left _ aN) (by decide)) (Nat.le_trans aN (by decide)) (fun g8=>(wP Z (Q3 (Q4 (Q5 [3,0] (S':=[_,_]) Z (Q6 (Q2 (wP Z (wP Z ?_)))))))))
 obtain ⟨aF,hm⟩:=Qd hm
 refine Q83 0 0 Z Z Z Zq Z Z Z Z Z Q1j tR_3 Z Z (Nat.le_trans aF (by decide)) (Nat.le_trans (Nat.mul_le_mul_right _ aF) (by decide)) (H2:=fun aI aJ=>[.own 3 1 Qi (.slice aI (l0).length aJ) l0]) (fun _ _=>Z) (fun aI aJ=>(QI (S':=V4 ..) Z Z Z Z Z (Q3 (Q4 (Q5 [3,0] (S':=[_,_]) Z (Q6 ?_))))))
 obtain ⟨aG,hm,hLj_1⟩:=Q7 hm
 refine Q18 (σ:=(List Int) × OA × Nat × Nat) (fun (a8,a2,a3,a4)=>aG = a8) (fun (a8,a2,a3,a4)=>[(3,.slice a2 a4 a3),(0,.slice aB l0.length aC)]) (fun (a8,a2,a3,a4)=>[.sli 1 Qi aB aC l0]) (fun (a8,a2,a3,a4)=>[.own 3 1 Qi (.slice a2 a4 a3) a8]) ?_ ?_
 refine Q6 (Q2 (wP Z (Q3 (Q4 (Qm (Q1f (σ:=Nat × Nat × (List Int) × OA × Nat × Nat) (fun (aA,a1,a0,a5,a6,a7)=>Q1o (Q4x N) aA (a1,a0) = some aG) (fun (aA,a1,a0,a5,a6,a7)=>aA) (fun (aA,a1,a0,a5,a6,a7)=>[(4,.int .i64 ((a1:Nat):Int)),(3,.slice a5 a7 a6),(0,.slice aB l0.length aC)]) (fun (aA,a1,a0,a5,a6,a7)=>[.sli 1 Qi aB aC l0]) (fun (aA,a1,a0,a5,a6,a7)=>[.own 3 1 Qi (.slice a5 a7 a6) a0]) (N,0,l0,aI,aJ,(l0).length) hm [4,3,0] Z (asK [0] Z) Z (fun s_ hm=>?_)))))))
 obtain ⟨aA,a1,a0,a5,a6,a7⟩:=s_
 try dsimp only at hm ⊢
 obtain ⟨aX,aY,aO,hq,hLu1⟩:=Q1d hm
 clear hm
 subst aO
 replace hm:=hq
 clear hq
 unfold Q4x at hm
 try dsimp only at hm
 refine Q6 (Q6 (Q2 (wP Z (wP Z (Qz (d:=13) (v':=.bool (decide (a1 < 12))) (S':=V4 ..) Z Z (Q3f (a:=a1) (b:=12)) (Q3 (Q4 (Q5 [13,4,3,0] (S':=V4 ..) Z ?_))))))))
 refine QA Z (fun aD=>?_) (fun aD=>?_)
 replace hm:=Q1z hm aD
 refine Q5 [4,3,0] (S':=V3 ..) Z (Qs (Q4 (Q6 (Qm (Q2 (wP Z (wP Z ?_)))))))
 obtain ⟨_,aP,hm⟩:=Q7 hm
 try dsimp only at hm
 refine wC [] [0] Z fn_99 Z (Q51 N 1 ((a1:Nat):Int) aP) (asK [] Z) Z (H':=[_]) Z ?_
 rintro _ _ _ ⟨rfl,rfl,rfl⟩
 refine QE Z Z Z Zq Z Q1j Q1w Q7g Z (zs:=[.int .i64 0]) (by kernel_rfl) Z (out:=[_]) Z (fun aZ=>?_)
 obtain ⟨aH,hm⟩:=Qd hm
 refine Q2w ([(IntKind.wrap .i64 ((IntKind.wrap .i64 (1000003 * (IntKind.wrap .i64 (1 + 7)))) + ((a1:Nat):Int)))]) 1 0 Z Z Z Zq Z Z Z Z Z (fun F w hφ=>⟨[.int .i64 (IntKind.wrap .i64 ((IntKind.wrap .i64 (1000003 * (IntKind.wrap .i64 (1 + 7)))) + ((a1:Nat):Int)))],[],Z,Z,⟨(),Z,Qv⟩,Z⟩) Q1j tR_3 Z Z (Nat.le_trans aH (by decide)) (Nat.le_trans (Nat.mul_le_mul_right _ aH) (by decide)) (H2:=fun aK aL=>[_,.own 3 1 Qi (.slice aK ((a0 ++ ([(IntKind.wrap .i64 ((IntKind.wrap .i64 (1000003 * (IntKind.wrap .i64 (1 + 7)))) + ((a1:Nat):Int)))])).length) aL) (a0 ++ ([(IntKind.wrap .i64 ((IntKind.wrap .i64 (1000003 * (IntKind.wrap .i64 (1 + 7)))) + ((a1:Nat):Int)))]))]) (fun _ _=>Z) (fun aK aL=>(Q3E 0 Z (H':=[_]) Z (QI (S':=V7 ..) Z Z Z Z Z (Q3 (Qj (Q4 (Q5 [3,4,0] (S':=V3 ..) Z (Q2 (wP Z (wP Z ?_))))))))))
 obtain ⟨aQ,hm⟩:=Qd hm
 refine Qz (d:=15) (v':=.int .i64 ((a1 + 1:Nat):Int)) (S':=V4 ..) Z Z (Q1i (a:=a1) (b:=1) aQ) (QI (S':=V4 ..) Z Z Z Z Z (Q3 ?_))
 have hE:=(Zi hm).symm
 replace hE:=Q14 hLu1 hE
 refine Q1a (_,a1 + 1,(a0 ++ ([(IntKind.wrap .i64 ((IntKind.wrap .i64 (1000003 * (IntKind.wrap .i64 (1 + 7)))) + ((a1:Nat):Int)))])),aK,aL,((a0 ++ ([(IntKind.wrap .i64 ((IntKind.wrap .i64 (1000003 * (IntKind.wrap .i64 (1 + 7)))) + ((a1:Nat):Int)))])).length)) (Nat.lt_succ_self _) hE [4,3,0] Z (asK [0] Z) Z
 replace hm:=Q1y hm aD
 refine Q5 [3,0] (S':=[_,_]) Z (Q19 (Qc (Qc (Qt ?_))))
 have hE:=(Zi hm).symm
 replace hE:=QO hLu1 hE
 refine Qp (a0,a5,a6,a7) hE [3,0] Z (asK [0] Z) Z
 rintro ⟨a8,a2,a3,a4⟩ hE
 try dsimp only
 have hm:=hLj_1
 try rw [hE] at hm
 refine Q6 (Q2 (wP Z (wP Z (wN Z Q1j ?_))))
 obtain ⟨aR,hm⟩:=Qd hm
 refine Q8R 0 Z (fun aM aE=>(Q7D Z Z Z Zq Z Z Z Z Q1j Q1w (Nat.le_trans aR (by rw [← aE.2]; exact aE.1)) aM (wP Z (Q3 (Q4 (Q5 [2] (S':=[_]) Z (QP ?_)))))))
 have hE:=(Zi hm).symm
 replace hE:=hE.symm
 subst hE
 refine QH (Hr:=[_]) [0] Tryz.results86 (QD Z) ⟨a2,a3,a4,Z,Z,Z⟩ (asK [] Z) Z Z (.inl Z)
theorem Q8Z (N:Nat) (a0:Int) (qp0:OA) (qc1:Nat) (l1:List Int) (o2:List Int) (hm:Q4X N a0 l1 = some o2):Q1R Tryz.prog 38 [.agg #[.int .i64 a0,.slice qp0 l1.length qc1]] [.sli 1 Qi qp0 qc1 l1] [] (fun v Φr Hr=>∃ (o0:OA) (o1:Nat) (o3:Nat),v = .agg #[.int .i64 a0,.slice o0 l1.length o1] ∧ Φr = [] ∧ Hr = [.own 3 1 Qi (.slice o0 o3 o1) o2]):=by
 unfold Q4X at hm
 refine QZ Tryz.func38 Z Tryz.ntmps38 Z (S:=[_]) Z (fun C=>(Q6 (Q2 (wB Z (fun g1=>(Q25 Z Z Z Zq Z Q42 Z (fun g2=>(Q3 (Q4 (Q5 [2,1] (S':=[_,_]) Z (Q6 (Q2 (wF Z Q3u (wD 1 1 Z Q30 Q4R Z ?_))))))))))))))
 obtain ⟨v5,hc5,hm⟩:=Q7 hm
 refine wC [] [0,1] Z fn_86 Z (Q9i N qp0 qc1 l1 _ hc5) (asK [0] Z) Z (H':=[_,_]) Z ?_
 rintro _ _ _ ⟨p5_0,c5_1,c5_2,rfl,rfl,rfl⟩
 refine wF Z Q3u (wS 2 1 Z Q30 (all':=[_,_]) Z (H':=V3 ..) Z (Q3 (Q4 (Q5 [2,1] (S':=[_,_]) Z (Q6 (Q2 (Q1V 2 0 Z Z Z Zq Z Z Z (cs:=[_,_]) Z Qe QS Z Z (wS 1 0 Z Qe (all':=[_,_]) Z (H':=V3 ..) Z (Q3 (Q4 (Q5 [2] (S':=[_]) Z (QP ?_))))))))))))
 have hE:=(Zi hm).symm
 replace hE:=hE.symm
 subst hE
 refine QH (Hr:=[_]) [0] Tryz.results38 (Q5D 1 Z Z Qe QS Z Z) ⟨p5_0,c5_1,c5_2,Z,Z,Z⟩ (asK [] Z) Z Z (.inl Z)
theorem Q4z (N:Nat) (a0:Int) (a1:Int)  (hm:Q2y N a0 a1 = some ()):Q1R Tryz.prog 49 [.int .i64 a0,.int .i64 a1] [] [] (fun v Φr Hr=>v = .agg #[.int .i64 (IntKind.wrap .i64 ((IntKind.wrap .i64 (1000003 * (IntKind.wrap .i64 (a0 + 7)))) + a1)),V1] ∧ Φr = [] ∧ Hr = []):=by
 unfold Q2y at hm
 refine QZ Tryz.func49 Z Tryz.ntmps49 Z (S:=[_,_]) Z (fun C=>(Q6 (Q2 (Q25 Z Z Z Zq Z Q42 Z (fun g4=>(Q3 (Q4 (Q6 (Q2 (wP Z (wP Z ?_)))))))))))
 obtain ⟨_,hc7,hm⟩:=Q7 hm
 try dsimp only at hm
 refine wC [] [0] Z fn_99 Z (Q51 N a0 a1 hc7) (asK [] Z) Z (H':=[_]) Z ?_
 rintro _ _ _ ⟨rfl,rfl,rfl⟩
 refine Q7w Z Z Z Zq Z Q42 tP_45 Z (out:=[_,_]) Z (wS 0 0 Z Qe (all':=[_,_]) Z (H':=[_]) Z (Q3 (Q4 (Q5 [4] (S':=[_]) Z (QP ?_)))))
 have hE:=(Zi hm).symm
 refine QH (Hr:=[]) [] Tryz.results49 (Q5D 0 Z Z Qe QS Z Z) ⟨Z,Z,Z⟩ (asK [] Z) Z Z (.inl Z)
theorem Q8O (N:Nat) (aQ:OA) (aR:Nat) (l0:List Q1) (o2:List Qo) (hm:Q4L N l0 = some o2):Q1R Tryz.prog 27 [.slice aQ l0.length aR] [.sli 2 Q9 aQ aR l0] [] (fun v Φr Hr=>∃ (o0:OA) (o1:Nat) (o3:Nat),v = .slice o0 l0.length o1 ∧ Φr = [] ∧ Hr = [Q1l Qx 45 2 (.slice o0 o3 o1) o2]):=by
 unfold Q4L at hm
 refine QZ Tryz.func27 Z Tryz.ntmps27 Z (S:=[_]) Z (fun C=>(Q6 (Q2 (wP Z (Q3 (Q4 (Q5 [0] (S':=[_]) Z (Q6 (Q2 (wP Z (wN Z QB (wP Z ?_))))))))))))
 obtain ⟨bT,hm⟩:=Qd hm
 refine Qz (d:=9) (v':=.int .i64 ((l0.length + 12:Nat):Int)) (S':=V3 ..) Z Z (Q1i (a:=l0.length) (b:=12) bT) ?_
 obtain ⟨b8,hm⟩:=Qd hm
 refine wl_makeCap (m:=l0.length + 12) Qb.pair Z Z Z Zq Z Z Z Z QB Q7P Z Z (Nat.le_trans (Nat.mul_le_mul_left _ b8) (by decide)) (Nat.le_trans b8 (by decide)) (fun bB=>(Q2x [Q2j Qb [] none,_] (fun _ h=>h.bagNil Qb) (Q2x [Q1l Qb 45 2 (.slice (some ⟨bB,0,none⟩) 0 (l0.length + 12)) []] (fun _ h=>h.treeIn 1 0 Z Z Z Z) (wP Z (Q3 (Q4 (Q5 [3,0] (S':=[_,_]) Z (Q6 ?_))))))))
 obtain ⟨b9,hm,hLj_1⟩:=Q7 hm
 refine Q18 (σ:=(List Qo) × OA × Nat × Nat) (fun (aA,aB,aC,aD)=>b9 = aA) (fun (aA,aB,aC,aD)=>[(3,.slice aB aD aC),(0,.slice aQ l0.length aR)]) (fun (aA,aB,aC,aD)=>[.sli 2 Q9 aQ aR l0]) (fun (aA,aB,aC,aD)=>[Q1l Qx 45 2 (.slice aB aD aC) aA]) ?_ ?_
 refine Q6 (Q2 (wP Z (Q3 (Q4 (Qm (wc_sh [Q1l Qx 45 2 (.slice (some ⟨bB,0,none⟩) 0 (l0.length + 12)) []] (fun _ h=>h.treeKind Qx 0 Z) (Q1f (σ:=Nat × Nat × (List Qo) × OA × Nat × Nat) (fun (aS,aL,a3,aF,aG,aH)=>Q1o (Q48 N l0) aS (aL,a3) = some b9) (fun (aS,aL,a3,aF,aG,aH)=>aS) (fun (aS,aL,a3,aF,aG,aH)=>[(4,.int .i64 ((aL:Nat):Int)),(3,.slice aF aH aG),(0,.slice aQ l0.length aR)]) (fun (aS,aL,a3,aF,aG,aH)=>[.sli 2 Q9 aQ aR l0]) (fun (aS,aL,a3,aF,aG,aH)=>[Q1l Qx 45 2 (.slice aF aH aG) a3]) (N,0,[],some ⟨bB,0,none⟩,l0.length + 12,0) hm [4,3,0] Z (asK [0] Z) Z (fun s_ hm=>?_))))))))
 obtain ⟨aS,aL,a3,aF,aG,aH⟩:=s_
 try dsimp only at hm ⊢
 obtain ⟨c2,c3,bF,hq,hLu1⟩:=Q1d hm
 clear hm
 subst bF
 replace hm:=hq
 clear hq
 unfold Q48 at hm
 try dsimp only at hm
 refine Q6 (Q6 (Q2 (wP Z (wP Z (wN Z QB (wP Z (Qz (d:=14) (v':=.bool (decide (aL < l0.length))) (S':=V6 ..) Z Z (Q3f (a:=aL) (b:=l0.length)) (Q3 (Q4 (Q5 [14,4,3,0] (S':=V4 ..) Z ?_))))))))))
 refine QA Z (fun aZ=>?_) (fun aZ=>?_)
 replace hm:=Q1z hm aZ
 refine Q5 [4,3,0] (S':=V3 ..) Z (Qs (Q4 (Q6 (Qm (Q6 (Q2 (wP Z (wP Z ?_))))))))
 obtain ⟨a0,bG,hm⟩:=Q7 hm
 refine Q53 0 aL Z Z Z Zq Z Z Z Z Z bG QB Qe (fun c4 c5 c0 bU=>(Q6m Qa 1 Z (fun bH bI _=>?_)))
 subst bI
 refine Q6l 1 0 Z Z Z Zq Z Z Z (cs:=[_,_]) Z Qe QS Z Z ?_
 obtain ⟨a2,bJ,hm⟩:=Q7 hm
 refine wC [] [0] Z fn_38 Z (Q8Z N a0.rule bH.1 bH.2 a0.ids _ bJ) (asK [0] Z) Z (H':=[_]) Z ?_
 rintro _ _ _ ⟨a5,a6,bV,rfl,rfl,rfl⟩
 refine Q25 Z Z Z Zq Z Q42 Z (fun g5=>(wS 0 0 Z Qe (all':=[_,_]) Z (H':=V3 ..) Z (Q3 (Q4 (Q5 [5,4,3,0] (S':=V4 ..) Z (Q2 (wP Z (Q1V 0 0 Z Z Z Zq Z Z Z (cs:=[_,_]) Z Qe QS Z Z (QE Z Z Z Zq Z QB Qe Q42 Z (zs:=[.int .i64 0,V1]) (by kernel_rfl) Z (out:=[_,_]) Z (fun bW=>(Q2o 3 Z (fun bK _=>?_))))))))))))
 subst bK
 refine QK 2 Z (fun b0 _=>?_)
 subst b0
 obtain ⟨aT,hm⟩:=Qd hm
 refine Q28 2 (φ':=.own 3 1 Qi (.slice a5 ((a2.take a0.ids.length ++ a2.drop a0.ids.length).length) a6) (a2.take a0.ids.length ++ a2.drop a0.ids.length)) Z (by rw [List.take_append_drop]) (H':=V4 ..) Z (Q4F 1 (v':=.agg #[.int .i64 (a0.rule),.slice a5 ((a2.take a0.ids.length).length) a6]) Z (by rw [Q3p aT]) (Q28 0 (φ':=.blk bW [.int .i64 (a0.rule),.slice a5 ((a2.take a0.ids.length).length) a6] 45) Z (by rw [Q3p aT]) (H':=V4 ..) Z (Q28 1 (φ':=.blk g5 [.int .i64 (a0.rule),.slice a5 ((a2.take a0.ids.length).length) a6] 45) Z (by rw [Q3p aT]) (H':=V4 ..) Z (Q46 3 Z (fun aN b1=>?_)))))
 obtain ⟨bL,hm⟩:=Qd hm
 have aM:List.map (fun x:Qo × (OA × Nat)=>x.1) (aN ++ [((⟨a0.rule,a2.take a0.ids.length,a2.drop a0.ids.length⟩ : Qo),(a5,a6))]) = a3 ++ [(⟨a0.rule,a2.take a0.ids.length,a2.drop a0.ids.length⟩ : Qo)]:=Q88 b1 (us:=[(⟨a0.rule,a2.take a0.ids.length,a2.drop a0.ids.length⟩ : Qo)]) rfl
 have b2:aN.length + ([((⟨a0.rule,a2.take a0.ids.length,a2.drop a0.ids.length⟩ : Qo),(a5,a6))] : List (Qo × (OA × Nat))).length ≤ 4398046511104:=by rw [Q3g b1]; exact bL
 refine Q2w (R:=Qx.pair) ([((⟨a0.rule,a2.take a0.ids.length,a2.drop a0.ids.length⟩ : Qo),(a5,a6))]) 4 1 Z Z Z Zq Z Z Z Z Z (fun F w hφ=>⟨[.int .i64 (a0.rule),.slice a5 ((a2.take a0.ids.length).length) a6],[],Z,Z,Z,Z⟩) QB Q7P Z Z (Nat.le_trans b2 (by decide)) (Nat.le_trans (Nat.mul_le_mul_right _ b2) (by decide)) (H2:=fun aV aW=>[_,_,_,_,.own 45 2 Qx.pair (.slice aV ((aN ++ [((⟨a0.rule,a2.take a0.ids.length,a2.drop a0.ids.length⟩ : Qo),(a5,a6))]).length) aW) (aN ++ [((⟨a0.rule,a2.take a0.ids.length,a2.drop a0.ids.length⟩ : Qo),(a5,a6))])]) (fun _ _=>Z) (fun aV aW=>(Q3E 1 Z (H':=V4 ..) Z (Qz (d:=25) (v':=.slice aV ((a3 ++ [(⟨a0.rule,a2.take a0.ids.length,a2.drop a0.ids.length⟩ : Qo)]).length) aW) (S':=V7 ..) Z Z (by rw [Q3g aM]) (Q28 3 (φ':=.own 45 2 Qx.pair (.slice aV ((a3 ++ [(⟨a0.rule,a2.take a0.ids.length,a2.drop a0.ids.length⟩ : Qo)]).length) aW) (aN ++ [((⟨a0.rule,a2.take a0.ids.length,a2.drop a0.ids.length⟩ : Qo),(a5,a6))])) Z (by rw [Q3g aM]) (H':=V4 ..) Z (Q55 [2,0,1,3] Z (H':=V4 ..) Z (Q2x [Q2j Qx (aN ++ [((⟨a0.rule,a2.take a0.ids.length,a2.drop a0.ids.length⟩ : Qo),(a5,a6))]) none,_,_] (fun _ h=>QY.bagPush (T:=Qx) (x:=(⟨a0.rule,a2.take a0.ids.length,a2.drop a0.ids.length⟩ : Qo)) (r:=(a5,a6)) (zs:=aN) (H:=V3 ..) h 0 Z) (Q2x [_,Q1l Qx 45 2 (.slice aV ((a3 ++ [(⟨a0.rule,a2.take a0.ids.length,a2.drop a0.ids.length⟩ : Qo)]).length) aW) (a3 ++ [(⟨a0.rule,a2.take a0.ids.length,a2.drop a0.ids.length⟩ : Qo)])] (fun _ h=>h.treeIn 2 0 Z Z Z aM) (QI (S':=V7 ..) Z Z Z Z Z (Q3 (Qj (Q4 (Q5 [3,4,0] (S':=V3 ..) Z (Q2 (wP Z ?_))))))))))))))
 refine wP Z ?_
 obtain ⟨bM,hm⟩:=Qd hm
 refine Qz (d:=16) (v':=.int .i64 ((aL + 1:Nat):Int)) (S':=V4 ..) Z Z (Q1i (a:=aL) (b:=1) bM) (QI (S':=V4 ..) Z Z Z Z Z (Q3 ?_))
 have hE:=(Zi hm).symm
 replace hE:=Q14 hLu1 hE
 refine Q1m [1] Z (H':=[_]) Z ?_
 refine Q1a (_,aL + 1,(a3 ++ [(⟨a0.rule,a2.take a0.ids.length,a2.drop a0.ids.length⟩ : Qo)]),aV,aW,((a3 ++ [(⟨a0.rule,a2.take a0.ids.length,a2.drop a0.ids.length⟩ : Qo)]).length)) (Nat.lt_succ_self _) hE [4,3,0] Z (asK [3] Z) Z
 replace hm:=Q1y hm aZ
 refine Q5 [3,0] (S':=[_,_]) Z (Q19 (Qc (Qc (Qt ?_))))
 have hE:=(Zi hm).symm
 replace hE:=QO hLu1 hE
 refine Qp (a3,aF,aG,aH) hE [3,0] Z (asK [0] Z) Z
 rintro ⟨aA,aB,aC,aD⟩ hE
 try dsimp only
 have hm:=hLj_1
 try rw [hE] at hm
 refine Q6 ?_
 obtain ⟨bA,hm,hLj_2⟩:=Q7 hm
 refine Q18 (σ:=(List Qo) × OA × Nat × Nat) (fun (aE,a7,a8,a9)=>bA = aE) (fun (aE,a7,a8,a9)=>[(3,.slice a7 a9 a8),(0,.slice aQ l0.length aR)]) (fun (aE,a7,a8,a9)=>[.sli 2 Q9 aQ aR l0]) (fun (aE,a7,a8,a9)=>[Q1l Qx 45 2 (.slice a7 a9 a8) aE]) ?_ ?_
 refine Q6 (Q2 (wP Z (Q3 (Q4 (Qm (Q1f (σ:=Nat × Nat × (List Qo) × OA × Nat × Nat) (fun (aU,a1,a4,aI,aJ,aK)=>Q1o (Q49 N) aU (a1,a4) = some bA) (fun (aU,a1,a4,aI,aJ,aK)=>aU) (fun (aU,a1,a4,aI,aJ,aK)=>[(6,.int .i64 ((a1:Nat):Int)),(3,.slice aI aK aJ),(0,.slice aQ l0.length aR)]) (fun (aU,a1,a4,aI,aJ,aK)=>[.sli 2 Q9 aQ aR l0]) (fun (aU,a1,a4,aI,aJ,aK)=>[Q1l Qx 45 2 (.slice aI aK aJ) a4]) (N,0,aA,aB,aC,aD) hm [6,3,0] Z (asK [0] Z) Z (fun s_ hm=>?_)))))))
 obtain ⟨aU,a1,a4,aI,aJ,aK⟩:=s_
 try dsimp only at hm ⊢
 obtain ⟨c7,c8,bN,hq,hLu2⟩:=Q1d hm
 clear hm
 subst bN
 replace hm:=hq
 clear hq
 unfold Q49 at hm
 try dsimp only at hm
 refine Q6 (Q6 (Q2 (wP Z (wP Z (Qz (d:=27) (v':=.bool (decide (a1 < 12))) (S':=V4 ..) Z Z (Q3f (a:=a1) (b:=12)) (Q3 (Q4 (Q5 [27,6,3,0] (S':=V4 ..) Z ?_))))))))
 refine QA Z (fun b3=>?_) (fun b3=>?_)
 replace hm:=Q1z hm b3
 refine Q5 [6,3,0] (S':=V3 ..) Z (Qs (Q4 (Q6 (Qm (Q2 (wP Z (wP Z ?_)))))))
 obtain ⟨_,bO,hm⟩:=Q7 hm
 try dsimp only at hm
 refine wC [] [0] Z fn_49 Z (Q4z N 1 ((a1:Nat):Int) bO) (asK [] Z) Z (H':=[_]) Z ?_
 rintro _ _ _ ⟨rfl,rfl,rfl⟩
 refine QE Z Z Z Zq Z QB Qe Q42 Z (zs:=[.int .i64 0,V1]) (by kernel_rfl) Z (out:=[_,_]) Z (fun c9=>(Q2o 1 Z (fun bC _=>?_)))
 subst bC
 refine Q84 3 1 Qi (Q28 0 (φ':=.own 3 1 Qi (.slice none ((([] : List Int) ++ []).length) 0) (([] : List Int) ++ [])) Z Z (H':=V3 ..) Z (Q46 2 Z (fun aO b4=>?_)))
 obtain ⟨bP,hm⟩:=Qd hm
 have aM:List.map (fun x:Qo × (OA × Nat)=>x.1) (aO ++ [((⟨(IntKind.wrap .i64 ((IntKind.wrap .i64 (1000003 * (IntKind.wrap .i64 (1 + 7)))) + ((a1:Nat):Int))),([] : List Int),[]⟩ : Qo),(none,0))]) = a4 ++ [(⟨(IntKind.wrap .i64 ((IntKind.wrap .i64 (1000003 * (IntKind.wrap .i64 (1 + 7)))) + ((a1:Nat):Int))),([] : List Int),[]⟩ : Qo)]:=Q88 b4 (us:=[(⟨(IntKind.wrap .i64 ((IntKind.wrap .i64 (1000003 * (IntKind.wrap .i64 (1 + 7)))) + ((a1:Nat):Int))),([] : List Int),[]⟩ : Qo)]) rfl
 have b5:aO.length + ([((⟨(IntKind.wrap .i64 ((IntKind.wrap .i64 (1000003 * (IntKind.wrap .i64 (1 + 7)))) + ((a1:Nat):Int))),([] : List Int),[]⟩ : Qo),(none,0))] : List (Qo × (OA × Nat))).length ≤ 4398046511104:=by rw [Q3g b4]; exact bP
 refine Q2w (R:=Qx.pair) ([((⟨(IntKind.wrap .i64 ((IntKind.wrap .i64 (1000003 * (IntKind.wrap .i64 (1 + 7)))) + ((a1:Nat):Int))),([] : List Int),[]⟩ : Qo),(none,0))]) 3 2 Z Z Z Zq Z Z Z Z Z (fun F w hφ=>⟨[.int .i64 (IntKind.wrap .i64 ((IntKind.wrap .i64 (1000003 * (IntKind.wrap .i64 (1 + 7)))) + ((a1:Nat):Int))),V1],[],Z,Z,Z,Z⟩) QB Q7P Z Z (Nat.le_trans b5 (by decide)) (Nat.le_trans (Nat.mul_le_mul_right _ b5) (by decide)) (H2:=fun aX aY=>[_,_,_,.own 45 2 Qx.pair (.slice aX ((aO ++ [((⟨(IntKind.wrap .i64 ((IntKind.wrap .i64 (1000003 * (IntKind.wrap .i64 (1 + 7)))) + ((a1:Nat):Int))),([] : List Int),[]⟩ : Qo),(none,0))]).length) aY) (aO ++ [((⟨(IntKind.wrap .i64 ((IntKind.wrap .i64 (1000003 * (IntKind.wrap .i64 (1 + 7)))) + ((a1:Nat):Int))),([] : List Int),[]⟩ : Qo),(none,0))])]) (fun _ _=>Z) (fun aX aY=>(Q3E 2 Z (H':=V3 ..) Z (Qz (d:=34) (v':=.slice aX ((a4 ++ [(⟨(IntKind.wrap .i64 ((IntKind.wrap .i64 (1000003 * (IntKind.wrap .i64 (1 + 7)))) + ((a1:Nat):Int))),([] : List Int),[]⟩ : Qo)]).length) aY) (S':=V7 ..) Z Z (by rw [Q3g aM]) (Q28 2 (φ':=.own 45 2 Qx.pair (.slice aX ((a4 ++ [(⟨(IntKind.wrap .i64 ((IntKind.wrap .i64 (1000003 * (IntKind.wrap .i64 (1 + 7)))) + ((a1:Nat):Int))),([] : List Int),[]⟩ : Qo)]).length) aY) (aO ++ [((⟨(IntKind.wrap .i64 ((IntKind.wrap .i64 (1000003 * (IntKind.wrap .i64 (1 + 7)))) + ((a1:Nat):Int))),([] : List Int),[]⟩ : Qo),(none,0))])) Z (by rw [Q3g aM]) (H':=V3 ..) Z (Q55 [1,0,2] Z (H':=V3 ..) Z (Q2x [Q2j Qx (aO ++ [((⟨(IntKind.wrap .i64 ((IntKind.wrap .i64 (1000003 * (IntKind.wrap .i64 (1 + 7)))) + ((a1:Nat):Int))),([] : List Int),[]⟩ : Qo),(none,0))]) none,_] (fun _ h=>QY.bagPush (T:=Qx) (x:=(⟨(IntKind.wrap .i64 ((IntKind.wrap .i64 (1000003 * (IntKind.wrap .i64 (1 + 7)))) + ((a1:Nat):Int))),([] : List Int),[]⟩ : Qo)) (r:=(none,0)) (zs:=aO) (H:=[_,_]) h 0 Z) (Q2x [Q1l Qx 45 2 (.slice aX ((a4 ++ [(⟨(IntKind.wrap .i64 ((IntKind.wrap .i64 (1000003 * (IntKind.wrap .i64 (1 + 7)))) + ((a1:Nat):Int))),([] : List Int),[]⟩ : Qo)]).length) aY) (a4 ++ [(⟨(IntKind.wrap .i64 ((IntKind.wrap .i64 (1000003 * (IntKind.wrap .i64 (1 + 7)))) + ((a1:Nat):Int))),([] : List Int),[]⟩ : Qo)])] (fun _ h=>h.treeIn 1 0 Z Z Z aM) (QI (S':=V7 ..) Z Z Z Z Z (Q3 (Qj (Q4 (Q5 [3,6,0] (S':=V3 ..) Z (Q2 (wP Z ?_))))))))))))))
 refine wP Z ?_
 obtain ⟨bQ,hm⟩:=Qd hm
 refine Qz (d:=29) (v':=.int .i64 ((a1 + 1:Nat):Int)) (S':=V4 ..) Z Z (Q1i (a:=a1) (b:=1) bQ) (QI (S':=V4 ..) Z Z Z Z Z (Q3 ?_))
 have hE:=(Zi hm).symm
 replace hE:=Q14 hLu2 hE
 refine Q1a (_,a1 + 1,(a4 ++ [(⟨(IntKind.wrap .i64 ((IntKind.wrap .i64 (1000003 * (IntKind.wrap .i64 (1 + 7)))) + ((a1:Nat):Int))),([] : List Int),[]⟩ : Qo)]),aX,aY,((a4 ++ [(⟨(IntKind.wrap .i64 ((IntKind.wrap .i64 (1000003 * (IntKind.wrap .i64 (1 + 7)))) + ((a1:Nat):Int))),([] : List Int),[]⟩ : Qo)]).length)) (Nat.lt_succ_self _) hE [6,3,0] Z (asK [0] Z) Z
 replace hm:=Q1y hm b3
 refine Q5 [3,0] (S':=[_,_]) Z (Q19 (Qc (Qc (Qt ?_))))
 have hE:=(Zi hm).symm
 replace hE:=QO hLu2 hE
 refine Qp (a4,aI,aJ,aK) hE [3,0] Z (asK [0] Z) Z
 rintro ⟨aE,a7,a8,a9⟩ hE
 try dsimp only
 have hm:=hLj_2
 try rw [hE] at hm
 refine Q6 (Q2 (wP Z (wP Z (wN Z QB ?_))))
 obtain ⟨bR,hm⟩:=Qd hm
 refine Q46 0 Z (fun bS b6=>?_)
 have bD:l0.length ≤ bS.length:=by rw [Q3g b6]; exact bR
 refine Q8R 1 Z (fun bE b7=>(Q7D Z Z Z Zq Z Z Z Z QB Qe (Nat.le_trans bD (by rw [← b7.2]; exact b7.1)) bE (wP Z (Q3 (Q4 (Q5 [2] (S':=[_]) Z (QP ?_)))))))
 have hE:=(Zi hm).symm
 replace hE:=hE.symm
 subst hE
 refine Q6F [Q1l Qx 45 2 (.slice a7 a9 a8) aE] (fun _ h=>h.treeIn 1 0 Z Z Z b6) ?_
 refine QH (Hr:=[_]) [0] Tryz.results27 (QD Z) ⟨a7,a8,a9,Z,Z,Z⟩ (asK [] Z) Z Z (.inl Z)
end Go.Proofs.YtgangmegcejllaaGreatDoor
