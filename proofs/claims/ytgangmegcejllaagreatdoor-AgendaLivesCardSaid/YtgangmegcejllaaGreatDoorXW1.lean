import Derived.Test.YtgangmegcejllaaGreatDoorProg
import Derived.DeepKeys4
import Derived.Test.YtgangmegcejllaaGreatDoorXM
import Derived.Test.YtgangmegcejllaaGreatDoorFlow
namespace Go.Proofs.YtgangmegcejllaaGreatDoor
open Go.RowKit
set_option maxRecDepth 100000
set_option maxHeartbeats 4000000
theorem Q8I:Tryz.prog.underlying 64 = some (.map 9 4):=by kernel_rfl
theorem Qa7 (N:Nat) (aB:OA) (aC:Nat) (l0:List Int) (o2:List QG) (hm:Q4l N l0 = some o2):Q1R Tryz.prog 6 [.slice aB l0.length aC] [.sli 1 Qi aB aC l0,tF] [] (fun v Φr Hr=>∃ (o0:OA) (o1:Nat) (o3:Nat),v = .agg #[V1,.slice o0 o3 o1] ∧ Φr = [] ∧ Hr = [.own 38 5 QM (.slice o0 o3 o1) o2]):=by
 unfold Q4l at hm
 refine QZ Tryz.func6 Z Tryz.ntmps6 Z (S:=[_]) Z (fun C=>(Q6 (Q2 (Q25 Z Z Z Zq Z tZ_28 Z (fun g2=>(Q3 (Q4 (Q6 (Q2 (Q25 Z Z Z Zq Z tZ_28 Z (fun g3=>(Q3 (Q4 (Q6 ?_))))))))))))))
 obtain ⟨aE,hm,hLj_1⟩:=Q7 hm
 refine Q18 (σ:=(List QG) × OA × Nat × Nat) (fun (a7,a1,a2,a3)=>aE = a7) (fun (a7,a1,a2,a3)=>[(2,.pointer (some ⟨g2,0,none⟩)),(3,.pointer (some ⟨g3,0,none⟩))]) (fun (a7,a1,a2,a3)=>[tF]) (fun (a7,a1,a2,a3)=>[.blk g2 [V1,V1] 28,.blk g3 [V1,.slice a1 a3 a2] 28,.own 38 5 QM (.slice a1 a3 a2) a7]) ?_ ?_
 refine Q6 (Q2 (wP Z (Q3 (Q4 (Qm (Q52 38 5 QM (Q6L [1,0,2] Z (H':=V3 ..) Z (Q1f (σ:=Nat × Nat × (List QG) × OA × Nat × Nat) (fun (a9,a8,a0,a4,a5,a6)=>Q1o (Q45 N l0) a9 (a8,a0) = some aE) (fun (a9,a8,a0,a4,a5,a6)=>a9) (fun (a9,a8,a0,a4,a5,a6)=>[(4,.int .i64 ((a8:Nat):Int)),(3,.pointer (some ⟨g3,0,none⟩)),(2,.pointer (some ⟨g2,0,none⟩)),(0,.slice aB l0.length aC)]) (fun (a9,a8,a0,a4,a5,a6)=>[.sli 1 Qi aB aC l0,tF]) (fun (a9,a8,a0,a4,a5,a6)=>[.blk g3 [V1,.slice a4 a6 a5] 28,.own 38 5 QM (.slice a4 a6 a5) a0,.blk g2 [V1,V1] 28]) (N,0,[],none,0,0) hm [4,3,2,0] Z (asK [0,1] Z) Z (fun s_ hm=>?_)))))))))
 obtain ⟨a9,a8,a0,a4,a5,a6⟩:=s_
 try dsimp only at hm ⊢
 obtain ⟨aV,aW,aJ,hq,hLu1⟩:=Q1d hm
 clear hm
 subst aJ
 replace hm:=hq
 clear hq
 unfold Q45 at hm
 try dsimp only at hm
 refine Q6 (Q6 (Q2 (wP Z (wP Z (wN Z Q1j (wP Z (Qz (d:=8) (v':=.bool (decide (a8 < l0.length))) (S':=V7 ..) Z Z (Q3f (a:=a8) (b:=l0.length)) (Q3 (Q4 (Q5 [8,4,3,2,0] (S':=V5 ..) Z ?_))))))))))
 refine QA Z (fun aG=>?_) (fun aG=>?_)
 replace hm:=Q1z hm aG
 refine Q5 [4,3,2,0] (S':=V4 ..) Z (Qs (Q4 (Q6 (Qm ?_))))
 obtain ⟨aA,aK,hm⟩:=Q7 hm
 obtain ⟨aF,hm⟩:=Qd hm
 refine QV [0,1,2,3,4,5,6,9] Z Z (fun hok=>(Ql hok 0 Z Z Z Zq Z Z Z Q5u (Qq hok 1 0 1 Z Z Z Zq Z Z Z Z (cs:=[_]) Z Q7r Q7U Z Z (xP hok 2 Z (xP hok 3 Z (Q1Q hok 4 0 a8 Z Z Z Zq Z Z Z Z Z Z aK Q1j Q1w (fun aX aY aU aP=>(Q2e Q1K 1 Z (fun aZ aL _=>?_)))))))))
 subst aL
 refine Q2Q hok 5 0 0 Z Z Z Zq Z Z Z Z (cs:=[_]) Z Q1w Q3z Z Z (wx_build hok 6 Z Z Z Zq Z Z tZ_38 tP_38 Z (out:=V5 ..) Z (xS hok 7 Z (QE Z Z Z Zq Z Q72 Q7V tZ_38 Z (zs:=[.string ((⟨#[]⟩ : ByteArray)),.int .i64 0,.int .i64 0,V1,V1]) (by kernel_rfl) Z (out:=V5 ..) Z (fun b0=>(Q3 (Qy [0,1,2,3] [1] Z Z (xS hok 8 Z (Q2w ([(⟨(⟨#[]⟩ : ByteArray),aA,0,[],[]⟩ : QG)]) 2 0 Z Z Z Zq Z Z Z Z Z (fun F w hφ=>⟨[.string ((⟨#[]⟩ : ByteArray)),.int .i64 aA,.int .i64 0,V1,V1],[],Z,Z,⟨((none,0),(none,0)),Z,(Qh Q5n (Qh Q5n Qv))⟩,Z⟩) Q72 tR_38 Z Z (Nat.le_trans aF (by decide)) (Nat.le_trans (Nat.mul_le_mul_right _ aF) (by decide)) (H2:=fun aH aI=>[_,_,.own 38 5 QM (.slice aH ((a0 ++ ([(⟨(⟨#[]⟩ : ByteArray),aA,0,[],[]⟩ : QG)])).length) aI) (a0 ++ ([(⟨(⟨#[]⟩ : ByteArray),aA,0,[],[]⟩ : QG)])),_]) (fun _ _=>Z) (fun aH aI=>(Q3E 0 Z (H':=V3 ..) Z (Q3 (Qy [0,1,2,3] [] Z Z (Ql hok 9 Z Z Z Zq Z Z Z Q5u (xS hok 10 Z (wS 0 1 Z Q7r (all':=[_,_]) Z (H':=V3 ..) Z ?_)))))))))))))))
 refine Q3 (Qy [0,1,2,3] [] Z Z (QL hok Z (Qj (Q4 (Q5 [4,3,2,0] (S':=V4 ..) Z (Q2 (wP Z (wP Z ?_))))))))
 obtain ⟨aM,hm⟩:=Qd hm
 refine Qz (d:=10) (v':=.int .i64 ((a8 + 1:Nat):Int)) (S':=V5 ..) Z Z (Q1i (a:=a8) (b:=1) aM) (QI (S':=V5 ..) Z Z Z Z Z (Q3 ?_))
 have hE:=(Zi hm).symm
 replace hE:=Q14 hLu1 hE
 refine Q1a (_,a8 + 1,(a0 ++ ([(⟨(⟨#[]⟩ : ByteArray),aA,0,[],[]⟩ : QG)])),aH,aI,((a0 ++ ([(⟨(⟨#[]⟩ : ByteArray),aA,0,[],[]⟩ : QG)])).length)) (Nat.lt_succ_self _) hE [4,3,2,0] Z (asK [2,3] Z) Z
 replace hm:=Q1y hm aG
 refine Q5 [3,2] (S':=[_,_]) Z (Q19 (Qc (Qc (Qt ?_))))
 have hE:=(Zi hm).symm
 replace hE:=QO hLu1 hE
 refine Q1m [2,0,1] Z (H':=V3 ..) Z ?_
 refine Qp (a0,a4,a5,a6) hE [2,3] Z (asK [1] Z) Z
 rintro ⟨a7,a1,a2,a3⟩ hE
 try dsimp only
 have hm:=hLj_1
 try rw [hE] at hm
 refine Q6 (Q2 (Q1V 1 0 Z Z Z Zq Z Z Z (cs:=[_,_]) Z Q6s Q7a Z Z (wS 0 0 Z Q6s (all':=[_,_]) Z (H':=V3 ..) Z (Q3 (Q4 (Q5 [2] (S':=[_]) Z (QP ?_)))))))
 have hE:=(Zi hm).symm
 replace hE:=hE.symm
 subst hE
 refine QH (Hr:=[_]) [2] Tryz.results6 (Q5D 0 Z Z Q6s Q7a Z Z) ⟨a1,a2,a3,Z,Z,Z⟩ (asK [] Z) Z Z (.inl Z)
theorem Q9t (N:Nat) (aB:Addr) (aC:Nat) (aD:Nat) (l0:List Int) (o2:List QG) (hm:Q4l N l0 = some o2):Q1R Tryz.prog 6 [.slice (some aB) aC aD] [tF] [.own 3 1 Qi (.slice (some aB) aC aD) l0] (fun v Φr Hr=>∃ (o0:OA) (o1:Nat) (o3:Nat),v = .agg #[V1,.slice o0 o3 o1] ∧ Φr = [] ∧ Hr = [.own 38 5 QM (.slice o0 o3 o1) o2,.own 3 1 Qi (.slice (some aB) aC aD) l0]):=by
 unfold Q4l at hm
 refine QZ Tryz.func6 Z Tryz.ntmps6 Z (S:=[_]) Z (fun C=>(Q6 (Q2 (Q25 Z Z Z Zq Z tZ_28 Z (fun g2=>(Q3 (Q4 (Q6 (Q2 (Q25 Z Z Z Zq Z tZ_28 Z (fun g3=>(Q3 (Q4 (Q6 ?_))))))))))))))
 obtain ⟨aF,hm,hLj_1⟩:=Q7 hm
 refine Q18 (σ:=(List QG) × OA × Nat × Nat) (fun (a7,a1,a2,a3)=>aF = a7) (fun (a7,a1,a2,a3)=>[(2,.pointer (some ⟨g2,0,none⟩)),(3,.pointer (some ⟨g3,0,none⟩))]) (fun (a7,a1,a2,a3)=>[tF]) (fun (a7,a1,a2,a3)=>[.blk g2 [V1,V1] 28,.blk g3 [V1,.slice a1 a3 a2] 28,.own 38 5 QM (.slice a1 a3 a2) a7,.own 3 1 Qi (.slice (some aB) aC aD) l0]) ?_ ?_
 refine Q6 (Q2 (wP Z (Q3 (Q4 (Qm (Q52 38 5 QM (Q6L [1,0,2,3] Z (H':=V4 ..) Z (Q1f (σ:=Nat × Nat × (List QG) × OA × Nat × Nat) (fun (a9,a8,a0,a4,a5,a6)=>Q1o (Q45 N l0) a9 (a8,a0) = some aF) (fun (a9,a8,a0,a4,a5,a6)=>a9) (fun (a9,a8,a0,a4,a5,a6)=>[(4,.int .i64 ((a8:Nat):Int)),(3,.pointer (some ⟨g3,0,none⟩)),(2,.pointer (some ⟨g2,0,none⟩)),(0,.slice (some aB) aC aD)]) (fun (a9,a8,a0,a4,a5,a6)=>[tF]) (fun (a9,a8,a0,a4,a5,a6)=>[.blk g3 [V1,.slice a4 a6 a5] 28,.own 38 5 QM (.slice a4 a6 a5) a0,.blk g2 [V1,V1] 28,.own 3 1 Qi (.slice (some aB) aC aD) l0]) (N,0,[],none,0,0) hm [4,3,2,0] Z (asK [0] Z) Z (fun s_ hm=>?_)))))))))
 obtain ⟨a9,a8,a0,a4,a5,a6⟩:=s_
 try dsimp only at hm ⊢
 obtain ⟨aV,aW,aL,hq,hLu1⟩:=Q1d hm
 clear hm
 subst aL
 replace hm:=hq
 clear hq
 unfold Q45 at hm
 try dsimp only at hm
 refine Q6 (Q6 (Q2 (wP Z (wP Z (QK 3 Z (fun aQ _=>(wN Z Q1j (Qz (d:=7) (v':=.int .i64 ((l0.length:Nat):Int)) (S':=V6 ..) Z Z (Q4A aQ) (wP Z (Qz (d:=8) (v':=.bool (decide (a8 < l0.length))) (S':=V7 ..) Z Z (Q3f (a:=a8) (b:=l0.length)) (Q3 (Q4 (Q5 [8,4,3,2,0] (S':=V5 ..) Z ?_)))))))))))))
 refine QA Z (fun aI=>?_) (fun aI=>?_)
 replace hm:=Q1z hm aI
 refine Q5 [4,3,2,0] (S':=V4 ..) Z (Qs (Q4 (Q6 (Qm ?_))))
 obtain ⟨aA,aG,hm⟩:=Q7 hm
 obtain ⟨aH,hm⟩:=Qd hm
 refine QV [0,1,2,3,4,5,6,9] Z Z (fun hok=>(Ql hok 0 Z Z Z Zq Z Z Z Q5u (Qq hok 1 0 1 Z Z Z Zq Z Z Z Z (cs:=[_]) Z Q7r Q7U Z Z (xP hok 2 Z (xP hok 3 Z (Q1F hok 4 3 a8 Z Z Z Zq Z Z Z Z Z Z (Qw aG) Q1j Q1w (fun aX aM=>?_)))))))
 obtain rfl:=Zi aM
 refine Q3j hok 5 Q1K 3 a8 0 Z Z Z Zq Z Z Z Z aG Q1w Q3z (v:=.int .i64 aA) Z Z (fun _=>(wx_build hok 6 Z Z Z Zq Z Z tZ_38 tP_38 Z (out:=V5 ..) Z (xS hok 7 Z (QE Z Z Z Zq Z Q72 Q7V tZ_38 Z (zs:=[.string ((⟨#[]⟩ : ByteArray)),.int .i64 0,.int .i64 0,V1,V1]) (by kernel_rfl) Z (out:=V5 ..) Z (fun aY=>(Q3 (Qy [0] [4,1] Z Z (xS hok 8 Z (Q2w ([(⟨(⟨#[]⟩ : ByteArray),aA,0,[],[]⟩ : QG)]) 2 0 Z Z Z Zq Z Z Z Z Z (fun F w hφ=>⟨[.string ((⟨#[]⟩ : ByteArray)),.int .i64 aA,.int .i64 0,V1,V1],[],Z,Z,⟨((none,0),(none,0)),Z,(Qh Q5n (Qh Q5n Qv))⟩,Z⟩) Q72 tR_38 Z Z (Nat.le_trans aH (by decide)) (Nat.le_trans (Nat.mul_le_mul_right _ aH) (by decide)) (H2:=fun aJ aK=>[_,_,.own 38 5 QM (.slice aJ ((a0 ++ ([(⟨(⟨#[]⟩ : ByteArray),aA,0,[],[]⟩ : QG)])).length) aK) (a0 ++ ([(⟨(⟨#[]⟩ : ByteArray),aA,0,[],[]⟩ : QG)])),_,_]) (fun _ _=>Z) (fun aJ aK=>(Q3E 0 Z (H':=V4 ..) Z (Q3 (Qy [0] [3] Z Z (Ql hok 9 Z Z Z Zq Z Z Z Q5u (xS hok 10 Z (wS 0 1 Z Q7r (all':=[_,_]) Z (H':=V4 ..) Z ?_))))))))))))))))
 refine Q3 (Qy [0] [] Z Z (QL hok Z (Qj (Q4 (Q5 [4,3,2,0] (S':=V4 ..) Z (Q2 (wP Z (wP Z ?_))))))))
 obtain ⟨aN,hm⟩:=Qd hm
 refine Qz (d:=10) (v':=.int .i64 ((a8 + 1:Nat):Int)) (S':=V5 ..) Z Z (Q1i (a:=a8) (b:=1) aN) (QI (S':=V5 ..) Z Z Z Z Z (Q3 ?_))
 have hE:=(Zi hm).symm
 replace hE:=Q14 hLu1 hE
 refine Q1a (_,a8 + 1,(a0 ++ ([(⟨(⟨#[]⟩ : ByteArray),aA,0,[],[]⟩ : QG)])),aJ,aK,((a0 ++ ([(⟨(⟨#[]⟩ : ByteArray),aA,0,[],[]⟩ : QG)])).length)) (Nat.lt_succ_self _) hE [4,3,2,0] Z (asK [0] Z) Z
 replace hm:=Q1y hm aI
 refine Q5 [3,2] (S':=[_,_]) Z (Q19 (Qc (Qc (Qt ?_))))
 have hE:=(Zi hm).symm
 replace hE:=QO hLu1 hE
 refine Q1m [2,0,1,3] Z (H':=V4 ..) Z ?_
 refine Qp (a0,a4,a5,a6) hE [2,3] Z (asK [0] Z) Z
 rintro ⟨a7,a1,a2,a3⟩ hE
 try dsimp only
 have hm:=hLj_1
 try rw [hE] at hm
 refine Q6 (Q2 (Q1V 1 0 Z Z Z Zq Z Z Z (cs:=[_,_]) Z Q6s Q7a Z Z (wS 0 0 Z Q6s (all':=[_,_]) Z (H':=V4 ..) Z (Q3 (Q4 (Q5 [2] (S':=[_]) Z (QP ?_)))))))
 have hE:=(Zi hm).symm
 replace hE:=hE.symm
 subst hE
 refine QH (Hr:=[_,_]) [2,3] Tryz.results6 (Q5D 0 Z Z Q6s Q7a Z Z) ⟨a1,a2,a3,Z,Z,Z⟩ (asK [] Z) Z Z (.inl Z)
theorem Q9P (N:Nat) (a0:Int) (qp0:OA) (qc1:Nat) (l1:List Int)  (hm:Q13 N a0 l1 = some ()):Q1R Tryz.prog 19 [.int .i64 a0,.slice qp0 l1.length qc1] [.sli 1 Qi qp0 qc1 l1,tF] [] (fun v Φr Hr=>v = .agg #[.int .i64 a0,.slice qp0 l1.length qc1] ∧ Φr = [.sli 1 Qi qp0 qc1 l1] ∧ Hr = []):=by
 unfold Q13 at hm
 refine QZ Tryz.func19 Z Tryz.ntmps19 Z (S:=[_,_]) Z (fun C=>(Q6 (Q2 (Q25 Z Z Z Zq Z Q42 Z (fun g4=>(Q3 (Q4 (Q6 (Q2 (wP Z (wP Z (Q7w Z Z Z Zq Z Q42 tP_45 Z (out:=[_,_]) Z (wS 0 0 Z Qe (all':=[_,_]) Z (H':=[_]) Z (Q3 (Q4 ?_)))))))))))))))
 refine Q5 [4] (S':=[_]) Z (QP ?_)
 have hE:=(Zi hm).symm
 refine QH (Hr:=[]) [] Tryz.results19 (Q5D 0 Z Z Qe QS Z Z) ⟨Z,Z,Z⟩ (asK [0] Z) Z Z (.inl Z)
theorem Q10 (N:Nat) (a0:Int) (qp0:Addr) (qn1:Nat) (qc2:Nat) (l1:List Int)  (hm:Q13 N a0 l1 = some ()):Q1R Tryz.prog 19 [.int .i64 a0,.slice (some qp0) qn1 qc2] [tF] [.own 3 1 Qi (.slice (some qp0) qn1 qc2) l1] (fun v Φr Hr=>v = .agg #[.int .i64 a0,.slice (some qp0) qn1 qc2] ∧ Φr = [] ∧ Hr = [.own 3 1 Qi (.slice (some qp0) qn1 qc2) l1]):=by
 unfold Q13 at hm
 refine QZ Tryz.func19 Z Tryz.ntmps19 Z (S:=[_,_]) Z (fun C=>(Q6 (Q2 (Q25 Z Z Z Zq Z Q42 Z (fun g4=>(Q3 (Q4 (Q6 (Q2 (wP Z (wP Z (Q7w Z Z Z Zq Z Q42 tP_45 Z (out:=[_,_]) Z (wS 0 0 Z Qe (all':=[_,_]) Z (H':=[_,_]) Z (Q3 (Q4 ?_)))))))))))))))
 refine Q5 [4] (S':=[_]) Z (QP ?_)
 have hE:=(Zi hm).symm
 refine QH (Hr:=[_]) [1] Tryz.results19 (Q5D 0 Z Z Qe QS Z Z) ⟨Z,Z,Z⟩ (asK [] Z) Z Z (.inl Z)
theorem Q9c (N:Nat) (aH:OA) (aI:Nat) (l0:List Qr) (aC:OA) (aD:Nat) (l1:List QG) (o2:List Int) (hm:Q7E N l0 l1 = some o2):Q1R Tryz.prog 24 [.agg #[.slice aH l0.length aI,.slice aC l1.length aD]] [.sli 2 QR aH aI l0,.sli 5 QM aC aD l1,tF] [] (fun v Φr Hr=>∃ (o0:Addr) (o1:Nat) (o3:Nat),v = .slice (some o0) o3 o1 ∧ Φr = [] ∧ Hr = [.own 3 1 Qi (.slice (some o0) o3 o1) o2]):=by
 unfold Q7E at hm
 refine QZ Tryz.func24 Z Tryz.ntmps24 Z (S:=[_]) Z (fun C=>(Q6 (Q2 (wB Z (fun g1=>(wP Z (Q3 (Q4 (Q5 [1] (S':=[_]) Z (Q6 (Q2 (QE Z Z Z Zq Z tE_62 Q1w Q7g Z (zs:=[]) (by kernel_rfl) Z (out:=[]) Z (fun g6=>(wP Z (Q3 (Q4 ?_))))))))))))))))
 refine Q5 [3,1] (S':=[_,_]) Z (Q6 ?_)
 obtain ⟨aE,hm,hLj_1⟩:=Q7 hm
 refine Q18 (σ:=(List Int) × Addr × Nat × Nat) (fun (a8,a2,a3,a4)=>aE = a8) (fun (a8,a2,a3,a4)=>[(3,.slice (some a2) a4 a3)]) (fun (a8,a2,a3,a4)=>[tF]) (fun (a8,a2,a3,a4)=>[.own 3 1 Qi (.slice (some a2) a4 a3) a8]) ?_ ?_
 refine Q6 (Q2 (wF Z Q5u (wD 1 1 Z Q7r Q7U Z (wN Z Q72 (wP Z (Q3 (Q4 (Q5 [10,9,8,3] (S':=V4 ..) Z (Qm (wc_row (sz:=1) (m:=0) Qi [] 0 Z (fun F w hφ=>Z) Z (by decide) (H':=[_,_]) Z (Q6L [0] Z (H':=[_]) Z (Q1f (σ:=Nat × Nat × (List Int) × Addr × Nat × Nat) (fun (a9,a1,a0,a5,a6,a7)=>Q1o (Q79 N l1) a9 (a1,a0) = some aE) (fun (a9,a1,a0,a5,a6,a7)=>a9) (fun (a9,a1,a0,a5,a6,a7)=>[(10,.int .i64 ((a1:Nat):Int)),(9,.int .i64 ((l1.length:Nat):Int)),(8,.slice aC l1.length aD),(3,.slice (some a5) a7 a6)]) (fun (a9,a1,a0,a5,a6,a7)=>[.sli 5 QM aC aD l1,tF]) (fun (a9,a1,a0,a5,a6,a7)=>[.own 3 1 Qi (.slice (some a5) a7 a6) a0]) (N,0,[],⟨g6,0,none⟩,0,0) hm [10,9,8,3] Z (asK [1,2] Z) Z (fun s_ hm=>?_)))))))))))))
 obtain ⟨a9,a1,a0,a5,a6,a7⟩:=s_
 try dsimp only at hm ⊢
 obtain ⟨aY,aZ,aJ,hq,hLu1⟩:=Q1d hm
 clear hm
 subst aJ
 replace hm:=hq
 clear hq
 unfold Q79 at hm
 try dsimp only at hm
 refine Q6 (Q2 (wP Z (Qz (d:=11) (v':=.bool (decide (a1 < l1.length))) (S':=V4 ..) Z Z (Q3f (a:=a1) (b:=l1.length)) (Q3 (Q4 (Q6 ?_))))))
 refine QA Z (fun aB=>?_) (fun aB=>?_)
 replace hm:=Q1z hm aB
 refine Q5 [10,9,8,3] (S':=V4 ..) Z (Qs (Q4 (Q6 (Qm (Q6 (Q2 ?_))))))
 obtain ⟨aA,aK,hm⟩:=Q7 hm
 refine Q53 0 a1 Z Z Z Zq Z Z Z Z Z aK Q72 Q7V (fun b0 b1 aW aQ=>(Q6m Q6g 1 Z (fun b2 aL _=>?_)))
 subst aL
 refine Q6l 2 0 Z Z Z Zq Z Z Z (cs:=V5 ..) Z Q7V tA_38 Z Z (Q25 Z Z Z Zq Z tZ_38 Z (fun g5=>(wS 0 0 Z Q7V (all':=V5 ..) Z (H':=[_,_]) Z (Q3 (Q4 (Q5 [5,10,9,8,3] (S':=V5 ..) Z (Q2 (wP Z (wF Z tF_38_1 (wD 0 1 Z Q1w Q3z Z (QE Z Z Z Zq Z tE_62 Q1w Q7g Z (zs:=[.int .i64 0]) (by kernel_rfl) Z (out:=[_]) Z (fun b3=>?_))))))))))))
 obtain ⟨aF,hm⟩:=Qd hm
 refine Q2w [aA.salience] 2 0 Z Z Z Zq Z Z Z Z Z (fun F w hφ=>⟨[.int .i64 (aA.salience)],[],Z,Z,⟨(),Z,Qv⟩,Z⟩) tE_62 tR_3 Z Z (Nat.le_trans aF (by decide)) (Nat.le_trans (Nat.mul_le_mul_right _ aF) (by decide)) (H2:=fun aM aG=>[_,_,.own 3 1 Qi (.slice aM ((a0 ++ [aA.salience]).length) aG) (a0 ++ [aA.salience])]) (fun _ _=>Z) (fun aM aG=>(Q3E 0 Z (H':=[_,_]) Z (wl_nn 1 Z (by simp) (fun aR aN=>?_))))
 subst aN
 refine QI (S':=V9 ..) Z Z Z Z Z (Q3 (Qj (Q4 (Q5 [3,10,9,8] (S':=V4 ..) Z (Q2 (wP Z ?_))))))
 obtain ⟨aO,hm⟩:=Qd hm
 refine Qz (d:=19) (v':=.int .i64 ((a1 + 1:Nat):Int)) (S':=V4 ..) Z Z (Q1i (a:=a1) (b:=1) aO) (QI (S':=V4 ..) Z Z Z Z Z (Q3 ?_))
 have hE:=(Zi hm).symm
 replace hE:=Q14 hLu1 hE
 refine Q1m [1] Z (H':=[_]) Z ?_
 refine Q1a (_,a1 + 1,a0 ++ [aA.salience],aR,aG,(a0 ++ [aA.salience]).length) (Nat.lt_succ_self _) hE [10,9,8,3] Z (asK [4,5] Z) Z
 replace hm:=Q1y hm aB
 refine Q5 [3] (S':=[_]) Z (Q19 (Qc (Qc (Qt ?_))))
 have hE:=(Zi hm).symm
 replace hE:=QO hLu1 hE
 refine Qp (a0,a5,a6,a7) hE [3] Z (asK [1] Z) Z
 rintro ⟨a8,a2,a3,a4⟩ hE
 try dsimp only
 have hm:=hLj_1
 try rw [hE] at hm
 refine Q6 (Q2 (wP Z (wP Z (Q3 (Q4 (Q5 [2] (S':=[_]) Z (QP ?_)))))))
 have hE:=(Zi hm).symm
 replace hE:=hE.symm
 subst hE
 refine QH (Hr:=[_]) [0] Tryz.results24 (QD Z) ⟨a2,a3,a4,Z,Z,Z⟩ (asK [] Z) Z Z (.inl Z)
theorem Q6t (N:Nat) (qp0:OA) (qc1:Nat) (l0:List Int) (a1:Int) (qp2:OA) (qc3:Nat) (l2:List Int) (o0:Int) (hm:Q5G N l0 a1 l2 = some o0):Q1R Tryz.prog 92 [.slice qp0 l0.length qc1,.agg #[.int .i64 a1,.slice qp2 l2.length qc3]] [.sli 1 Qi qp0 qc1 l0,.sli 1 Qi qp2 qc3 l2,tF] [] (fun v Φr Hr=>v = .int .i64 o0 ∧ Φr = [] ∧ Hr = []):=by
 unfold Q5G at hm
 refine QZ Tryz.func92 Z Tryz.ntmps92 Z (S:=[_,_]) Z (fun C=>(Q6 (Q2 (wB Z (fun g3=>(wP Z (Q3 (Q4 (Q5 [3,0] (S':=[_,_]) Z (Q6 (Q6 ?_)))))))))))
 obtain ⟨bj_1,hm,hLj_1⟩:=Q7 hm
 refine Q18 (σ:=Bool) (fun j_1_14=>bj_1 = j_1_14) (fun j_1_14=>[(3,.pointer (some ⟨g3,0,none⟩)),(0,.slice qp0 l0.length qc1),(14,.bool j_1_14)]) (fun j_1_14=>[.sli 1 Qi qp2 qc3 l2,.sli 1 Qi qp0 qc1 l0,tF]) (fun j_1_14=>[.blk g3 [.int .i64 a1,.slice qp2 l2.length qc3] 45]) ?_ ?_
 refine Q2 (wF Z Q2L (wD 0 0 Z Q1w Q3z Z (wP Z (wP Z ?_))))
 refine Q5F (d:=8) (S':=V5 ..) Z Z (fun hs8=>?_) (fun hs8=>?_)
 replace hm:=Q1z hm hs8
 refine wO Z (wO Z (wO Z (wO Z (wO Z (wP Z (Q3 ?_))))))
 have hE:=(Zi hm).symm
 refine Qp true hE [3,0,14] Z (asK [1,0,2] Z) Z
 replace hm:=Q1y hm hs8
 refine wF Z Q2L (wD 0 0 Z Q1w Q3z Z (wP Z (wN Z tE_62 (wP Z (wP Z (Q3 ?_))))))
 have hE:=(Zi hm).symm
 refine Qp (decide (a1 ≥ ((l0.length:Nat):Int))) hE [3,0,14] Z (asK [1,0,2] Z) Z
 rintro j_1_14 hE
 try dsimp only
 have hm:=hLj_1
 try rw [hE] at hm
 refine QA Z (fun hb14=>?_) (fun hb14=>?_)
 replace hm:=Q1z hm hb14
 refine Q5 [] (S':=[]) Z (Q6 (Q2 (wP Z (Q3 (Q4 (QP (Qn ?_)))))))
 have hE:=(Zi hm).symm
 replace hE:=hE.symm
 subst hE
 refine QH (Hr:=[]) [] Tryz.results92 (QD Z) ⟨Z,Z,Z⟩ (asK [] Z) Z Z (.inl Z)
 replace hm:=Q1y hm hb14
 refine Q5 [3,0] (S':=[_,_]) Z (Qs (Q4 (Q6 (Q2 (wP Z (wF Z Q2L (wD 0 0 Z Q1w Q3z Z ?_)))))))
 obtain ⟨hn18,hm⟩:=Qd hm
 obtain ⟨x18,hx18,hm⟩:=Q7 hm
 refine Q53 1 a1.toNat Z Z Z Zq Z Z Z Z (QC hn18) hx18 tE_62 Q1w (fun b18 q18 cs18 hlx18=>(Q6m Q1K 1 Z (fun r18 er18 _=>?_)))
 subst er18
 refine Q6l 0 0 Z Z Z Zq Z Z Z (cs:=[_]) Z Q1w Q3z Z Z (wP Z (Q3 (Q4 (Q5 [4] (S':=[_]) Z (QP ?_)))))
 have hE:=(Zi hm).symm
 replace hE:=hE.symm
 subst hE
 refine QH (Hr:=[]) [] Tryz.results92 (QD Z) ⟨Z,Z,Z⟩ (asK [] Z) Z Z (.inl Z)
theorem Q97 (N:Nat) (a0:Int)  (hm:Q6Q N a0 = some ()):Q1R Tryz.prog 144 [.int .i64 a0] [] [] (fun v Φr Hr=>v = .bool (a0 != a0) ∧ Φr = [] ∧ Hr = []):=by
 unfold Q6Q at hm
 refine QZ Tryz.func144 Z Tryz.ntmps144 Z (S:=[_]) Z (fun C=>(Q6 (Q2 (wP Z (Q3 (Q4 (Q5 [0] (S':=[_]) Z (Q6 (Q2 (wP Z (wP Z (wP Z (wP Z (Q3 ?_))))))))))))))
 refine Q4 (Q5 [2] (S':=[_]) Z (QP ?_))
 have hE:=(Zi hm).symm
 refine QH (Hr:=[]) [] Tryz.results144 (QD Z) ⟨Z,Z,Z⟩ (asK [] Z) Z Z (.inl Z)
theorem Q5f (N:Nat) (a0:Int) (a1:Int) (o0:Int) (hm:Q4C N a0 a1 = some o0):Q1R Tryz.prog 91 [.int .i64 a0,.int .i64 a1] [] [] (fun v Φr Hr=>v = .int .i64 o0 ∧ Φr = [] ∧ Hr = []):=by
 unfold Q4C at hm
 refine QZ Tryz.func91 Z Tryz.ntmps91 Z (S:=[_,_]) Z (fun C=>(Q6 (Q2 (wP Z (Q3 (Q4 (Q5 [0,1] (S':=[_,_]) Z (Q6 (Q2 (wP Z ?_))))))))))
 obtain ⟨_,aA,hm⟩:=Q7 hm
 try dsimp only at hm
 refine wC [] [] Z fn_144 Z (Q97 N a0 aA) (asK [] Z) Z (H':=[]) Z ?_
 rintro _ _ _ ⟨rfl,rfl,rfl⟩
 refine wP Z (Q3 (Q4 (Q5 [5,0,1] (S':=V3 ..) Z (Q6 (Q2 (wP Z ?_))))))
 obtain ⟨_,a7,hm⟩:=Q7 hm
 try dsimp only at hm
 refine wC [] [] Z fn_144 Z (Q97 N a1 a7) (asK [] Z) Z (H':=[]) Z ?_
 rintro _ _ _ ⟨rfl,rfl,rfl⟩
 refine wP Z (Q3 (Q4 (Q5 [6,5,0,1] (S':=V4 ..) Z (Q6 (Q6 (Q2 (wP Z (Q3 (Q4 (Q5 [11,6,0,1] (S':=V4 ..) Z ?_))))))))))
 refine QA Z (fun a2=>?_) (fun a2=>?_)
 replace hm:=Q1z hm a2
 refine Q5 [6] (S':=[_]) Z (Q6 (Q6 (Q2 (wP Z (Q3 (Q4 (Q5 [12] (S':=[_]) Z ?_)))))))
 refine QA Z (fun a3=>?_) (fun a3=>?_)
 replace hm:=Q1z hm a3
 refine Q5 [] (S':=[]) Z (Q6 (Q2 (wP Z (Q3 (Q4 (QP (Qn (Qn ?_))))))))
 have hE:=(Zi hm).symm
 replace hE:=hE.symm
 subst hE
 refine QH (Hr:=[]) [] Tryz.results91 (QD Z) ⟨Z,Z,Z⟩ (asK [] Z) Z Z (.inl Z)
 replace hm:=Q1y hm a3
 refine Q5 [] (S':=[]) Z (Qs (Q4 (Q6 (Q2 (wP Z (Q3 (Q4 (QP (Qn ?_)))))))))
 have hE:=(Zi hm).symm
 replace hE:=hE.symm
 subst hE
 refine QH (Hr:=[]) [] Tryz.results91 (QD Z) ⟨Z,Z,Z⟩ (asK [] Z) Z Z (.inl Z)
 replace hm:=Q1y hm a2
 refine Q5 [6,0,1] (S':=V3 ..) Z (Qs (Q4 (Q6 (Q6 (Q2 (wP Z (Q3 (Q4 (Q5 [13,0,1] (S':=V3 ..) Z ?_)))))))))
 refine QA Z (fun a4=>?_) (fun a4=>?_)
 replace hm:=Q1z hm a4
 refine Q5 [] (S':=[]) Z (Q6 (Q2 (wP Z (Q3 (Q4 (QP (Qn ?_)))))))
 have hE:=(Zi hm).symm
 replace hE:=hE.symm
 subst hE
 refine QH (Hr:=[]) [] Tryz.results91 (QD Z) ⟨Z,Z,Z⟩ (asK [] Z) Z Z (.inl Z)
 replace hm:=Q1y hm a4
 refine Q5 [0,1] (S':=[_,_]) Z (Qs (Q4 (Q6 (Q6 (Q2 (wP Z (wP Z (wP Z (Q3 (Q4 (Q5 [16,0,1] (S':=V3 ..) Z ?_)))))))))))
 refine QA Z (fun a5=>?_) (fun a5=>?_)
 replace hm:=Q1z hm a5
 refine Q5 [] (S':=[]) Z (Q6 (Q2 (wP Z (Q3 (Q4 (QP (Qn ?_)))))))
 have hE:=(Zi hm).symm
 replace hE:=hE.symm
 subst hE
 refine QH (Hr:=[]) [] Tryz.results91 (QD Z) ⟨Z,Z,Z⟩ (asK [] Z) Z Z (.inl Z)
 replace hm:=Q1y hm a5
 refine Q5 [0,1] (S':=[_,_]) Z (Qs (Q4 (Q6 (Q6 (Q2 (wP Z (wP Z (wP Z (Q3 (Q4 (Q5 [19] (S':=[_]) Z ?_)))))))))))
 refine QA Z (fun a6=>?_) (fun a6=>?_)
 replace hm:=Q1z hm a6
 refine Q5 [] (S':=[]) Z (Q6 (Q2 (wP Z (Q3 (Q4 (QP (Qn ?_)))))))
 have hE:=(Zi hm).symm
 replace hE:=hE.symm
 subst hE
 refine QH (Hr:=[]) [] Tryz.results91 (QD Z) ⟨Z,Z,Z⟩ (asK [] Z) Z Z (.inl Z)
 replace hm:=Q1y hm a6
 refine Q5 [] (S':=[]) Z (Qs (Q4 (Q6 (Q2 (wP Z (Q3 (Q4 (QP ?_))))))))
 have hE:=(Zi hm).symm
 replace hE:=hE.symm
 subst hE
 refine QH (Hr:=[]) [] Tryz.results91 (QD Z) ⟨Z,Z,Z⟩ (asK [] Z) Z Z (.inl Z)
theorem Clone53f_s (p:OA) (c:Nat) (l:List Int) (hb:l.length ≤ 17592186044416):Q1R Tryz.prog 53 [.slice p l.length c] [.sli 1 Qi p c l] [] (fun v Φr Hr=>∃ p' c',v = .slice p' l.length c' ∧ Φr = [] ∧ Hr = [.own 3 1 Qi v l]):=by
 refine QZ Tryz.func53 Z Tryz.ntmps53 Z (S:=[_]) Z (fun C=>(wc_know (fun F w h=>sli_nil (h _ (Qu (k:=0) Z))) (fun isnil=>(Q6 (Q2 (wP Z (Q3 (Q4 (Q6 (Q6 (Q2 (wP Z (wl_eqlNil Z Z Z Zq Z Z Z Q1j (Q3 (Q4 ?_)))))))))))))))
 refine Q5 [4,2,0] (S':=V3 ..) Z ?_
 refine QA Z (fun h4=>?_) (fun h4=>?_)
 replace h4:=isNone_true h4
 obtain rfl:=isnil h4
 subst h4
 refine Q52 3 1 Qi (Q6 (Q2 (QI (S':=[_,_]) Z Z Z Z Z (Q3 (Q4 (QP (Qn (QH (Hr:=[.own 3 1 Qi (V1) []]) [0] Tryz.results53 (QD Z) ?_ (asK [] Z) Z Z (.inl Z)))))))))
 exact ⟨none,0,Z,Z,Z⟩
 replace h4:=isNone_false h4
 refine Qs (Q4 (Q6 (Q2 (QE Z Z Z Zq Z Q1j Q1w Q7g Z (zs:=[]) (by kernel_rfl) Z (out:=[]) Z (fun g5=>(wP Z (Q3V (sz:=1) (m:=0) Qi [] 0 Z (fun F w hφ=>Z) Z (by decide) (H':=[_]) Z (Q83 0 0 Z Z Z Zq Z Z Z Z Z Q1j tR_3 Z Z (by simp; omega) (by simp; omega) (H2:=fun p7 c7=>[.own 3 1 Qi (.slice p7 (l).length c7) l]) (fun _ _=>Z) (fun p7 c7=>(QI (S':=V5 ..) Z Z Z Z Z (Q3 (Q4 (Q5 [2,4,0] (S':=V3 ..) Z (QP (QH (Hr:=[.own 3 1 Qi (.slice p7 (l).length c7) l]) [0] Tryz.results53 (QD Z) ?_ (asK [] Z) Z Z (.inl Z))))))))))))))))
 exact ⟨_,_,Z,Z,Z⟩
theorem Qa5 (N:Nat) (a0:Int) (a1:Int) (o0:Int) (hm:Q4S N a0 a1 = some o0):Q1R Tryz.prog 146 [.int .i64 a0,.int .i64 a1] [] [] (fun v Φr Hr=>v = .int .i64 o0 ∧ Φr = [] ∧ Hr = []):=by
 unfold Q4S at hm
 refine QZ Tryz.func146 Z Tryz.ntmps146 Z (S:=[_,_]) Z (fun C=>(Q6 (Q2 (wP Z (Q3 (Q4 (Q5 [0,1] (S':=[_,_]) Z (Q6 (Q2 (wP Z (wP Z ?_)))))))))))
 obtain ⟨v7,hc7,hm⟩:=Q7 hm
 refine wC [] [] Z fn_91 Z (Q5f N a1 a0 _ hc7) (asK [] Z) Z (H':=[]) Z ?_
 rintro _ _ _ ⟨rfl,rfl,rfl⟩
 refine wP Z (Q3 (Q4 (Q5 [4] (S':=[_]) Z (QP ?_))))
 have hE:=(Zi hm).symm
 replace hE:=hE.symm
 subst hE
 refine QH (Hr:=[]) [] Tryz.results146 (QD Z) ⟨Z,Z,Z⟩ (asK [] Z) Z Z (.inl Z)
theorem Q6J (N:Nat) (qp0:OA) (qc1:Nat) (l0:List Int) (o2:List Int) (hm:Q63 N l0 = some o2):Q1R Tryz.prog 94 [.slice qp0 l0.length qc1] [.sli 1 Qi qp0 qc1 l0,tF] [] (fun v Φr Hr=>∃ (o0:OA) (o1:Nat),v = .slice o0 l0.length o1 ∧ Φr = [] ∧ Hr = [.own 3 1 Qi (.slice o0 l0.length o1) o2]):=by
 unfold Q63 at hm
 refine QZ Tryz.func94 Z Tryz.ntmps94 Z (S:=[_]) Z (fun C=>(Q6 (Q2 (wP Z (Q3 (Q4 (Q5 [0] (S':=[_]) Z (Q6 (Q2 (wP Z ?_))))))))))
 obtain ⟨hg4,hm⟩:=Qd hm
 refine wC [] [] Z fn_53 Z (Clone53f_s qp0 qc1 l0 hg4) (asK [0] Z) Z (H':=[]) Z ?_
 rintro _ _ _ ⟨p4,c4,rfl,rfl,rfl⟩
 refine QI (S':=[_,_]) Z Z Z Z Z (Q3 (Q4 (Q5 [0] (S':=[_]) Z (Q6 (Q2 (wP Z ?_))))))
 obtain ⟨v6,hc6,hm⟩:=Q7 hm
 refine wC [0] [] Z fn_145 Z (spec_sortF srt_145 srtnil_145 (enters_of Tryz.func146 (by kernel_rfl) Z) (fun x_ y_ z_ h_=>Qa5 N x_ y_ z_ h_) hc6) (asK [] Z) Z (H':=[]) Z ?_
 rintro _ _ _ ⟨rfl,rfl,rfl⟩
 refine Q3 (Q4 (Q5 [0] (S':=[_]) Z (Q6 (Q2 (wP Z (wP Z (Q3 (Q4 (Q5 [2] (S':=[_]) Z (QP ?_))))))))))
 have hE:=(Zi hm).symm
 replace hE:=hE.symm
 subst hE
 refine QH (Hr:=[_]) [0] Tryz.results94 (QD Z) ⟨p4,c4,Z,Z,Z⟩ (asK [] Z) Z Z (.inl Z)
theorem Q5Z (N:Nat) (a1:OA) (a2:Nat) (l0:List Int) (a5:OA) (a6:Nat) (l1:List Int) (o0:Int) (hm:Q4Y N l0 l1 = some o0):Q1R Tryz.prog 93 [.slice a1 l0.length a2,.slice a5 l1.length a6] [.sli 1 Qi a1 a2 l0,.sli 1 Qi a5 a6 l1,tF] [] (fun v Φr Hr=>v = .int .i64 o0 ∧ Φr = [] ∧ Hr = []):=by
 unfold Q4Y at hm
 refine QZ Tryz.func93 Z Tryz.ntmps93 Z (S:=[_,_]) Z (fun C=>(Q6 (Q2 (wP Z (Q3 (Q4 (Q5 [0,1] (S':=[_,_]) Z (Q6 ?_))))))))
 obtain ⟨aB,hm,hLj_1⟩:=Q35 hm
 refine Q18 (σ:=Unit) (fun _=>aB = .inl ()) (fun _=>[(0,.slice a1 l0.length a2),(1,.slice a5 l1.length a6)]) (fun _=>[.sli 1 Qi a1 a2 l0,.sli 1 Qi a5 a6 l1,tF]) (fun _=>[]) ?_ ?_
 refine Q6 (Q2 (wP Z (wN Z Q1j (wP Z (Q3 (Q4 (Qm (Q1f (σ:=Nat × Nat) (fun (a3,a0)=>Q1o (Q2Z N l0 l1) a3 a0 = some aB) (fun (a3,a0)=>a3) (fun (a3,a0)=>[(11,.int .i64 ((a0:Nat):Int)),(10,.int .i64 ((l0.length:Nat):Int)),(9,.slice a1 l0.length a2),(0,.slice a1 l0.length a2),(1,.slice a5 l1.length a6)]) (fun (a3,a0)=>[.sli 1 Qi a1 a2 l0,.sli 1 Qi a5 a6 l1,tF]) (fun (a3,a0)=>[]) (N,0) hm [11,10,9,0,1] Z (asK [0,1,2] Z) Z (fun s_ hm=>?_)))))))))
 obtain ⟨a3,a0⟩:=s_
 try dsimp only at hm ⊢
 obtain ⟨aQ,aR,aC,hq,hLu1⟩:=Q1d hm
 clear hm
 subst aC
 replace hm:=hq
 clear hq
 unfold Q2Z at hm
 try dsimp only at hm
 refine Q6 (Q2 (wP Z (Qz (d:=12) (v':=.bool (decide (a0 < l0.length))) (S':=V5 ..) Z Z (Q3f (a:=a0) (b:=l0.length)) (Q3 (Q4 (Q6 ?_))))))
 refine QA Z (fun a7=>?_) (fun a7=>?_)
 replace hm:=Q1z hm a7
 refine Q5 [11,10,9,0,1] (S':=V5 ..) Z (Qs (Q4 (Q6 (Qm (Q6 (Q2 (wP Z ?_)))))))
 obtain ⟨aJ,aD,hm⟩:=Q7 hm
 refine Q53 0 a0 Z Z Z Zq Z Z Z Z Z aD Q1j Q1w (fun aS aT aO aK=>(Q6m Q1K 1 Z (fun aU aE _=>?_)))
 subst aE
 refine Q6l 0 0 Z Z Z Zq Z Z Z (cs:=[_]) Z Q1w Q3z Z Z (wP Z (wP Z (Q3 (Q4 (Q5 [6,5,11,10,9,0,1] (S':=V7 ..) Z (Q6 (Q6 (Q2 (wP Z (wP Z (wN Z Q1j (wP Z (Qz (d:=19) (v':=.bool (decide (l1.length ≤ a0))) (S':=V10 ..) Z Z (natge (a:=a0) (b:=l1.length)) ?_)))))))))))))
 refine Q3 (Q4 (Q5 [19,6,5,11,10,9,0,1] (S':=V8 ..) Z ?_))
 refine QA Z (fun a8=>?_) (fun a8=>?_)
 replace hm:=Q1z hm a8
 refine Q5 [] (S':=[]) Z (Q6 (Q2 (wP Z (Q3 (Q4 (QP (Qn (Q11 (Qn (Qn (Q11 (Qn ?_))))))))))))
 have hE:=(Zi hm).symm
 replace hE:=QO hLu1 hE
 replace hE:=QO hLj_1 hE
 replace hE:=hE.symm
 subst hE
 refine QH (Hr:=[]) [] Tryz.results93 (QD Z) ⟨Z,Z,Z⟩ (asK [] Z) Z Z (.inl Z)
 replace hm:=Q1y hm a8
 refine Q5 [6,5,11,10,9,0,1] (S':=V7 ..) Z (Qs (Q4 (Q6 (Q2 (wP Z (wP Z ?_))))))
 obtain ⟨aL,aF,hm⟩:=Q7 hm
 refine Q53 3 a0 Z Z Z Zq Z Z Z Z Z aF Q1j Q1w (fun aV aW aP aM=>(Q6m Q1K 1 Z (fun aX aG _=>?_)))
 subst aG
 refine Q6l 0 0 Z Z Z Zq Z Z Z (cs:=[_]) Z Q1w Q3z Z Z (wP Z (Q3 (Q4 (Q5 [7,6,11,10,9,0,1] (S':=V7 ..) Z (Q6 (Q2 (wP Z (wP Z ?_))))))))
 obtain ⟨aY,aH,hm⟩:=Q7 hm
 refine wC [] [] Z fn_91 Z (Q5f N aJ aL _ aH) (asK [] Z) Z (H':=[]) Z ?_
 rintro _ _ _ ⟨rfl,rfl,rfl⟩
 refine wP Z (Q3 (Q4 (Q5 [8,11,10,9,0,1] (S':=V6 ..) Z (Q6 (Q2 (wP Z (wP Z (Q3 (Q4 (Q5 [28,8,11,10,9,0,1] (S':=V7 ..) Z ?_))))))))))
 refine QA Z (fun a9=>?_) (fun a9=>?_)
 replace hm:=Q1z hm a9
 refine Q5 [8] (S':=[_]) Z (Q6 (Q2 (wP Z (wP Z (Q3 (Q4 (Q5 [4] (S':=[_]) Z (QP (Q11 (Qn (Qn (Q11 (Qn ?_)))))))))))))
 have hE:=(Zi hm).symm
 replace hE:=QO hLu1 hE
 replace hE:=QO hLj_1 hE
 replace hE:=hE.symm
 subst hE
 refine QH (Hr:=[]) [] Tryz.results93 (QD Z) ⟨Z,Z,Z⟩ (asK [] Z) Z Z (.inl Z)
 replace hm:=Q1y hm a9
 refine Q5 [11,10,9,0,1] (S':=V5 ..) Z (Qs (Qj (Q4 (Q2 (wP Z ?_)))))
 obtain ⟨aI,hm⟩:=Qd hm
 refine Qz (d:=30) (v':=.int .i64 ((a0 + 1:Nat):Int)) (S':=V5 ..) Z Z (Q1i (a:=a0) (b:=1) aI) (QI (S':=V5 ..) Z Z Z Z Z (Q3 ?_))
 have hE:=(Zi hm).symm
 replace hE:=Q14 hLu1 hE
 refine Q1a (_,a0 + 1) (Nat.lt_succ_self _) hE [11,10,9,0,1] Z (asK [4,5,6] Z) Z
 replace hm:=Q1y hm a7
 refine Q5 [0,1] (S':=[_,_]) Z (Q19 (Qc (Qc (Qt ?_))))
 have hE:=(Zi hm).symm
 replace hE:=QO hLu1 hE
 refine Qp () hE [0,1] Z (asK [0,1,2] Z) Z
 rintro _ hE
 try dsimp only
 have hm:=Q14 hLj_1 hE
 try dsimp only at hm
 refine Q6 (Q6 (Q2 (wP Z (wN Z Q1j (wP Z (wN Z Q1j (wP Z (Qz (d:=35) (v':=.bool (decide (l0.length < l1.length))) (S':=V6 ..) Z Z (Q3f (a:=l0.length) (b:=l1.length)) (Q3 (Q4 (Q5 [35] (S':=[_]) Z ?_)))))))))))
 refine QA Z (fun aA=>?_) (fun aA=>?_)
 replace hm:=Q1z hm aA
 refine Q5 [] (S':=[]) Z (Q6 (Q2 (wP Z (Q3 (Q4 (QP (Qn ?_)))))))
 have hE:=(Zi hm).symm
 replace hE:=hE.symm
 subst hE
 refine QH (Hr:=[]) [] Tryz.results93 (QD Z) ⟨Z,Z,Z⟩ (asK [] Z) Z Z (.inl Z)
 replace hm:=Q1y hm aA
 refine Q5 [] (S':=[]) Z (Qs (Q4 (Q6 (Q2 (wP Z (Q3 (Q4 (QP ?_))))))))
 have hE:=(Zi hm).symm
 replace hE:=hE.symm
 subst hE
 refine QH (Hr:=[]) [] Tryz.results93 (QD Z) ⟨Z,Z,Z⟩ (asK [] Z) Z Z (.inl Z)
theorem Qa6 (N:Nat) (a3:OA) (a4:Nat) (l0:List Int) (o0:Int) (hm:Q7L N l0 = some o0):Q1R Tryz.prog 90 [.slice a3 l0.length a4] [.sli 1 Qi a3 a4 l0,tF] [] (fun v Φr Hr=>v = .int .i64 o0 ∧ Φr = [] ∧ Hr = []):=by
 unfold Q7L at hm
 refine QZ Tryz.func90 Z Tryz.ntmps90 Z (S:=[_]) Z (fun C=>(Q6 (Q2 (wP Z (Q3 (Q4 (Q5 [0] (S':=[_]) Z (Q6 (Q2 (wP Z (Q3 (Q4 (Q6 ?_)))))))))))))
 obtain ⟨a6,hm,hLj_1⟩:=Q35 hm
 refine Q18 (σ:=Unit) (fun _=>a6 = .inl ()) (fun _=>[(3,.int .i64 0)]) (fun _=>[tF]) (fun _=>[]) ?_ ?_
 refine Q6 (Q2 (wP Z (wN Z Q1j (wP Z (Q3 (Q4 (Q5 [8,7,6,3] (S':=V4 ..) Z (Qm (Q1f (σ:=Nat × Nat) (fun (a1,a0)=>Q1o (Q6e N l0) a1 a0 = some a6) (fun (a1,a0)=>a1) (fun (a1,a0)=>[(8,.int .i64 ((a0:Nat):Int)),(7,.int .i64 ((l0.length:Nat):Int)),(6,.slice a3 l0.length a4),(3,.int .i64 0)]) (fun (a1,a0)=>[.sli 1 Qi a3 a4 l0,tF]) (fun (a1,a0)=>[]) (N,0) hm [8,7,6,3] Z (asK [0,1] Z) Z (fun s_ hm=>?_))))))))))
 obtain ⟨a1,a0⟩:=s_
 try dsimp only at hm ⊢
 obtain ⟨aF,aG,a8,hq,hLu1⟩:=Q1d hm
 clear hm
 subst a8
 replace hm:=hq
 clear hq
 unfold Q6e at hm
 try dsimp only at hm
 refine Q6 (Q2 (wP Z (Qz (d:=9) (v':=.bool (decide (a0 < l0.length))) (S':=V4 ..) Z Z (Q3f (a:=a0) (b:=l0.length)) (Q3 (Q4 (Q6 ?_))))))
 refine QA Z (fun a7=>?_) (fun a7=>?_)
 replace hm:=Q1z hm a7
 refine Q5 [8,7,6,3] (S':=V4 ..) Z (Qs (Q4 (Q6 (Qm (Q6 (Q2 ?_))))))
 obtain ⟨aH,a9,hm⟩:=Q7 hm
 refine Q53 0 a0 Z Z Z Zq Z Z Z Z Z a9 Q1j Q1w (fun aI aJ aE aC=>(Q6m Q1K 1 Z (fun aK aA _=>?_)))
 subst aA
 refine Q6l 0 0 Z Z Z Zq Z Z Z (cs:=[_]) Z Q1w Q3z Z Z (wP Z (Q3 (Q4 (Q5 [5,8,7,6,3] (S':=V5 ..) Z (Q6 (Q2 (wP Z (wP Z (wP Z (Q3 (Q4 (Q5 [14,5,8,7,6,3] (S':=V6 ..) Z ?_))))))))))))
 refine QA Z (fun a2=>?_) (fun a2=>?_)
 replace hm:=Q1z hm a2
 refine Q5 [5] (S':=[_]) Z (Q6 (Q2 (wP Z (wP Z (Q3 (Q4 (Q5 [2] (S':=[_]) Z (QP (Q11 (Qn (Qn (Q11 (Qn ?_)))))))))))))
 have hE:=(Zi hm).symm
 replace hE:=QO hLu1 hE
 replace hE:=QO hLj_1 hE
 replace hE:=hE.symm
 subst hE
 refine QH (Hr:=[]) [] Tryz.results90 (QD Z) ⟨Z,Z,Z⟩ (asK [] Z) Z Z (.inl Z)
 replace hm:=Q1y hm a2
 refine Q5 [8,7,6,3] (S':=V4 ..) Z (Qs (Qj (Q4 (Q2 (wP Z ?_)))))
 obtain ⟨aB,hm⟩:=Qd hm
 refine Qz (d:=16) (v':=.int .i64 ((a0 + 1:Nat):Int)) (S':=V4 ..) Z Z (Q1i (a:=a0) (b:=1) aB) (QI (S':=V4 ..) Z Z Z Z Z (Q3 ?_))
 have hE:=(Zi hm).symm
 replace hE:=Q14 hLu1 hE
 refine Q1a (_,a0 + 1) (Nat.lt_succ_self _) hE [8,7,6,3] Z (asK [2,3] Z) Z
 replace hm:=Q1y hm a7
 refine Q5 [3] (S':=[_]) Z (Q19 (Qc (Qc (Qt ?_))))
 have hE:=(Zi hm).symm
 replace hE:=QO hLu1 hE
 refine Qp () hE [3] Z (asK [1] Z) Z
 rintro _ hE
 try dsimp only
 have hm:=Q14 hLj_1 hE
 try dsimp only at hm
 refine Q6 (Q2 (wP Z (wP Z (Q3 (Q4 (Q5 [2] (S':=[_]) Z (QP ?_)))))))
 have hE:=(Zi hm).symm
 replace hE:=hE.symm
 subst hE
 refine QH (Hr:=[]) [] Tryz.results90 (QD Z) ⟨Z,Z,Z⟩ (asK [] Z) Z Z (.inl Z)
theorem Q5v (N:Nat) (aC:OA) (aD:Nat) (l0:List Int) (a1:Int) (a7:OA) (a8:Nat) (l2:List Int) (a3:Int) (a9:OA) (aA:Nat) (l4:List Int) (o0:Int) (hm:Q17 N l0 a1 l2 a3 l4 = some o0):Q1R Tryz.prog 41 [.slice aC l0.length aD,.agg #[.int .i64 a1,.slice a7 l2.length a8],.agg #[.int .i64 a3,.slice a9 l4.length aA]] [.sli 1 Qi aC aD l0,.sli 1 Qi a7 a8 l2,.sli 1 Qi a9 aA l4,tF] [] (fun v Φr Hr=>v = .int .i64 o0 ∧ Φr = [] ∧ Hr = []):=by
 unfold Q17 at hm
 refine QZ Tryz.func41 Z Tryz.ntmps41 Z (S:=V3 ..) Z (fun C=>(Q6 (Q2 (wB Z (fun g4=>(wB Z (fun g5=>(wP Z (Q3 (Q4 (Q5 [5,4,0] (S':=V3 ..) Z (Q6 ?_))))))))))))
 obtain ⟨v9,aW,hm⟩:=Q7 hm
 obtain ⟨aX,aK,hm⟩:=Q7 hm
 obtain ⟨aH,aL,hm⟩:=Q7 hm
 obtain ⟨aE,aM,hm⟩:=Q7 hm
 obtain ⟨aF,aN,hm⟩:=Q7 hm
 obtain ⟨aG,aO,hm⟩:=Q7 hm
 obtain ⟨aB,aP,hm⟩:=Q7 hm
 obtain ⟨a6,aQ,hm⟩:=Q7 hm
 obtain ⟨b1,aR,hm⟩:=Q7 hm
 refine QV [0,1,3,4,7,8,10,11,14,15,16,17,19,20,21,22] Z Z (fun hok=>(xP hok 0 Z (Qq hok 1 0 0 Z Z Z Zq Z Z Z Z (cs:=[_,_]) Z Qe QS Z Z (xP hok 3 Z (Qq hok 4 1 0 Z Z Z Zq Z Z Z Z (cs:=[_,_]) Z Qe QS Z Z (Ql hok 7 Z Z Z Zq Z Z Z Q3u (Qq hok 8 0 1 Z Z Z Zq Z Z Z Z (cs:=[_]) Z Q30 Q4R Z Z (Ql hok 10 Z Z Z Zq Z Z Z Q3u (Qq hok 11 1 1 Z Z Z Zq Z Z Z Z (cs:=[_]) Z Q30 Q4R Z Z (Ql hok 14 Z Z Z Zq Z Z Z Q2L (Qq hok 15 1 0 Z Z Z Zq Z Z Z Z (cs:=[_]) Z Q1w Q3z Z Z (Ql hok 16 Z Z Z Zq Z Z Z Q2L (Qq hok 17 0 0 Z Z Z Zq Z Z Z Z (cs:=[_]) Z Q1w Q3z Z Z (Ql hok 19 Z Z Z Zq Z Z Z Q3u ?_))))))))))))))
 refine Qq hok 20 1 1 Z Z Z Zq Z Z Z Z (cs:=[_]) Z Q30 Q4R Z Z (Ql hok 21 Z Z Z Zq Z Z Z Q3u (Qq hok 22 0 1 Z Z Z Zq Z Z Z Z (cs:=[_]) Z Q30 Q4R Z Z (xS hok 2 Z (wC [] [0,1] Z fn_92 Z (Q6t N aC aD l0 a3 a9 aA l4 _ aW) (asK [0,2,3] Z) Z (H':=[_,_]) Z ?_))))
 rintro _ _ _ ⟨rfl,rfl,rfl⟩
 refine Q3 (Qy [0,1,2,3] [0,1,0,1,1,0,1] Z Z (xS hok 5 Z (wC [] [0,1] Z fn_92 Z (Q6t N aC aD l0 a1 a7 a8 l2 _ aK) (asK [0,1,3] Z) Z (H':=[_,_]) Z ?_)))
 rintro _ _ _ ⟨rfl,rfl,rfl⟩
 refine Q3 (Qy [0,1,2,3] [0,1,0,1,1,0,0] Z Z (xS hok 6 Z (wC [] [0,1] Z fn_91 Z (Q5f N v9 aX _ aL) (asK [] Z) Z (H':=[_,_]) Z ?_)))
 rintro _ _ _ ⟨rfl,rfl,rfl⟩
 refine Q3 (Qy [0,1,2,3] [0,1,0,1,1,0,1,0] Z Z (xS hok 9 Z (wC [] [0,1] Z fn_94 Z (Q6J N a9 aA l4 _ aM) (asK [2,3] Z) Z (H':=[_,_]) Z ?_)))
 rintro _ _ _ ⟨a0,a2,rfl,rfl,rfl⟩
 refine Q3 (Qy [0,1,2,3] [1,2,1,2,2,2,1] Z Z (xS hok 12 Z (wC [] [0,1,2] Z fn_94 Z (Q6J N a7 a8 l2 _ aN) (asK [1,3] Z) Z (H':=V3 ..) Z ?_)))
 rintro _ _ _ ⟨a4,a5,rfl,rfl,rfl⟩
 refine Q3 (Qy [0,1,2,3] [2,3,2,3,2,3,2] Z Z (xS hok 13 Z (QK 1 Z (fun aS _=>(Q4F 1 (v':=.slice a0 aE.length a2) Z (by first | rfl | rw [aS]) (Q28 1 (φ':=.own 3 1 Qi (.slice a0 aE.length a2) aE) Z (by first | rfl | rw [aS]) (H':=V4 ..) Z (QK 0 Z (fun aT _=>(Q4F 0 (v':=.slice a4 aF.length a5) Z (by first | rfl | rw [aT]) (Q28 0 (φ':=.own 3 1 Qi (.slice a4 aF.length a5) aF) Z (by first | rfl | rw [aT]) (H':=V4 ..) Z (Q2k [] [0,1,2,3] [1,0] Z Z Z Zq Z Z fn_93 Z (Q5Z N a0 a2 aE a4 a5 aF _ aO) (fun F w hφ hh=>(Qh (Q1n (hh _ (Qu (k:=0) Z))) (Qh (Q1n (hh _ (Qu (k:=1) Z))) (Qh (hφ _ (Qu (k:=3) Z)) Qv)))) (fun _ _ _ hR=>by obtain ⟨rfl,rfl,rfl⟩:=hR; exact ⟨Z,(fun _ h=>Q1O h)⟩) Z Z (H':=V4 ..) Z ?_)))))))))))
 rintro _ _ _ ⟨rfl,rfl,rfl⟩
 refine Q3 (Qy [0,1,2,3] [2,3,2,3,3,2,3,2] Z Z (xS hok 18 Z (wC [] [0,1,2,3] Z fn_91 Z (Q5f N a1 a3 _ aP) (asK [] Z) Z (H':=V4 ..) Z ?_)))
 rintro _ _ _ ⟨rfl,rfl,rfl⟩
 refine Q3 (Qy [0,1,2,3] [2,3,3,2,3,2] Z Z (xS hok 23 Z (wC [] [0,1,2,3] Z fn_93 Z (Q5Z N a7 a8 l2 a9 aA l4 _ aQ) (asK [1,2,3] Z) Z (H':=V4 ..) Z ?_)))
 rintro _ _ _ ⟨rfl,rfl,rfl⟩
 refine Q3 (Qy [0,1,2,3] [2,3,3,2,3,2] Z Z (xS hok 24 Z (QE Z Z Z Zq Z Q1j Q1w Q7g Z (zs:=[.int .i64 0,.int .i64 0,.int .i64 0,.int .i64 0]) (by kernel_rfl) Z (out:=V4 ..) Z (fun aY=>(Q3 (Qy [0,1,2,3] [3,4,3,4,4,3,4,3] Z Z (xS hok 25 Z (Q3V (sz:=1) (m:=4) Qi ([aH,aG,aB,a6]) 0 Z (fun F w hφ=>⟨[.int .i64 aH],[.int .i64 aG,.int .i64 aB,.int .i64 a6],Z,Z,⟨(),Z,Qv⟩,⟨[.int .i64 aG],[.int .i64 aB,.int .i64 a6],Z,Z,⟨(),Z,Qv⟩,⟨[.int .i64 aB],[.int .i64 a6],Z,Z,⟨(),Z,Qv⟩,⟨[.int .i64 a6],[],Z,Z,⟨(),Z,Qv⟩,Z⟩⟩⟩⟩) Z (by decide) (H':=V5 ..) Z (Q2k [] [0,1,2,3,4] [0] Z Z Z Zq Z Z fn_90 Z (Qa6 N (some ⟨aY,0,none⟩) 4 [aH,aG,aB,a6] _ aR) (fun F w hφ hh=>(Qh (Q1n (hh _ (Qu (k:=0) Z))) (Qh (hφ _ (Qu (k:=3) Z)) Qv))) (fun _ _ _ hR=>by obtain ⟨rfl,rfl,rfl⟩:=hR; exact ⟨Z,(fun _ h=>Q1O h)⟩) Z Z (H':=V5 ..) Z ?_)))))))))
 rintro _ _ _ ⟨rfl,rfl,rfl⟩
 refine Q3 (Qy [0,1,2,3] [3,4,3,4,4,3,4,3] Z Z (xS hok 26 Z (wP Z (Q3 (Qy [0,1,2,3] [] Z Z (QL hok Z (Q4 (Q5 [6] (S':=[_]) Z (QP ?_)))))))))
 have hE:=(Zi hm).symm
 replace hE:=hE.symm
 subst hE
 refine QH (Hr:=[]) [] Tryz.results41 (QD Z) ⟨Z,Z,Z⟩ (asK [] Z) Z Z (.inl Z)
theorem Q74 (N:Nat) (qp0:OA) (qc1:Nat) (l0:List Qr) (qp2:OA) (qc3:Nat) (l1:List QG) (a2:Int) (qp4:OA) (qc5:Nat) (l3:List Int) (a4:Int) (qp6:OA) (qc7:Nat) (l5:List Int) (o0:Bool) (hm:Q3v N l0 l1 a2 l3 a4 l5 = some o0):Q1R Tryz.prog 20 [.agg #[.slice qp0 l0.length qc1,.slice qp2 l1.length qc3],.agg #[.int .i64 a2,.slice qp4 l3.length qc5],.agg #[.int .i64 a4,.slice qp6 l5.length qc7]] [.sli 2 QR qp0 qc1 l0,.sli 5 QM qp2 qc3 l1,.sli 1 Qi qp4 qc5 l3,.sli 1 Qi qp6 qc7 l5,tF] [] (fun v Φr Hr=>v = .bool o0 ∧ Φr = [] ∧ Hr = []):=by
 unfold Q3v at hm
 refine QZ Tryz.func20 Z Tryz.ntmps20 Z (S:=V3 ..) Z (fun C=>(Q6 (Q2 (wB Z (fun g3=>(wB Z (fun g4=>(wB Z (fun g5=>(wP Z (Q3 (Q4 (Q5 [5,4,3] (S':=V3 ..) Z (Q6 ?_))))))))))))))
 obtain ⟨v8,hc8,hm⟩:=Q7 hm
 obtain ⟨v11,hc11,hm⟩:=Q7 hm
 refine QV [0,2,3,5] Z Z (fun hok=>(Qq hok 0 2 0 Z Z Z Zq Z Z Z Z (cs:=[_,_]) Z Q6s Q7a Z Z (Qq hok 2 1 0 Z Z Z Zq Z Z Z Z (cs:=[_,_]) Z Qe QS Z Z (Qq hok 3 0 0 Z Z Z Zq Z Z Z Z (cs:=[_,_]) Z Qe QS Z Z (xS hok 1 Z (wC [] [0,1,2] Z fn_24 Z (Q9c N qp0 qc1 l0 qp2 qc3 l1 _ hc8) (asK [0,1,4] Z) Z (H':=V3 ..) Z ?_))))))
 rintro _ _ _ ⟨r8_0,c8_1,c8_2,rfl,rfl,rfl⟩
 refine Q3 (Qy [0,1,2,3,4] [1,2] Z Z (xS hok 4 Z (QK 0 Z (fun hzc8_2 _=>?_))))
 subst hzc8_2
 refine Q2k [] [0,1,2,3] [0] Z Z Z Zq Z Z Q66 Z (Q5v N (some r8_0) c8_1 v8 a2 qp4 qc5 l3 a4 qp6 qc7 l5 _ hc11) (fun F w hφ hh=>(Qh (Q1n (hh _ (Qu (k:=0) Z))) (Qh (hφ _ (Qu (k:=2) Z)) (Qh (hφ _ (Qu (k:=3) Z)) (Qh (hφ _ (Qu (k:=4) Z)) Qv))))) (fun _ _ _ hR=>by obtain ⟨rfl,rfl,rfl⟩:=hR; exact ⟨Z,(fun _ h=>Q1O h)⟩) Z Z (H':=V4 ..) Z ?_
 rintro _ _ _ ⟨rfl,rfl,rfl⟩
 refine Q3 (Qy [0,1,2,3,4] [3] Z Z (xP hok 5 Z (xS hok 6 Z (wP Z (Q3 (Qy [0,1,2,3,4] [] Z Z (QL hok Z (Q4 (Q5 [6] (S':=[_]) Z (QP ?_))))))))))
 have hE:=(Zi hm).symm
 replace hE:=hE.symm
 subst hE
 refine QH (Hr:=[]) [] Tryz.results20 (QD Z) ⟨Z,Z,Z⟩ (asK [] Z) Z Z (.inl Z)
theorem Qai (N:Nat) (qp0:OA) (qc1:Nat) (l0:List Qr) (qp2:OA) (qn3:Nat) (qc4:Nat) (l1:List QG)  (hm:Q4P N l0 l1 = some (.inl ())):Q1R Tryz.prog 7 [.agg #[.slice qp0 l0.length qc1,.slice qp2 qn3 qc4]] [.sli 2 QR qp0 qc1 l0,tF] [.own 38 5 QM (.slice qp2 qn3 qc4) l1] (fun v Φr Hr=>v = .pointer none ∧ Φr = [] ∧ Hr = [.own 38 5 QM (.slice qp2 qn3 qc4) l1]):=by
 unfold Q4P at hm
 refine QZ Tryz.func7 Z Tryz.ntmps7 Z (S:=[_]) Z (fun C=>(Q6 (Q2 (wB Z (fun g1=>(wP Z (Q3 (Q4 (Q5 [1] (S':=[_]) Z (Q6 (Q6 (Q2 (wF Z Q5u (wD 0 1 Z Q7r Q7U Z (QK 1 Z (fun hl5 _=>?_))))))))))))))))
 refine wN Z Q72 (Qz (d:=5) (v':=.int .i64 ((l1.length:Nat):Int)) (S':=V3 ..) Z Z (Q4A hl5) (wP Z (Qz (d:=6) (v':=.bool (decide (64 < l1.length))) (S':=V4 ..) Z Z (natgt (a:=l1.length) (b:=64)) (Q3 (Q4 (Q5 [6,1] (S':=[_,_]) Z ?_))))))
 refine QA Z (fun hb6=>?_) (fun hb6=>?_)
 replace hm:=Q1z hm hb6
 refine Q5 [] (S':=[]) Z (Q6 (Q2 (wP Z (Q3 (Q4 (QP (Qn ?_)))))))
 have hE:=(Zi hm).symm
 replace hE:=Sum.inl.inj hE
 refine QH (Hr:=[_]) [1] Tryz.results7 (QD Z) ⟨Z,Z,Z⟩ (asK [] Z) Z Z (.inl Z)
 ·
  replace hm:=Q1y hm hb6
  refine Q5 [1] (S':=[_]) Z (Qs (Q4 (Q6 (Q2 (Q1V 0 0 Z Z Z Zq Z Z Z (cs:=[_,_]) Z Q6s Q7a Z Z (QK 1 Z (fun hzqn3 _=>?_)))))))
  subst hzqn3
  obtain ⟨v8,hc8,hm⟩:=Q7 hm
  refine Q2k [] [0,1] [1] Z Z Z Zq Z Z fn_24 Z (Q9c N qp0 qc1 l0 qp2 qc4 l1 _ hc8) (fun F w hφ hh=>(Qh (hφ _ (Qu (k:=0) Z)) (Qh (Q1n (hh _ (Qu (k:=0) Z))) (Qh (hφ _ (Qu (k:=1) Z)) Qv)))) (fun _ _ _ hR=>by obtain ⟨_,_,_,rfl,rfl,rfl⟩:=hR; exact ⟨Z,(Q7d (Q7N Q6I) (fun _ h=>Q1O h))⟩) Z Z (H':=[_,_]) Z ?_
  rintro _ _ _ ⟨r8_0,c8_1,c8_2,rfl,rfl,rfl⟩
  refine Q7I (Q1g (QQ Q2t)) false QW Z Z Z Zq Z (fun g9=>(Q7w Z Z Z Zq Z tZ_66 tP_66 Z (out:=V4 ..) Z (wB Z (fun g11=>(wP Z (Q3 (Q4 (Q5 [2] (S':=[_]) Z (QP ?_)))))))))
  have hE:=(Zi hm).symm
  cases hE
theorem Q8K (N:Nat) (qp0:OA) (qc1:Nat) (l0:List Qr) (qp2:OA) (qn3:Nat) (qc4:Nat) (l1:List QG) (o3:List Int) (hm:Q4P N l0 l1 = some (.inr o3)):Q1R Tryz.prog 7 [.agg #[.slice qp0 l0.length qc1,.slice qp2 qn3 qc4]] [.sli 2 QR qp0 qc1 l0,tF] [.own 38 5 QM (.slice qp2 qn3 qc4) l1] (fun v Φr Hr=>∃ (o0:Nat) (o1:Addr) (o2:Nat) (o4:Nat) (o5:Nat),v = .pointer (some ⟨o0,0,none⟩) ∧ Φr = [] ∧ Hr = [.blk o0 [.slice (some o1) o4 o2,V1,V1,.map (some o5)] 66,.own 3 1 Qi (.slice (some o1) o4 o2) o3,Q2s (Q1g (QQ Q2t)) false QW o5 ([] : List (ByteArray × Bool)),.own 38 5 QM (.slice qp2 qn3 qc4) l1]):=by
 unfold Q4P at hm
 refine QZ Tryz.func7 Z Tryz.ntmps7 Z (S:=[_]) Z (fun C=>(Q6 (Q2 (wB Z (fun g1=>(wP Z (Q3 (Q4 (Q5 [1] (S':=[_]) Z (Q6 (Q6 (Q2 (wF Z Q5u (wD 0 1 Z Q7r Q7U Z (QK 1 Z (fun hl5 _=>?_))))))))))))))))
 refine wN Z Q72 (Qz (d:=5) (v':=.int .i64 ((l1.length:Nat):Int)) (S':=V3 ..) Z Z (Q4A hl5) (wP Z (Qz (d:=6) (v':=.bool (decide (64 < l1.length))) (S':=V4 ..) Z Z (natgt (a:=l1.length) (b:=64)) (Q3 (Q4 (Q5 [6,1] (S':=[_,_]) Z ?_))))))
 refine QA Z (fun hb6=>?_) (fun hb6=>?_)
 ·
  replace hm:=Q1z hm hb6
  refine Q5 [] (S':=[]) Z (Q6 (Q2 (wP Z (Q3 (Q4 (QP (Qn ?_)))))))
  have hE:=(Zi hm).symm
  cases hE
 replace hm:=Q1y hm hb6
 refine Q5 [1] (S':=[_]) Z (Qs (Q4 (Q6 (Q2 (Q1V 0 0 Z Z Z Zq Z Z Z (cs:=[_,_]) Z Q6s Q7a Z Z (QK 1 Z (fun hzqn3 _=>?_)))))))
 subst hzqn3
 obtain ⟨v8,hc8,hm⟩:=Q7 hm
 refine Q2k [] [0,1] [1] Z Z Z Zq Z Z fn_24 Z (Q9c N qp0 qc1 l0 qp2 qc4 l1 _ hc8) (fun F w hφ hh=>(Qh (hφ _ (Qu (k:=0) Z)) (Qh (Q1n (hh _ (Qu (k:=0) Z))) (Qh (hφ _ (Qu (k:=1) Z)) Qv)))) (fun _ _ _ hR=>by obtain ⟨_,_,_,rfl,rfl,rfl⟩:=hR; exact ⟨Z,(Q7d (Q7N Q6I) (fun _ h=>Q1O h))⟩) Z Z (H':=[_,_]) Z ?_
 rintro _ _ _ ⟨r8_0,c8_1,c8_2,rfl,rfl,rfl⟩
 refine Q7I (Q1g (QQ Q2t)) false QW Z Z Z Zq Z (fun g9=>(Q7w Z Z Z Zq Z tZ_66 tP_66 Z (out:=V4 ..) Z (wB Z (fun g11=>(wP Z (Q3 (Q4 (Q5 [2] (S':=[_]) Z (QP ?_)))))))))
 have hE:=(Zi hm).symm
 replace hE:=Sum.inr.inj hE
 replace hE:=hE.symm
 subst hE
 refine QH (Hr:=V4 ..) [0,2,1,4] Tryz.results7 (QD Z) ⟨g11,r8_0,c8_1,c8_2,g9,Z,Z,Z⟩ (asK [] Z) Z Z (.inl Z)
theorem Q3B (N:Nat) (qg0:Nat) (qp1:Addr) (qn2:Nat) (qc3:Nat) (l0:List Int) (qp4:OA) (qn5:Nat) (qc6:Nat) (l1:List Q1) (qp7:OA) (qn8:Nat) (qc9:Nat) (l2:List Q1) (qb10:Nat) (e3:List (ByteArray × Bool))  (hm:Q1Z N l0 l1 l2 e3 = some ()):Q1R Tryz.prog 32 [.pointer (some ⟨qg0,0,none⟩)] [tF] [.blk qg0 [.slice (some qp1) qn2 qc3,.slice qp4 qn5 qc6,.slice qp7 qn8 qc9,.map (some qb10)] 66,.own 3 1 Qi (.slice (some qp1) qn2 qc3) l0,.own 45 2 Q9 (.slice qp4 qn5 qc6) l1,.own 45 2 Q9 (.slice qp7 qn8 qc9) l2,Q2s (Q1g (QQ Q2t)) false QW qb10 e3] (fun v Φr Hr=>v = .bool true ∧ Φr = [] ∧ Hr = [.blk qg0 [.slice (some qp1) qn2 qc3,.slice qp4 qn5 qc6,.slice qp7 qn8 qc9,.map (some qb10)] 66,.own 3 1 Qi (.slice (some qp1) qn2 qc3) l0,.own 45 2 Q9 (.slice qp4 qn5 qc6) l1,.own 45 2 Q9 (.slice qp7 qn8 qc9) l2,Q2s (Q1g (QQ Q2t)) false QW qb10 e3]):=by
 unfold Q1Z at hm
 refine QZ Tryz.func32 Z Tryz.ntmps32 Z (S:=[_]) Z (fun C=>(Q6 (Q2 (wP Z (Q3 (Q4 (Q5 [0] (S':=[_]) Z (Q6 (Q2 (wP Z (Q5q Z Z Z Zq Z Z Z (neqP tQ_30 _ _ _) (wP Z (wP Z (wP Z ?_))))))))))))))
 refine wF Z Q6j (wD 0 0 Z Q8d Q8c Z (wl_neqNil Z Z Z Zq Z Z Z tE_62 (Qz (d:=10) (v':=.bool true) (S':=V8 ..) Z Z Z (wP Z (wP Z (Q3 (Q4 (Q5 [2] (S':=[_]) Z (QP ?_)))))))))
 have hE:=(Zi hm).symm
 refine QH (Hr:=V5 ..) [0,1,2,3,4] Tryz.results32 (QD Z) ⟨Z,Z,Z⟩ (asK [] Z) Z Z (.inl Z)
theorem Q3U (N:Nat) (a0:Int) (a6:OA) (a7:Nat) (l1:List Int) (o0:ByteArray) (hm:Q4J N a0 l1 = some o0):Q1R Tryz.prog 42 [.agg #[.int .i64 a0,.slice a6 l1.length a7]] [.sli 1 Qi a6 a7 l1,tF] [] (fun v Φr Hr=>v = .string o0 ∧ Φr = [] ∧ Hr = []):=by
 unfold Q4J at hm
 refine QZ Tryz.func42 Z Tryz.ntmps42 Z (S:=[_]) Z (fun C=>(Q6 (Q2 (wB Z (fun g1=>(wP Z (Q3 (Q4 (Q5 [1] (S':=[_]) Z (Q6 (Q2 (wF Z Q2L (wD 0 0 Z Q1w Q3z Z ?_)))))))))))))
 obtain ⟨aI,hm⟩:=Qd hm
 refine wC [] [0] Z fn_95 Z (sh_Itoa a0 aI) (asK [1] Z) Z (H':=[_]) Z ?_
 rintro _ _ _ ⟨rfl,rfl,rfl⟩
 refine wP Z (Q3 (Q4 (Q5 [3,1] (S':=[_,_]) Z (Q6 ?_))))
 obtain ⟨a8,hm,hLj_1⟩:=Q7 hm
 refine Q18 (σ:=ByteArray) (fun a3=>a8 = a3) (fun a3=>[(3,.string a3)]) (fun a3=>[tF]) (fun a3=>[]) ?_ ?_
 refine Q6 (Q2 (wF Z Q3u (wD 0 1 Z Q30 Q4R Z (wN Z Q1j (wP Z (Q3 (Q4 (Q5 [12,11,10,3] (S':=V4 ..) Z (Qm (Q6L [] Z (H':=[]) Z (Q1f (σ:=Nat × Nat × ByteArray) (fun (a4,a1,a2)=>Q1o (Q64 N l1) a4 (a1,a2) = some a8) (fun (a4,a1,a2)=>a4) (fun (a4,a1,a2)=>[(12,.int .i64 ((a1:Nat):Int)),(11,.int .i64 ((l1.length:Nat):Int)),(10,.slice a6 l1.length a7),(3,.string a2)]) (fun (a4,a1,a2)=>[.sli 1 Qi a6 a7 l1,tF]) (fun (a4,a1,a2)=>[]) (N,0,Q6P a0) hm [12,11,10,3] Z (asK [0,1] Z) Z (fun s_ hm=>?_))))))))))))
 obtain ⟨a4,a1,a2⟩:=s_
 try dsimp only at hm ⊢
 obtain ⟨aM,aN,a9,hq,hLu1⟩:=Q1d hm
 clear hm
 subst a9
 replace hm:=hq
 clear hq
 unfold Q64 at hm
 try dsimp only at hm
 refine Q6 (Q2 (wP Z (Qz (d:=13) (v':=.bool (decide (a1 < l1.length))) (S':=V4 ..) Z Z (Q3f (a:=a1) (b:=l1.length)) (Q3 (Q4 (Q6 ?_))))))
 refine QA Z (fun a5=>?_) (fun a5=>?_)
 replace hm:=Q1z hm a5
 refine Q5 [12,11,10,3] (S':=V4 ..) Z (Qs (Q4 (Q6 (Qm (Q6 (Q2 ?_))))))
 obtain ⟨aA,aB,hm⟩:=Q7 hm
 refine Q53 0 a1 Z Z Z Zq Z Z Z Z Z aB Q1j Q1w (fun aO aP aL aJ=>(Q6m Q1K 1 Z (fun aQ aC _=>?_)))
 subst aC
 refine Q6l 0 0 Z Z Z Zq Z Z Z (cs:=[_]) Z Q1w Q3z Z Z (wP Z (Q3 (Q4 (Q5 [5,12,11,10,3] (S':=V5 ..) Z (Q2 (wP Z (wP Z ?_)))))))
 obtain ⟨aD,hm⟩:=Qd hm
 refine wC [] [] Z fn_95 Z (sh_Itoa aA aD) (asK [3] Z) Z (H':=[]) Z ?_
 rintro _ _ _ ⟨rfl,rfl,rfl⟩
 obtain ⟨aE,hm⟩:=Qd hm
 refine Q5q Z Z Z Zq Z Z Z (run_strAdd aE) ?_
 obtain ⟨aF,hm⟩:=Qd hm
 refine Q5q Z Z Z Zq Z Z Z (run_strAdd aF) (QI (S':=V9 ..) Z Z Z Z Z (Q3 (Qj (Q4 (Q5 [3,12,11,10] (S':=V4 ..) Z (Q2 (wP Z ?_)))))))
 obtain ⟨aG,hm⟩:=Qd hm
 refine Qz (d:=21) (v':=.int .i64 ((a1 + 1:Nat):Int)) (S':=V4 ..) Z Z (Q1i (a:=a1) (b:=1) aG) (QI (S':=V4 ..) Z Z Z Z Z (Q3 ?_))
 have hE:=(Zi hm).symm
 replace hE:=Q14 hLu1 hE
 refine Q1a (_,a1 + 1,(a2 ++ ((⟨#[32]⟩ : ByteArray) ++ (Q6P aA)))) (Nat.lt_succ_self _) hE [12,11,10,3] Z (asK [2,3] Z) Z
 replace hm:=Q1y hm a5
 refine Q5 [3] (S':=[_]) Z (Q19 (Qc (Qc (Qt ?_))))
 have hE:=(Zi hm).symm
 replace hE:=QO hLu1 hE
 refine Qp a2 hE [3] Z (asK [1] Z) Z
 rintro a3 hE
 try dsimp only
 have hm:=hLj_1
 try rw [hE] at hm
 refine Q6 (Q2 (wP Z (wP Z (Q3 (Q4 (Q5 [2] (S':=[_]) Z (QP ?_)))))))
 have hE:=(Zi hm).symm
 replace hE:=hE.symm
 subst hE
 refine QH (Hr:=[]) [] Tryz.results42 (QD Z) ⟨Z,Z,Z⟩ (asK [] Z) Z Z (.inl Z)
theorem Q5d (N:Nat) (a0:Int) (qp0:OA) (qc1:Nat) (l1:List Int)  (hm:Q57 N a0 l1 = some ()):Q1R Tryz.prog 33 [.agg #[.int .i64 a0,.slice qp0 l1.length qc1]] [.sli 1 Qi qp0 qc1 l1,tF] [] (fun v Φr Hr=>∃ (o0:OA) (o1:Nat),v = .agg #[.int .i64 a0,.slice o0 l1.length o1] ∧ Φr = [] ∧ Hr = [.own 3 1 Qi (.slice o0 l1.length o1) l1]):=by
 unfold Q57 at hm
 refine QZ Tryz.func33 Z Tryz.ntmps33 Z (S:=[_]) Z (fun C=>(Q6 (Q2 (wB Z (fun g1=>(Q25 Z Z Z Zq Z Q42 Z (fun g2=>(Q3 (Q4 (Q5 [2,1] (S':=[_,_]) Z (Q6 (Q2 (wF Z Q3u (wD 1 1 Z Q30 Q4R Z ?_))))))))))))))
 obtain ⟨hg5,hm⟩:=Qd hm
 refine wC [] [0,1] Z fn_53 Z (Clone53f_s qp0 qc1 l1 hg5) (asK [0] Z) Z (H':=[_,_]) Z ?_
 rintro _ _ _ ⟨p5,c5,rfl,rfl,rfl⟩
 refine wF Z Q3u (wS 2 1 Z Q30 (all':=[_,_]) Z (H':=V3 ..) Z (Q3 (Q4 (Q5 [2,1] (S':=[_,_]) Z (Q6 (Q2 (Q1V 2 0 Z Z Z Zq Z Z Z (cs:=[_,_]) Z Qe QS Z Z (wS 1 0 Z Qe (all':=[_,_]) Z (H':=V3 ..) Z (Q3 (Q4 (Q5 [2] (S':=[_]) Z (QP ?_))))))))))))
 have hE:=(Zi hm).symm
 refine QH (Hr:=[_]) [0] Tryz.results33 (Q5D 1 Z Z Qe QS Z Z) ⟨p5,c5,Z,Z,Z⟩ (asK [] Z) Z Z (.inl Z)
theorem w_bits_Len64_s (N:Nat) (a0:Int) (o0:Int) (hm:Q8t N a0 = some o0):Q1R Tryz.prog 157 [.int .u64 a0] [tF] [] (fun v Φr Hr=>v = .int .i64 o0 ∧ Φr = [] ∧ Hr = []):=by
 unfold Q8t at hm
 refine QZ Tryz.func157 Z Tryz.ntmps157 Z (S:=[_]) Z (fun C=>(Q6 (Q2 (wP Z (Q3 (Q4 (Q6 ?_)))))))
 obtain ⟨aA,hm,hLj_1⟩:=Q7 hm
 refine Q18 (σ:=Int × Nat) (fun (a3,a1)=>aA = (a3,a1)) (fun (a3,a1)=>[(0,.int .u64 a3),(2,.int .i64 ((a1:Nat):Int))]) (fun (a3,a1)=>[tF]) (fun (a3,a1)=>[]) ?_ ?_
 refine Q6 (Q2 (wP Z (wP Z (Q3 (Q4 (Q5 [4,2,0] (S':=V3 ..) Z ?_))))))
 refine QA Z (fun a8=>?_) (fun a8=>?_)
 replace hm:=Q1z hm a8
 refine Q5 [0] (S':=[_]) Z (Q6 (Q2 (wP Z (Q5q Z Z Z Zq Z Z Z (run_shr (by decide)) (QI (S':=[_,_]) Z Z Z Z Z (Q3 (Q4 (Q5 [0] (S':=[_]) Z (Q2 (wP Z (Q3 ?_)))))))))))
 have hE:=(Zi hm).symm
 refine Qp (Int.fdiv a0 (2 ^ (32)),32) hE [0,2] Z (asK [0] Z) Z
 replace hm:=Q1y hm a8
 refine Q5 [2,0] (S':=[_,_]) Z (Qs ?_)
 have hE:=(Zi hm).symm
 refine Qp (a0,0) hE [0,2] Z (asK [0] Z) Z
 rintro ⟨a3,a1⟩ hE
 try dsimp only
 have hm:=hLj_1
 try rw [hE] at hm
 try dsimp only at hm
 refine Q6 ?_
 obtain ⟨aB,hm,hLj_2⟩:=Q7 hm
 refine Q18 (σ:=Int × Nat) (fun (a4,a2)=>aB = (a4,a2)) (fun (a4,a2)=>[(0,.int .u64 a4),(2,.int .i64 ((a2:Nat):Int))]) (fun (a4,a2)=>[tF]) (fun (a4,a2)=>[]) ?_ ?_
 refine Q6 (Q2 (wP Z (wP Z (Q3 (Q4 (Q5 [8,0,2] (S':=V3 ..) Z ?_))))))
 refine QA Z (fun a9=>?_) (fun a9=>?_)
 replace hm:=Q1z hm a9
 refine Q5 [0,2] (S':=[_,_]) Z (Q6 (Q2 (wP Z (Q5q Z Z Z Zq Z Z Z (run_shr (by decide)) (QI (S':=V3 ..) Z Z Z Z Z (Q3 (Q4 (Q5 [0,2] (S':=[_,_]) Z (Q2 (wP Z (wP Z ?_)))))))))))
 obtain ⟨aC,hm⟩:=Qd hm
 refine Qz (d:=12) (v':=.int .i64 ((a1 + 16:Nat):Int)) (S':=V3 ..) Z Z (Q1i (a:=a1) (b:=16) aC) (QI (S':=V3 ..) Z Z Z Z Z (Q3 ?_))
 have hE:=(Zi hm).symm
 refine Qp (Int.fdiv a3 (2 ^ (16)),a1 + 16) hE [0,2] Z (asK [0] Z) Z
 replace hm:=Q1y hm a9
 refine Q5 [0,2] (S':=[_,_]) Z (Qs ?_)
 have hE:=(Zi hm).symm
 refine Qp (a3,a1) hE [0,2] Z (asK [0] Z) Z
 rintro ⟨a4,a2⟩ hE
 try dsimp only
 have hm:=hLj_2
 try rw [hE] at hm
 try dsimp only at hm
 refine Q6 ?_
 obtain ⟨aD,hm,hLj_3⟩:=Q7 hm
 refine Q18 (σ:=Int × Nat) (fun (a5,a6)=>aD = (a5,a6)) (fun (a5,a6)=>[(0,.int .u64 a5),(2,.int .i64 ((a6:Nat):Int))]) (fun (a5,a6)=>[tF]) (fun (a5,a6)=>[]) ?_ ?_
 refine Q6 (Q2 (wP Z (wP Z (Q3 (Q4 (Q5 [14,0,2] (S':=V3 ..) Z ?_))))))
 refine QA Z (fun a7=>?_) (fun a7=>?_)
 replace hm:=Q1z hm a7
 refine Q5 [0,2] (S':=[_,_]) Z (Q6 (Q2 (wP Z (Q5q Z Z Z Zq Z Z Z (run_shr (by decide)) (QI (S':=V3 ..) Z Z Z Z Z (Q3 (Q4 (Q5 [0,2] (S':=[_,_]) Z (Q2 (wP Z (wP Z ?_)))))))))))
 obtain ⟨aE,hm⟩:=Qd hm
 refine Qz (d:=18) (v':=.int .i64 ((a2 + 8:Nat):Int)) (S':=V3 ..) Z Z (Q1i (a:=a2) (b:=8) aE) (QI (S':=V3 ..) Z Z Z Z Z (Q3 ?_))
 have hE:=(Zi hm).symm
 refine Qp (Int.fdiv a4 (2 ^ (8)),a2 + 8) hE [0,2] Z (asK [0] Z) Z
 replace hm:=Q1y hm a7
 refine Q5 [0,2] (S':=[_,_]) Z (Qs ?_)
 have hE:=(Zi hm).symm
 refine Qp (a4,a2) hE [0,2] Z (asK [0] Z) Z
 rintro ⟨a5,a6⟩ hE
 try dsimp only
 have hm:=hLj_3
 try rw [hE] at hm
 try dsimp only at hm
 refine Q6 (Q2 (wP Z (wP Z (Q9M Z Z Z Zq (rk_conv Z Z tI_163 tI_5) ?_))))
 obtain ⟨aF,hm⟩:=Qd hm
 obtain ⟨aJ,aG,hm⟩:=Q7 hm
 refine Q9M Z Z Z Zq (rk_strAt ((IntKind.wrap .u8 a5).toNat) Z Z Z (QC aF) aG Q2t) (Q9M Z Z Z Zq (rk_conv Z Z tI_5 tI_3) (wP Z ?_))
 obtain ⟨aH,hm⟩:=Qd hm
 refine Qz (d:=24) (v':=.int .i64 (((a6:Nat):Int) + (IntKind.wrap .i64 ((aJ.toNat:Nat):Int)))) (S':=V7 ..) Z Z (i64_in aH) (QI (S':=V7 ..) Z Z Z Z Z (Q3 (Q4 (Q5 [2] (S':=[_]) Z (QP ?_)))))
 have hE:=(Zi hm).symm
 replace hE:=hE.symm
 subst hE
 refine QH (Hr:=[]) [] Tryz.results157 (QD Z) ⟨Z,Z,Z⟩ (asK [] Z) Z Z (.inl Z)
theorem w_bits_Len_s (N:Nat) (a0:Int) (o0:Int) (hm:Q7X N a0 = some o0):Q1R Tryz.prog 97 [.int .u64 a0] [tF] [] (fun v Φr Hr=>v = .int .i64 o0 ∧ Φr = [] ∧ Hr = []):=by
 unfold Q7X at hm
 refine QZ Tryz.func97 Z Tryz.ntmps97 Z (S:=[_]) Z (fun C=>(Q6 (Q2 (wP Z (Q3 (Q4 (Q5 [0] (S':=[_]) Z (Q6 (Q4q Z (Qs (Q4 (Q6 (Q2 (wP Z ?_))))))))))))))
 obtain ⟨v7,hc7,hm⟩:=Q7 hm
 refine wC [] [] Z fn_157 Z (w_bits_Len64_s N a0 _ hc7) (asK [0] Z) Z (H':=[]) Z ?_
 rintro _ _ _ ⟨rfl,rfl,rfl⟩
 refine wP Z (Q3 (Q4 (Q5 [2] (S':=[_]) Z (QP ?_))))
 have hE:=(Zi hm).symm
 replace hE:=hE.symm
 subst hE
 refine QH (Hr:=[]) [] Tryz.results97 (QD Z) ⟨Z,Z,Z⟩ (asK [] Z) Z Z (.inl Z)
theorem QN (N:Nat) (a7:Addr) (aH:Nat) (a8:Nat) (l0:List Int) (a1:Int) (a9:OA) (aA:Nat) (l2:List Int) (a3:Int) (aB:OA) (aC:Nat) (l4:List Int) (o0:Int) (hm:Q17 N l0 a1 l2 a3 l4 = some o0):Q1R Tryz.prog 41 [.slice (some a7) aH a8,.agg #[.int .i64 a1,.slice a9 l2.length aA],.agg #[.int .i64 a3,.slice aB l4.length aC]] [.sli 1 Qi a9 aA l2,.sli 1 Qi aB aC l4,tF] [.own 3 1 Qi (.slice (some a7) aH a8) l0] (fun v Φr Hr=>v = .int .i64 o0 ∧ Φr = [] ∧ Hr = [.own 3 1 Qi (.slice (some a7) aH a8) l0]):=by
 unfold Q17 at hm
 refine QZ Tryz.func41 Z Tryz.ntmps41 Z (S:=V3 ..) Z (fun C=>(Q6 (Q2 (wB Z (fun g4=>(wB Z (fun g5=>(wP Z (Q3 (Q4 (Q5 [5,4,0] (S':=V3 ..) Z (Q6 ?_))))))))))))
 obtain ⟨v9,aY,hm⟩:=Q7 hm
 obtain ⟨aZ,aM,hm⟩:=Q7 hm
 obtain ⟨aI,aN,hm⟩:=Q7 hm
 obtain ⟨aE,aO,hm⟩:=Q7 hm
 obtain ⟨aF,aP,hm⟩:=Q7 hm
 obtain ⟨aG,aQ,hm⟩:=Q7 hm
 obtain ⟨aD,aR,hm⟩:=Q7 hm
 obtain ⟨a6,aS,hm⟩:=Q7 hm
 obtain ⟨b3,aT,hm⟩:=Q7 hm
 refine QV [0,1,3,4,7,8,10,11,14,15,16,17,19,20,21,22] Z Z (fun hok=>(xP hok 0 Z (Qq hok 1 0 0 Z Z Z Zq Z Z Z Z (cs:=[_,_]) Z Qe QS Z Z (xP hok 3 Z (Qq hok 4 1 0 Z Z Z Zq Z Z Z Z (cs:=[_,_]) Z Qe QS Z Z (Ql hok 7 Z Z Z Zq Z Z Z Q3u (Qq hok 8 0 1 Z Z Z Zq Z Z Z Z (cs:=[_]) Z Q30 Q4R Z Z (Ql hok 10 Z Z Z Zq Z Z Z Q3u (Qq hok 11 1 1 Z Z Z Zq Z Z Z Z (cs:=[_]) Z Q30 Q4R Z Z (Ql hok 14 Z Z Z Zq Z Z Z Q2L (Qq hok 15 1 0 Z Z Z Zq Z Z Z Z (cs:=[_]) Z Q1w Q3z Z Z (Ql hok 16 Z Z Z Zq Z Z Z Q2L (Qq hok 17 0 0 Z Z Z Zq Z Z Z Z (cs:=[_]) Z Q1w Q3z Z Z (Ql hok 19 Z Z Z Zq Z Z Z Q3u ?_))))))))))))))
 refine Qq hok 20 1 1 Z Z Z Zq Z Z Z Z (cs:=[_]) Z Q30 Q4R Z Z (Ql hok 21 Z Z Z Zq Z Z Z Q3u (Qq hok 22 0 1 Z Z Z Zq Z Z Z Z (cs:=[_]) Z Q30 Q4R Z Z (xS hok 2 Z (QK 2 Z (fun aJ _=>?_)))))
 subst aJ
 refine Q2k [] [0,1,2] [2] Z Z Z Zq Z Z fn_92 Z (Q6t N (some a7) a8 l0 a3 aB aC l4 _ aY) (fun F w hφ hh=>(Qh (Q1n (hh _ (Qu (k:=0) Z))) (Qh (hφ _ (Qu (k:=1) Z)) (Qh (hφ _ (Qu (k:=2) Z)) Qv)))) (fun _ _ _ hR=>by obtain ⟨rfl,rfl,rfl⟩:=hR; exact ⟨Z,(fun _ h=>Q1O h)⟩) Z Z (H':=V3 ..) Z ?_
 rintro _ _ _ ⟨rfl,rfl,rfl⟩
 refine Q3 (Qy [0,1,2] [0,1,0,1,1,0,1] Z Z (xS hok 5 Z (Q2k [] [0,1,2] [2] Z Z Z Zq Z Z fn_92 Z (Q6t N (some a7) a8 l0 a1 a9 aA l2 _ aM) (fun F w hφ hh=>(Qh (Q1n (hh _ (Qu (k:=0) Z))) (Qh (hφ _ (Qu (k:=0) Z)) (Qh (hφ _ (Qu (k:=2) Z)) Qv)))) (fun _ _ _ hR=>by obtain ⟨rfl,rfl,rfl⟩:=hR; exact ⟨Z,(fun _ h=>Q1O h)⟩) Z Z (H':=V3 ..) Z ?_)))
 rintro _ _ _ ⟨rfl,rfl,rfl⟩
 refine Q3 (Qy [0,1,2] [0,1,0,1,1,0,0] Z Z (xS hok 6 Z (wC [] [0,1,2] Z fn_91 Z (Q5f N v9 aZ _ aN) (asK [] Z) Z (H':=V3 ..) Z ?_)))
 rintro _ _ _ ⟨rfl,rfl,rfl⟩
 refine Q3 (Qy [0,1,2] [0,1,0,1,1,0,1,0] Z Z (xS hok 9 Z (wC [] [0,1,2] Z fn_94 Z (Q6J N aB aC l4 _ aO) (asK [1,2] Z) Z (H':=V3 ..) Z ?_)))
 rintro _ _ _ ⟨a0,a2,rfl,rfl,rfl⟩
 refine Q3 (Qy [0,1,2] [1,2,1,2,2,2,1] Z Z (xS hok 12 Z (wC [] [0,1,2,3] Z fn_94 Z (Q6J N a9 aA l2 _ aP) (asK [0,2] Z) Z (H':=V4 ..) Z ?_)))
 rintro _ _ _ ⟨a4,a5,rfl,rfl,rfl⟩
 refine Q3 (Qy [0,1,2] [2,3,2,3,2,3,2] Z Z (xS hok 13 Z (QK 1 Z (fun aU _=>(Q4F 1 (v':=.slice a0 aE.length a2) Z (by first | rfl | rw [aU]) (Q28 1 (φ':=.own 3 1 Qi (.slice a0 aE.length a2) aE) Z (by first | rfl | rw [aU]) (H':=V5 ..) Z (QK 0 Z (fun aV _=>(Q4F 0 (v':=.slice a4 aF.length a5) Z (by first | rfl | rw [aV]) (Q28 0 (φ':=.own 3 1 Qi (.slice a4 aF.length a5) aF) Z (by first | rfl | rw [aV]) (H':=V5 ..) Z (Q2k [] [0,1,2,3,4] [1,0] Z Z Z Zq Z Z fn_93 Z (Q5Z N a0 a2 aE a4 a5 aF _ aQ) (fun F w hφ hh=>(Qh (Q1n (hh _ (Qu (k:=0) Z))) (Qh (Q1n (hh _ (Qu (k:=1) Z))) (Qh (hφ _ (Qu (k:=2) Z)) Qv)))) (fun _ _ _ hR=>by obtain ⟨rfl,rfl,rfl⟩:=hR; exact ⟨Z,(fun _ h=>Q1O h)⟩) Z Z (H':=V5 ..) Z ?_)))))))))))
 rintro _ _ _ ⟨rfl,rfl,rfl⟩
 refine Q3 (Qy [0,1,2] [2,3,2,3,3,2,3,2] Z Z (xS hok 18 Z (wC [] [0,1,2,3,4] Z fn_91 Z (Q5f N a1 a3 _ aR) (asK [] Z) Z (H':=V5 ..) Z ?_)))
 rintro _ _ _ ⟨rfl,rfl,rfl⟩
 refine Q3 (Qy [0,1,2] [2,3,3,2,3,2] Z Z (xS hok 23 Z (wC [] [0,1,2,3,4] Z fn_93 Z (Q5Z N a9 aA l2 aB aC l4 _ aS) (asK [0,1,2] Z) Z (H':=V5 ..) Z ?_)))
 rintro _ _ _ ⟨rfl,rfl,rfl⟩
 refine Q3 (Qy [0,1,2] [2,3,3,2,3,2] Z Z (xS hok 24 Z (QE Z Z Z Zq Z Q1j Q1w Q7g Z (zs:=[.int .i64 0,.int .i64 0,.int .i64 0,.int .i64 0]) (by kernel_rfl) Z (out:=V4 ..) Z (fun b0=>(Q3 (Qy [0,1,2] [3,4,3,4,4,3,4,3] Z Z (xS hok 25 Z (Q3V (sz:=1) (m:=4) Qi ([aI,aG,aD,a6]) 0 Z (fun F w hφ=>⟨[.int .i64 aI],[.int .i64 aG,.int .i64 aD,.int .i64 a6],Z,Z,⟨(),Z,Qv⟩,⟨[.int .i64 aG],[.int .i64 aD,.int .i64 a6],Z,Z,⟨(),Z,Qv⟩,⟨[.int .i64 aD],[.int .i64 a6],Z,Z,⟨(),Z,Qv⟩,⟨[.int .i64 a6],[],Z,Z,⟨(),Z,Qv⟩,Z⟩⟩⟩⟩) Z (by decide) (H':=V6 ..) Z (Q2k [] [0,1,2,3,4,5] [0] Z Z Z Zq Z Z fn_90 Z (Qa6 N (some ⟨b0,0,none⟩) 4 [aI,aG,aD,a6] _ aT) (fun F w hφ hh=>(Qh (Q1n (hh _ (Qu (k:=0) Z))) (Qh (hφ _ (Qu (k:=2) Z)) Qv))) (fun _ _ _ hR=>by obtain ⟨rfl,rfl,rfl⟩:=hR; exact ⟨Z,(fun _ h=>Q1O h)⟩) Z Z (H':=V6 ..) Z ?_)))))))))
 rintro _ _ _ ⟨rfl,rfl,rfl⟩
 refine Q3 (Qy [0,1,2] [3,4,3,4,4,3,4,3] Z Z (xS hok 26 Z (wP Z (Q3 (Qy [0,1,2] [] Z Z (QL hok Z (Q4 (Q5 [6] (S':=[_]) Z (QP ?_)))))))))
 have hE:=(Zi hm).symm
 replace hE:=hE.symm
 subst hE
 refine QH (Hr:=[_]) [5] Tryz.results41 (QD Z) ⟨Z,Z,Z⟩ (asK [] Z) Z Z (.inl Z)
theorem Q5p (N:Nat) (aC:OA) (aD:Nat) (l0:List Q1) (a1:Int) (a2:Int) (aB:Nat) (a3:Int) (a0:Addr) (a4:Nat) (a5:Nat) (l4:List Int) (o0:Int) (o1:Int) (o2:Int) (hm:Q2I N l0 a1 a2 a3 l4 = some (o0,o1,o2)):Q1R Tryz.prog 192 [.slice aC l0.length aD,.int .i64 a1,.int .i64 a2,.pointer (some ⟨aB,0,none⟩),.func (.func 41) #[.slice (some a0) a4 a5] #[]] [.sli 2 Q9 aC aD l0,tF] [.blk aB [.int .i64 a3] 3,.own 3 1 Qi (.slice (some a0) a4 a5) l4] (fun v Φr Hr=>v = .tuple #[.int .i64 o0,.int .i64 o1] ∧ Φr = [] ∧ Hr = [.blk aB [.int .i64 o2] 3,.own 3 1 Qi (.slice (some a0) a4 a5) l4]):=by
 unfold Q2I at hm
 refine QZ Tryz.func192 Z Tryz.ntmps192 Z (S:=V5 ..) Z (fun C=>(Q6 (Q2 (wP Z (wP Z (Q3 (Q4 (Q5 [0,1,2,3,4] (S':=V5 ..) Z (Q6 (Q6 ?_))))))))))
 obtain ⟨aE,hm⟩:=Qd hm
 obtain ⟨a7,aF,hm⟩:=Q7 hm
 obtain ⟨aG,hm⟩:=Qd hm
 obtain ⟨a8,aH,hm⟩:=Q7 hm
 obtain ⟨aY,aI,hm⟩:=Q7 hm
 refine QV [0,1,2,3,4,5,6,7,8,10] Z Z (fun hok=>(xP hok 0 Z (xP hok 1 Z (xP hok 2 Z (Q1Q hok 3 0 a2.toNat Z Z Z Zq Z Z Z Z Z (QC aE) aF QB Qe (fun aZ b0 aW aR=>(Q2e Qa 1 Z (fun a9 aJ _=>?_))))))))
 subst aJ
 refine Q2Q hok 4 1 0 Z Z Z Zq Z Z Z Z (cs:=[_,_]) Z Qe QS Z Z (xP hok 5 Z (xP hok 6 Z (Q1Q hok 7 3 a1.toNat Z Z Z Zq Z Z Z Z Z (QC aG) aH QB Qe (fun b1 b2 aX aS=>(Q2e Qa 1 Z (fun aA aK _=>?_))))))
 subst aK
 refine Q2Q hok 8 1 0 Z Z Z Zq Z Z Z Z (cs:=[_,_]) Z Qe QS Z Z (xS hok 9 Z (Q26 (args:=[.slice (some a0) a4 a5,.agg #[.int .i64 (a7.rule),.slice a9.1 a7.ids.length a9.2],.agg #[.int .i64 (a8.rule),.slice aA.1 a8.ids.length aA.2]]) [1] [0] Z Z Z Zq Z Z Z Q66 Z Z (QN N a0 a4 a5 l4 a7.rule a9.1 a9.2 a7.ids a8.rule aA.1 aA.2 a8.ids _ aI) (asK [3,0,7] Z) Z (H':=[_]) Z ?_))
 rintro _ _ _ ⟨rfl,rfl,rfl⟩
 refine Q3 (Qy [0,1,2,3,4,5,6,7] [] Z Z (xP hok 10 Z (QL hok Z (Q4 (Q5 [22,1,2,3] (S':=V4 ..) Z ?_)))))
 refine QA Z (fun a6=>?_) (fun a6=>?_)
 replace hm:=Q1z hm a6
 refine Q5 [1,2,3] (S':=V3 ..) Z (Q6 (Q2 (wP Z (wP Z (wD 1 0 Z Q1w Q3z Z (wP Z ?_))))))
 obtain ⟨aL,hm⟩:=Qd hm
 refine Qz (d:=26) (v':=.int .i64 (a3 + 1)) (S':=V6 ..) Z Z (i64_in aL) (wP Z (wS 1 0 Z Q1w (all':=[_]) Z (H':=[_,_]) Z (Q3 (Q4 (Q5 [1,2] (S':=[_,_]) Z (Q6 (Q2 (wP Z (wP Z (wP Z (wP Z (Q3 (Q4 ?_)))))))))))))
 refine Q5 [11,10] (S':=[_,_]) Z (QP (Qn ?_))
 have hE:=(Zi hm).symm
 obtain ⟨hE0,hF1⟩:=Prod.mk.inj hE
 obtain ⟨hE1,hE2⟩:=Prod.mk.inj hF1
 clear hE hF1
 replace hE0:=hE0.symm
 subst hE0
 replace hE1:=hE1.symm
 subst hE1
 replace hE2:=hE2.symm
 subst hE2
 refine Q7e (Hr:=[_,_]) [1,0] Tryz.results192 (QD Z) (QD Z) ⟨Z,Z,Z⟩ (asK [] Z) Z Z (.inl Z)
 replace hm:=Q1y hm a6
 refine Q5 [1,2] (S':=[_,_]) Z (Qs (Q4 (Q6 (Q2 (wP Z (wP Z (wP Z (wP Z (Q3 (Q4 (Q5 [11,10] (S':=[_,_]) Z (QP ?_))))))))))))
 have hE:=(Zi hm).symm
 obtain ⟨hE0,hF1⟩:=Prod.mk.inj hE
 obtain ⟨hE1,hE2⟩:=Prod.mk.inj hF1
 clear hE hF1
 replace hE0:=hE0.symm
 subst hE0
 replace hE1:=hE1.symm
 subst hE1
 replace hE2:=hE2.symm
 subst hE2
 refine Q7e (Hr:=[_,_]) [1,0] Tryz.results192 (QD Z) (QD Z) ⟨Z,Z,Z⟩ (asK [] Z) Z Z (.inl Z)
theorem Q6A (N:Nat) (a8:OA) (a9:Nat) (l0:List Q1) (a1:Int) (a2:Int) (a3:Int) (a0:Nat) (a4:Int) (a5:Addr) (a6:Nat) (a7:Nat) (l5:List Int) (o0:Int) (o1:Int) (hm:Q3a N l0 a1 a2 a3 a4 l5 = some (o0,o1)):Q1R Tryz.prog 177 [.slice a8 l0.length a9,.int .i64 a1,.int .i64 a2,.int .i64 a3,.pointer (some ⟨a0,0,none⟩),.func (.func 41) #[.slice (some a5) a6 a7] #[]] [.sli 2 Q9 a8 a9 l0,tF] [.blk a0 [.int .i64 a4] 3,.own 3 1 Qi (.slice (some a5) a6 a7) l5] (fun v Φr Hr=>v = .int .i64 o0 ∧ Φr = [] ∧ Hr = [.blk a0 [.int .i64 o1] 3,.own 3 1 Qi (.slice (some a5) a6 a7) l5]):=by
 unfold Q3a at hm
 refine QZ Tryz.func177 Z Tryz.ntmps177 Z (S:=V6 ..) Z (fun C=>(Q6 (Q2 (wP Z (Q3 (Q4 (Q5 [0,1,2,3,4,5] (S':=V6 ..) Z (Q6 (Q2 (wP Z (wP Z (wP Z (wP Z (wP Z ?_))))))))))))))
 obtain ⟨⟨aA,aB,aC⟩,aH,hm⟩:=Q7 hm
 try dsimp only at hm
 refine wC [0,1] [] Z fn_192 Z (Q5p N a8 a9 l0 a1 a2 a0 a4 a5 a6 a7 l5 _ _ _ aH) (asK [0,1] Z) Z (H':=[]) Z ?_
 rintro _ _ _ ⟨rfl,rfl,rfl⟩
 refine wP Z (wP Z (wP Z (QI (S':=V14 ..) Z Z Z Z Z (QI (S':=V14 ..) Z Z Z Z Z (Q3 (Q4 (Q5 [2,1,0,3,4,5] (S':=V6 ..) Z (Q6 (Q2 (wP Z (wP Z (wP Z (wP Z ?_)))))))))))))
 refine wP Z ?_
 obtain ⟨⟨aD,aO,aE⟩,aI,hm⟩:=Q7 hm
 try dsimp only at hm
 refine wC [0,1] [] Z fn_192 Z (Q5p N a8 a9 l0 aB a3 a0 aC a5 a6 a7 l5 _ _ _ aI) (asK [0,1] Z) Z (H':=[]) Z ?_
 rintro _ _ _ ⟨rfl,rfl,rfl⟩
 refine wP Z (wP Z (wP Z (QI (S':=V14 ..) Z Z Z Z Z (QI (S':=V14 ..) Z Z Z Z Z (Q3 (Q4 (Q5 [2,1,0,4,5] (S':=V5 ..) Z (Q6 (Q2 (wP Z (wP Z (wP Z (wP Z ?_)))))))))))))
 refine wP Z ?_
 obtain ⟨⟨aP,aQ,aR⟩,aJ,hm⟩:=Q7 hm
 try dsimp only at hm
 refine wC [0,1] [] Z fn_192 Z (Q5p N a8 a9 l0 aA aD a0 aE a5 a6 a7 l5 _ _ _ aJ) (asK [0,1] Z) Z (H':=[]) Z ?_
 rintro _ _ _ ⟨rfl,rfl,rfl⟩
 refine wP Z (wP Z (wP Z (QI (S':=V13 ..) Z Z Z Z Z (QI (S':=V13 ..) Z Z Z Z Z (Q3 (Q4 (Q5 [2] (S':=[_]) Z (Q6 (Q2 (wP Z (wP Z (Q3 (Q4 ?_)))))))))))))
 refine Q5 [12] (S':=[_]) Z (QP ?_)
 have hE:=(Zi hm).symm
 obtain ⟨hE0,hE1⟩:=Prod.mk.inj hE
 clear hE
 replace hE0:=hE0.symm
 subst hE0
 replace hE1:=hE1.symm
 subst hE1
 refine QH (Hr:=[_,_]) [0,1] Tryz.results177 (QD Z) ⟨Z,Z,Z⟩ (asK [] Z) Z Z (.inl Z)
theorem Q4p (N:Nat) (qp0:OA) (qc1:Nat) (l0:List Q1) (a1:Int) (qg2:Nat) (a2:Int) (qp3:Addr) (qn4:Nat) (qc5:Nat) (l3:List Int) (o0:Int) (o1:Int) (hm:Q1U N l0 a1 a2 l3 = some (o0,o1)):Q1R Tryz.prog 176 [.slice qp0 l0.length qc1,.int .i64 a1,.pointer (some ⟨qg2,0,none⟩),.func (.func 41) #[.slice (some qp3) qn4 qc5] #[]] [.sli 2 Q9 qp0 qc1 l0,tF] [.blk qg2 [.int .i64 a2] 3,.own 3 1 Qi (.slice (some qp3) qn4 qc5) l3] (fun v Φr Hr=>v = .int .i64 o0 ∧ Φr = [] ∧ Hr = [.blk qg2 [.int .i64 o1] 3,.own 3 1 Qi (.slice (some qp3) qn4 qc5) l3]):=by
 unfold Q1U at hm
 refine QZ Tryz.func176 Z Tryz.ntmps176 Z (S:=V4 ..) Z (fun C=>(Q6 (Q2 (wP Z (Q3 (Q4 (Q5 [0,1,2,3] (S':=V4 ..) Z (Q6 (Q2 (wP Z (wP Z (wP Z ?_))))))))))))
 obtain ⟨hg11,hm⟩:=Qd hm
 refine Qz (d:=11) (v':=.int .i64 (a1 - 1)) (S':=V6 ..) Z Z (i64_in hg11) (wP Z (wP Z (wP Z ?_)))
 obtain ⟨hg14,hm⟩:=Qd hm
 refine Qz (d:=14) (v':=.int .i64 (a1 + 1)) (S':=V9 ..) Z Z (i64_in hg14) (wP Z (wP Z ?_))
 obtain ⟨⟨v17_0,v17_1⟩,hc17,hm⟩:=Q7 hm
 try dsimp only at hm
 refine wC [0,1] [] Z fn_177 Z (Q6A N qp0 qc1 l0 (a1 - 1) a1 (a1 + 1) qg2 a2 qp3 qn4 qc5 l3 _ _ hc17) (asK [0,1] Z) Z (H':=[]) Z ?_
 rintro _ _ _ ⟨rfl,rfl,rfl⟩
 refine wP Z (Q3 (Q4 (Q5 [8] (S':=[_]) Z (QP ?_))))
 have hE:=(Zi hm).symm
 obtain ⟨hE0,hE1⟩:=Prod.mk.inj hE
 clear hE
 replace hE0:=hE0.symm
 subst hE0
 replace hE1:=hE1.symm
 subst hE1
 refine QH (Hr:=[_,_]) [0,1] Tryz.results176 (QD Z) ⟨Z,Z,Z⟩ (asK [] Z) Z Z (.inl Z)
theorem Q7u (N:Nat) (aC:OA) (aD:Nat) (l0:List Q1) (a1:Int) (a2:Int) (a9:Addr) (aA:Nat) (aB:Nat) (l3:List Int) (o0:Int) (o1:Nat) (hm:Q33 N l0 a1 a2 l3 = some (o0,o1)):Q1R Tryz.prog 151 [.slice aC l0.length aD,.int .i64 a1,.int .i64 a2,.func (.func 41) #[.slice (some a9) aA aB] #[]] [.sli 2 Q9 aC aD l0,tF] [.own 3 1 Qi (.slice (some a9) aA aB) l3] (fun v Φr Hr=>v = .tuple #[.int .i64 o0,.int .i64 ((o1:Nat):Int)] ∧ Φr = [] ∧ Hr = [.own 3 1 Qi (.slice (some a9) aA aB) l3]):=by
 unfold Q33 at hm
 refine QZ Tryz.func151 Z Tryz.ntmps151 Z (S:=V4 ..) Z (fun C=>(Q6 (Q2 (wP Z (wP Z (Q3 (Q4 (Q5 [0,1,2,3] (S':=V4 ..) Z (Q6 (Q2 (wP Z (wP Z (wP Z ?_)))))))))))))
 obtain ⟨aU,hm⟩:=Qd hm
 refine Qz (d:=17) (v':=.int .i64 (a2 - a1)) (S':=V6 ..) Z Z (i64_in aU) (wP Z (Q3 (Q4 (Q5 [10,0,1,3] (S':=V4 ..) Z (Q6 (Q2 (Q25 Z Z Z Zq Z Q7g Z (fun aE=>(Q3 (Q4 (Q6 (Q2 (wP Z (wP Z ?_))))))))))))))
 refine Q5q Z Z Z Zq Z Z Z (Q9C (by decide)) (wP Z ?_)
 obtain ⟨aV,hm⟩:=Qd hm
 refine Qz (d:=21) (v':=.int .i64 ((IntKind.wrap .i64 (Int.tdiv (a2 - a1) 4)) * 1)) (S':=V8 ..) Z Z (i64_in aV) (wP Z ?_)
 obtain ⟨aW,hm⟩:=Qd hm
 refine Qz (d:=22) (v':=.int .i64 (a1 + ((IntKind.wrap .i64 (Int.tdiv (a2 - a1) 4)) * 1))) (S':=V9 ..) Z Z (i64_in aW) (wP Z (Q3 (Q4 (Q5 [12,11,10,0,1,3] (S':=V6 ..) Z (Q6 (Q2 (wP Z (wP Z (Q5q Z Z Z Zq Z Z Z (Q9C (by decide)) (wP Z ?_))))))))))
 obtain ⟨aX,hm⟩:=Qd hm
 refine Qz (d:=26) (v':=.int .i64 ((IntKind.wrap .i64 (Int.tdiv (a2 - a1) 4)) * 2)) (S':=V9 ..) Z Z (i64_in aX) (wP Z ?_)
 obtain ⟨aY,hm⟩:=Qd hm
 refine Qz (d:=27) (v':=.int .i64 (a1 + ((IntKind.wrap .i64 (Int.tdiv (a2 - a1) 4)) * 2))) (S':=V10 ..) Z Z (i64_in aY) (wP Z (Q3 (Q4 (Q5 [13,12,11,10,0,1,3] (S':=V7 ..) Z (Q6 (Q2 (wP Z (wP Z (Q5q Z Z Z Zq Z Z Z (Q9C (by decide)) (wP Z ?_))))))))))
 obtain ⟨aZ,hm⟩:=Qd hm
 refine Qz (d:=31) (v':=.int .i64 ((IntKind.wrap .i64 (Int.tdiv (a2 - a1) 4)) * 3)) (S':=V10 ..) Z Z (i64_in aZ) (wP Z ?_)
 obtain ⟨b0,hm⟩:=Qd hm
 refine Qz (d:=32) (v':=.int .i64 (a1 + ((IntKind.wrap .i64 (Int.tdiv (a2 - a1) 4)) * 3))) (S':=V11 ..) Z Z (i64_in b0) (wP Z (Q3 (Q4 (Q5 [14,13,12,11,10,0,3] (S':=V7 ..) Z (Q6 ?_)))))
 obtain ⟨b1,hm,hLj_1⟩:=Q7 hm
 unfold Q3s at hm
 refine Q18 (σ:=Int × Int) (fun (a7,a3)=>b1 = (a7,a3)) (fun (a7,a3)=>[(13,.int .i64 a7),(11,.pointer (some ⟨aE,0,none⟩))]) (fun (a7,a3)=>[tF]) (fun (a7,a3)=>[.blk aE [.int .i64 a3] 3,.own 3 1 Qi (.slice (some a9) aA aB) l3]) ?_ ?_
 refine Q6 (Q2 (wP Z (wP Z (Q3 (Q4 (Q5 [34,14,13,12,11,10,0,3] (S':=V8 ..) Z ?_))))))
 refine QA Z (fun aG=>?_) (fun aG=>?_)
 replace hm:=Q1z hm aG
 refine Q5 [14,13,12,11,10,0,3] (S':=V7 ..) Z (Q6 ?_)
 obtain ⟨b2,hm,hLj_2⟩:=Q7 hm
 refine Q18 (σ:=Int × Int × Int × Int) (fun (a4,a5,a6,a0)=>b2 = (a4,a5,a6,a0)) (fun (a4,a5,a6,a0)=>[(14,.int .i64 a4),(13,.int .i64 a5),(12,.int .i64 a6),(11,.pointer (some ⟨aE,0,none⟩)),(0,.slice aC l0.length aD),(3,.func (.func 41) #[.slice (some a9) aA aB] #[])]) (fun (a4,a5,a6,a0)=>[.sli 2 Q9 aC aD l0,tF]) (fun (a4,a5,a6,a0)=>[.blk aE [.int .i64 a0] 3,.own 3 1 Qi (.slice (some a9) aA aB) l3]) ?_ ?_
 refine Q6 (Q2 (wP Z (wP Z (Q3 (Q4 (Q5 [36,14,13,12,11,0,3] (S':=V7 ..) Z ?_))))))
 refine QA Z (fun aH=>?_) (fun aH=>?_)
 replace hm:=Q1z hm aH
 refine Q5 [14,13,12,11,0,3] (S':=V6 ..) Z (Q6 (Q2 (wP Z (wP Z (wP Z ?_)))))
 obtain ⟨⟨aM,aN⟩,b3,hm⟩:=Q7 hm
 try dsimp only at hm
 refine wC [0,1] [] Z fn_176 Z (Q4p N aC aD l0 (a1 + ((IntKind.wrap .i64 (Int.tdiv (a2 - a1) 4)) * 1)) aE 0 a9 aA aB l3 _ _ b3) (asK [0,1] Z) Z (H':=[]) Z ?_
 rintro _ _ _ ⟨rfl,rfl,rfl⟩
 refine QI (S':=V9 ..) Z Z Z Z Z (Q3 (Q4 (Q5 [12,14,13,11,0,3] (S':=V6 ..) Z (Q6 (Q2 (wP Z (wP Z (wP Z ?_))))))))
 obtain ⟨⟨aO,aP⟩,b4,hm⟩:=Q7 hm
 try dsimp only at hm
 refine wC [0,1] [] Z fn_176 Z (Q4p N aC aD l0 (a1 + ((IntKind.wrap .i64 (Int.tdiv (a2 - a1) 4)) * 2)) aE aN a9 aA aB l3 _ _ b4) (asK [0,1] Z) Z (H':=[]) Z ?_
 rintro _ _ _ ⟨rfl,rfl,rfl⟩
 refine QI (S':=V9 ..) Z Z Z Z Z (Q3 (Q4 (Q5 [13,12,14,11,0,3] (S':=V6 ..) Z (Q2 (wP Z (wP Z (wP Z ?_)))))))
 obtain ⟨⟨aQ,aR⟩,b5,hm⟩:=Q7 hm
 try dsimp only at hm
 refine wC [0,1] [] Z fn_176 Z (Q4p N aC aD l0 (a1 + ((IntKind.wrap .i64 (Int.tdiv (a2 - a1) 4)) * 3)) aE aP a9 aA aB l3 _ _ b5) (asK [0,1] Z) Z (H':=[]) Z ?_
 rintro _ _ _ ⟨rfl,rfl,rfl⟩
 refine QI (S':=V9 ..) Z Z Z Z Z (Q3 ?_)
 have hE:=(Zi hm).symm
 refine Qp (aQ,aO,aM,aR) hE [14,13,12,11,0,3] Z (asK [0,1] Z) Z
 replace hm:=Q1y hm aH
 refine Q5 [14,13,12,11,0,3] (S':=V6 ..) Z (Qs ?_)
 have hE:=(Zi hm).symm
 refine Qp (a1 + ((IntKind.wrap .i64 (Int.tdiv (a2 - a1) 4)) * 3),a1 + ((IntKind.wrap .i64 (Int.tdiv (a2 - a1) 4)) * 2),a1 + ((IntKind.wrap .i64 (Int.tdiv (a2 - a1) 4)) * 1),0) hE [14,13,12,11,0,3] Z (asK [0,1] Z) Z
 rintro ⟨a4,a5,a6,a0⟩ hE
 try dsimp only
 have hm:=hLj_2
 try rw [hE] at hm
 try dsimp only at hm
 refine Q2 (wP Z (wP Z (wP Z (wP Z (wP Z ?_)))))
 obtain ⟨⟨aS,aT⟩,b6,hm⟩:=Q7 hm
 try dsimp only at hm
 refine wC [0,1] [] Z fn_177 Z (Q6A N aC aD l0 a6 a5 a4 aE a0 a9 aA aB l3 _ _ b6) (asK [0,1] Z) Z (H':=[]) Z ?_
 rintro _ _ _ ⟨rfl,rfl,rfl⟩
 refine QI (S':=V11 ..) Z Z Z Z Z (Q3 ?_)
 have hE:=(Zi hm).symm
 refine Qp (aS,aT) hE [13,11] Z (asK [1] Z) Z
 replace hm:=Q1y hm aG
 refine Q5 [13,11] (S':=[_,_]) Z (Qs ?_)
 have hE:=(Zi hm).symm
 refine Qp (a1 + ((IntKind.wrap .i64 (Int.tdiv (a2 - a1) 4)) * 2),0) hE [13,11] Z (asK [1] Z) Z
 rintro ⟨a7,a3⟩ hE
 try dsimp only
 have hm:=hLj_1
 try rw [hE] at hm
 try dsimp only at hm
 refine Q6 (Q2 (wD 0 0 Z Q1w Q3z Z (Q3 (Q4 (Q5 [55,13] (S':=[_,_]) Z (Qm (Q6 (Q2 (wP Z (wP Z (Q3 (Q4 (Q5 [57,55,13] (S':=V3 ..) Z ?_)))))))))))))
 refine QA Z (fun aI=>?_) (fun aI=>?_)
 replace hm:=Q1z hm aI
 refine Q5 [13] (S':=[_]) Z (Q6 (Q2 (wP Z (wP Z (wP Z (Q3 (Q4 (Q5 [9,8] (S':=[_,_]) Z (QP (Q11 ?_))))))))))
 have hE:=(Zi hm).symm
 obtain ⟨hE0,hE1⟩:=Prod.mk.inj hE
 clear hE
 replace hE0:=hE0.symm
 subst hE0
 replace hE1:=hE1.symm
 subst hE1
 refine Q7e (Hr:=[_]) [1] Tryz.results151 (QD Z) (QD Z) ⟨Z,Z,Z⟩ (asK [] Z) Z Z (.inl Z)
 replace hm:=Q1y hm aI
 refine Q5 [55,13] (S':=[_,_]) Z (Q6 (Q2 (wP Z (wP Z (Q3 (Q4 (Q5 [60,13] (S':=[_,_]) Z ?_)))))))
 refine QA Z (fun aJ=>?_) (fun aJ=>?_)
 replace hm:=Q1z hm aJ
 refine Q5 [13] (S':=[_]) Z (Q6 (Q2 (wP Z (wP Z (wP Z (Q3 (Q4 (Q5 [9,8] (S':=[_,_]) Z (QP (Q11 ?_))))))))))
 have hE:=(Zi hm).symm
 obtain ⟨hE0,hE1⟩:=Prod.mk.inj hE
 clear hE
 replace hE0:=hE0.symm
 subst hE0
 replace hE1:=hE1.symm
 subst hE1
 refine Q7e (Hr:=[_]) [1] Tryz.results151 (QD Z) (QD Z) ⟨Z,Z,Z⟩ (asK [] Z) Z Z (.inl Z)
 replace hm:=Q1y hm aJ
 refine Q5 [13] (S':=[_]) Z (Q6 (Q2 (wP Z (wP Z (wP Z (Q3 (Q4 (Q5 [9,8] (S':=[_,_]) Z (QP (Q11 ?_))))))))))
 have hE:=(Zi hm).symm
 obtain ⟨hE0,hE1⟩:=Prod.mk.inj hE
 clear hE
 replace hE0:=hE0.symm
 subst hE0
 replace hE1:=hE1.symm
 subst hE1
 refine Q7e (Hr:=[_]) [1] Tryz.results151 (QD Z) (QD Z) ⟨Z,Z,Z⟩ (asK [] Z) Z Z (.inl Z)
theorem Q6Z (N:Nat) (aF:OA) (aG:Nat) (aH:Nat) (l0:List Q1) (a1:Int) (a2:Int) (a8:Addr) (a9:Nat) (aA:Nat) (l3:List Int) (o0:List Q1) (hm:Q2v N l0 a1 a2 l3 = some o0):Q1R Tryz.prog 148 [.slice aF aG aH,.int .i64 a1,.int .i64 a2,.func (.func 41) #[.slice (some a8) a9 aA] #[]] [tF] [.own 45 2 Q9 (.slice aF aG aH) l0,.own 3 1 Qi (.slice (some a8) a9 aA) l3] (fun v Φr Hr=>v = .tuple #[] ∧ Φr = [] ∧ Hr = [.own 45 2 Q9 (.slice aF aG aH) o0,.own 3 1 Qi (.slice (some a8) a9 aA) l3]):=by
 unfold Q2v at hm
 refine QZ Tryz.func148 Z Tryz.ntmps148 Z (S:=V4 ..) Z (fun C=>(Q6 (Q2 (wP Z (wP Z ?_)))))
 obtain ⟨b4,hm⟩:=Qd hm
 refine Qz (d:=11) (v':=.int .i64 (a1 + 1)) (S':=V5 ..) Z Z (i64_in b4) (wP Z (Q3 (Q4 (Q5 [8,0,1,2,3] (S':=V5 ..) Z (Qm (Q1f (σ:=Nat × Int × (List Q1)) (fun (aK,a6,a5)=>Q1o (Q1s N a2 a1 l3) aK (a6,a5) = some o0) (fun (aK,a6,a5)=>aK) (fun (aK,a6,a5)=>[(8,.int .i64 a6),(0,.slice aF aG aH),(1,.int .i64 a1),(2,.int .i64 a2),(3,.func (.func 41) #[.slice (some a8) a9 aA] #[])]) (fun (aK,a6,a5)=>[tF]) (fun (aK,a6,a5)=>[.own 45 2 Q9 (.slice aF aG aH) a5,.own 3 1 Qi (.slice (some a8) a9 aA) l3]) (N,a1 + 1,l0) hm [8,0,1,2,3] Z (asK [0] Z) Z (fun s_ hm=>?_)))))))
 obtain ⟨aK,a6,a5⟩:=s_
 try dsimp only at hm ⊢
 obtain ⟨bM,bN,b5,hq,hLu1⟩:=Q1d hm
 clear hm
 subst b5
 replace hm:=hq
 clear hq
 unfold Q1s at hm
 try dsimp only at hm
 refine Q6 (Q6 (Q2 (wP Z (wP Z (wP Z (Q3 (Q4 (Q5 [14,8,0,1,2,3] (S':=V6 ..) Z ?_))))))))
 refine QA Z (fun aR=>?_) (fun aR=>?_)
 replace hm:=Q1z hm aR
 refine Q5 [8,0,1,2,3] (S':=V5 ..) Z (Qs (Q4 (Q6 ?_)))
 obtain ⟨aZ,hm,hLj_1⟩:=Q7 hm
 refine Q18 (σ:=List Q1) (fun a4=>aZ = a4) (fun a4=>[(8,.int .i64 a6),(0,.slice aF aG aH),(1,.int .i64 a1),(2,.int .i64 a2),(3,.func (.func 41) #[.slice (some a8) a9 aA] #[])]) (fun a4=>[tF]) (fun a4=>[.own 45 2 Q9 (.slice aF aG aH) a4,.own 3 1 Qi (.slice (some a8) a9 aA) l3]) ?_ ?_
 refine Qm (Q6 (Q2 (wP Z (wP Z (Q3 (Q4 (Q5 [9,8,0,1,2,3] (S':=V6 ..) Z (Qm (Q1f (σ:=Nat × Int × (List Q1)) (fun (aL,a0,a3)=>Q1o (Q1E N a1 l3) aL (a0,a3) = some aZ) (fun (aL,a0,a3)=>aL) (fun (aL,a0,a3)=>[(9,.int .i64 a0),(8,.int .i64 a6),(0,.slice aF aG aH),(1,.int .i64 a1),(2,.int .i64 a2),(3,.func (.func 41) #[.slice (some a8) a9 aA] #[])]) (fun (aL,a0,a3)=>[tF]) (fun (aL,a0,a3)=>[.own 45 2 Q9 (.slice aF aG aH) a3,.own 3 1 Qi (.slice (some a8) a9 aA) l3]) (N,a6,a5) hm [9,8,0,1,2,3] Z (asK [0] Z) Z (fun s_ hm=>?_))))))))))
 obtain ⟨aL,a0,a3⟩:=s_
 try dsimp only at hm ⊢
 obtain ⟨bO,bP,b6,hq,hLu2⟩:=Q1d hm
 clear hm
 subst b6
 replace hm:=hq
 clear hq
 unfold Q1E at hm
 try dsimp only at hm
 refine Q6 (Q6 ?_)
 obtain ⟨b7,hm,hLj_2⟩:=Q7 hm
 unfold Q2V at hm
 refine Q18 (σ:=Bool) (fun a7=>b7 = a7) (fun a7=>[(9,.int .i64 a0),(8,.int .i64 a6),(0,.slice aF aG aH),(1,.int .i64 a1),(2,.int .i64 a2),(3,.func (.func 41) #[.slice (some a8) a9 aA] #[]),(34,.bool a7)]) (fun a7=>[tF]) (fun a7=>[.own 45 2 Q9 (.slice aF aG aH) a3,.own 3 1 Qi (.slice (some a8) a9 aA) l3]) ?_ ?_
 rcases Q32 hm with ⟨aS,hm⟩ | ⟨aS,hm⟩
 ·
  obtain ⟨b8,hm⟩:=Qd hm
  obtain ⟨aD,aT,hm⟩:=Q7 hm
  obtain ⟨b9,hm⟩:=Qd hm
  obtain ⟨bA,hm⟩:=Qd hm
  obtain ⟨aE,aU,hm⟩:=Q7 hm
  obtain ⟨bL,b0,hm⟩:=Q7 hm
  refine QV [0,1,2,3,4,5,6,7,9,10,11,12,15,16] Z Z (fun hok=>(xP hok 0 Z (xP hok 1 Z (xP hok 2 Z (xP hok 3 Z (Q1e (d:=21) (v':=.bool true) (S':=V9 ..) Z Z (Q16 aS) (xP hok 4 Z (xP hok 5 Z (xP hok 6 Z (Q1F hok 7 0 a0.toNat Z Z Z Zq Z Z Z Z Z (QC b8) (Qw aT) QB Qe (fun bQ bB=>?_)))))))))))
  subst bB
  refine xP hok 9 Z (xP hok 10 Z (xP hok 11 Z (Q1e (d:=29) (v':=.int .i64 (a0 - 1)) (S':=V16 ..) Z Z (i64_in b9) (QJ hok 12 0 ((a0 - 1).toNat) Z Z Z Zq Z Z Z Z Z (QC bA) (Qw aU) QB Qe ?_))))
  refine Q1W hok 8 13 Z Z Z Z Z Z ?_ ?_
  rotate_left
  focus
   refine Qk Qa 0 ((a0 - 1).toNat) 0 Z Z Z Zq Z Z Z aU Qe QS (v:=fun aB=>.agg #[.int .i64 (aE.rule),.slice aB.1 aE.ids.length aB.2]) (fun _=>Z) (fun _=>Z) (fun aB _=>(Q3 (Qy [1] [] Z Z (xS hok 8 Z (Qk Qa 0 a0.toNat 0 Z Z Z Zq Z Z Z aT Qe QS (v:=fun aC=>.agg #[.int .i64 (aD.rule),.slice aC.1 aD.ids.length aC.2]) (fun _=>Z) (fun _=>Z) (fun aC _=>(Q3 (Qy [1,2] [] Z Z (xS hok 14 Z (Q26 (args:=[.slice (some a8) a9 aA,.agg #[.int .i64 (aD.rule),.slice aC.1 aD.ids.length aC.2],.agg #[.int .i64 (aE.rule),.slice aB.1 aE.ids.length aB.2]]) [1] [0] Z Z Z Zq Z Z Z Q66 Z Z (QN N a8 a9 aA l3 aD.rule aC.1 aC.2 aD.ids aE.rule aB.1 aB.2 aE.ids _ b0) (asK [0,1,2] Z) Z (H':=[_]) Z ?_))))))))))
  rotate_right
  focus
   refine Qk Qa 0 a0.toNat 0 Z Z Z Zq Z Z Z aT Qe QS (v:=fun aC=>.agg #[.int .i64 (aD.rule),.slice aC.1 aD.ids.length aC.2]) (fun _=>Z) (fun _=>Z) (fun aC _=>(Q3 (Qy [1] [] Z Z (xS hok 13 Z (Qk Qa 0 ((a0 - 1).toNat) 0 Z Z Z Zq Z Z Z aU Qe QS (v:=fun aB=>.agg #[.int .i64 (aE.rule),.slice aB.1 aE.ids.length aB.2]) (fun _=>Z) (fun _=>Z) (fun aB _=>(Q3 (Qy [1,2] [] Z Z (xS hok 14 Z (Q26 (args:=[.slice (some a8) a9 aA,.agg #[.int .i64 (aD.rule),.slice aC.1 aD.ids.length aC.2],.agg #[.int .i64 (aE.rule),.slice aB.1 aE.ids.length aB.2]]) [1] [0] Z Z Z Zq Z Z Z Q66 Z Z (QN N a8 a9 aA l3 aD.rule aC.1 aC.2 aD.ids aE.rule aB.1 aB.2 aE.ids _ b0) (asK [1,0,2] Z) Z (H':=[_]) Z ?_))))))))))
  all_goals
   rintro _ _ _ ⟨rfl,rfl,rfl⟩
   refine Q3 (Qy [0,1,2] [] Z Z (xP hok 15 Z (xP hok 16 Z (QL hok Z ?_))))
   have hE:=(Zi hm).symm
   refine Q1m [1,0] Z (H':=[_,_]) Z ?_
   refine Qp (decide (bL < 0)) hE [9,8,0,1,2,3,34] Z (asK [2] Z) Z
 ·
  refine QV [0,1,2,3,4,5,6,7,9,10,11,12,15,16] Z Z (fun hok=>(xP hok 0 Z (xP hok 1 Z (xP hok 2 Z (xP hok 3 Z (Q1e (d:=21) (v':=.bool false) (S':=V9 ..) Z Z (Q16 aS) (xO hok 4 Z (xO hok 5 Z (xO hok 6 Z (xO hok 7 Z (xO hok 9 Z (xO hok 10 Z (xO hok 11 Z (xO hok 12 Z ?_))))))))))))))
  refine Q1W hok 8 13 Z Z Z Z Z Z ?_ ?_
  rotate_left
  focus
   refine wO Z (Q3 (Qy [0] [] Z Z (xS hok 8 Z ?_)))
  rotate_right
  focus
   refine wO Z (Q3 (Qy [0] [] Z Z (xS hok 13 Z ?_)))
  all_goals
   refine wO Z (Q3 (Qy [0] [] Z Z (xS hok 14 Z (wO Z (Q3 (Qy [0] [] Z Z (xO hok 15 Z (xP hok 16 Z (QL hok Z ?_)))))))))
   have hE:=(Zi hm).symm
   refine Qp false hE [9,8,0,1,2,3,34] Z (asK [0] Z) Z
 rintro a7 hE
 try dsimp only
 have hm:=hLj_2
 try rw [hE] at hm
 refine QA Z (fun aV=>?_) (fun aV=>?_)
 ·
  replace hm:=Q1z hm aV
  refine Q5 [9,8,0,1,2,3] (S':=V6 ..) Z (Qs (Q4 (Q6 (Qm ?_))))
  obtain ⟨bC,hm⟩:=Qd hm
  obtain ⟨bD,hm⟩:=Qd hm
  obtain ⟨bE,hm⟩:=Qd hm
  obtain ⟨aM,aW,hm⟩:=Q7 hm
  obtain ⟨bF,hm⟩:=Qd hm
  obtain ⟨aN,aX,hm⟩:=Q7 hm
  obtain ⟨b1,hm⟩:=Qd hm
  obtain ⟨bR,aO,hm⟩:=Q7 hm
  obtain ⟨b2,hm⟩:=Qd hm
  obtain ⟨bS,aP,hm⟩:=Q7 hm
  refine QV [0,1,2,3,4,5,6,7,8,10,11,12,14,16] Z Z (fun hok=>(xP hok 0 Z (xP hok 1 Z (xP hok 2 Z (xP hok 3 Z (xP hok 4 Z (Q1e (d:=41) (v':=.int .i64 (a0 - 1)) (S':=V10 ..) Z Z (i64_in bC) (xP hok 5 Z (xP hok 6 Z (xP hok 7 Z (Q1e (d:=44) (v':=.int .i64 (a0 - 1)) (S':=V13 ..) Z Z (i64_in bD) (Q1F hok 8 0 ((a0 - 1).toNat) Z Z Z Zq Z Z Z Z Z (QC bE) (Qw aW) QB Qe (fun bT bG=>?_)))))))))))))
  subst bG
  refine xP hok 10 Z (xP hok 11 Z (QJ hok 12 0 a0.toNat Z Z Z Zq Z Z Z Z Z (QC bF) (Qw aX) QB Qe ?_))
  refine Q1W hok 9 13 Z Z Z Z Z Z ?_ ?_
  rotate_left
  focus
   refine Qk Qa 0 a0.toNat 0 Z Z Z Zq Z Z Z aX Qe QS (v:=fun aI=>.agg #[.int .i64 (aN.rule),.slice aI.1 aN.ids.length aI.2]) (fun _=>Z) (fun _=>Z) (fun aI _=>(Q3 (Qy [1] [] Z Z (xS hok 9 Z (Qk Qa 0 ((a0 - 1).toNat) 0 Z Z Z Zq Z Z Z aW Qe QS (v:=fun aJ=>.agg #[.int .i64 (aM.rule),.slice aJ.1 aM.ids.length aJ.2]) (fun _=>Z) (fun _=>Z) (fun aJ _=>(Q3 (Qy [1,2] [] Z Z (QJ hok 14 0 a0.toNat Z Z Z Zq Z Z Z Z Z (QC b1) (Qw aO) QB Qe (xS hok 15 Z (QU (u:=aM) 0 a0.toNat Z Z Z Z Z (Qw aO) Z Z Qe Z (fun F w hφ=>⟨(aJ.1,aJ.2),Z,(Qh (hφ _ (Qu (k:=0) Z)) Qv)⟩) (H':=[_,_]) Z (Q3 (Qy [0,1,2] [] Z Z (QJ hok 16 0 ((a0 - 1).toNat) Z Z Z Zq Z Z Z Z Z (QC b2) (Qw aP) QB Qe (xS hok 17 Z ?_)))))))))))))))
   refine QU (u:=aN) 0 ((a0 - 1).toNat) Z Z Z Z Z (Qw aP) Z Z Qe Z (fun F w hφ=>⟨(aI.1,aI.2),Z,(Qh (hφ _ (Qu (k:=1) Z)) Qv)⟩) (H':=[_,_]) Z ?_
  rotate_right
  focus
   refine Qk Qa 0 ((a0 - 1).toNat) 0 Z Z Z Zq Z Z Z aW Qe QS (v:=fun aJ=>.agg #[.int .i64 (aM.rule),.slice aJ.1 aM.ids.length aJ.2]) (fun _=>Z) (fun _=>Z) (fun aJ _=>(Q3 (Qy [1] [] Z Z (xS hok 13 Z (Qk Qa 0 a0.toNat 0 Z Z Z Zq Z Z Z aX Qe QS (v:=fun aI=>.agg #[.int .i64 (aN.rule),.slice aI.1 aN.ids.length aI.2]) (fun _=>Z) (fun _=>Z) (fun aI _=>(Q3 (Qy [1,2] [] Z Z (QJ hok 14 0 a0.toNat Z Z Z Zq Z Z Z Z Z (QC b1) (Qw aO) QB Qe (xS hok 15 Z (QU (u:=aM) 0 a0.toNat Z Z Z Z Z (Qw aO) Z Z Qe Z (fun F w hφ=>⟨(aJ.1,aJ.2),Z,(Qh (hφ _ (Qu (k:=1) Z)) Qv)⟩) (H':=[_,_]) Z (Q3 (Qy [0,1,2] [] Z Z (QJ hok 16 0 ((a0 - 1).toNat) Z Z Z Zq Z Z Z Z Z (QC b2) (Qw aP) QB Qe (xS hok 17 Z ?_)))))))))))))))
   refine QU (u:=aN) 0 ((a0 - 1).toNat) Z Z Z Z Z (Qw aP) Z Z Qe Z (fun F w hφ=>⟨(aI.1,aI.2),Z,(Qh (hφ _ (Qu (k:=0) Z)) Qv)⟩) (H':=[_,_]) Z ?_
  all_goals
   refine Q3 (Qy [0,1,2] [] Z Z (QL hok Z (Qj (Q4 (Q5 [9,8,0,1,2,3] (S':=V6 ..) Z (Q2 (wP Z (wP Z ?_))))))))
   obtain ⟨bH,hm⟩:=Qd hm
   refine Qz (d:=36) (v':=.int .i64 (a0 - 1)) (S':=V7 ..) Z Z (i64_in bH) (QI (S':=V7 ..) Z Z Z Z Z (Q3 ?_))
   have hE:=(Zi hm).symm
   replace hE:=Q14 hLu2 hE
   refine Q1a (_,a0 - 1,(a3.set a0.toNat aM).set ((a0 - 1).toNat) aN) (Nat.lt_succ_self _) hE [9,8,0,1,2,3] Z (asK [2] Z) Z
 replace hm:=Q1y hm aV
 refine Q5 [8,0,1,2,3] (S':=V5 ..) Z (Q19 (Qc (Qc (Qt (Qj ?_)))))
 have hE:=(Zi hm).symm
 replace hE:=QO hLu2 hE
 refine Qp a3 hE [8,0,1,2,3] Z (asK [0] Z) Z
 rintro a4 hE
 try dsimp only
 have hm:=hLj_1
 try rw [hE] at hm
 refine Q2 (wP Z (wP Z ?_))
 obtain ⟨bI,hm⟩:=Qd hm
 refine Qz (d:=16) (v':=.int .i64 (a6 + 1)) (S':=V6 ..) Z Z (i64_in bI) (QI (S':=V6 ..) Z Z Z Z Z (Q3 ?_))
 have hE:=(Zi hm).symm
 replace hE:=Q14 hLu1 hE
 refine Q1a (_,a6 + 1,a4) (Nat.lt_succ_self _) hE [8,0,1,2,3] Z (asK [0] Z) Z
 replace hm:=Q1y hm aR
 refine Q5 [] (S':=[]) Z (Q19 (Qc (Qc (Qt ?_))))
 have hE:=(Zi hm).symm
 replace hE:=QO hLu1 hE
 replace hE:=hE.symm
 subst hE
 refine Q5E (Hr:=[_,_]) [0,1] Tryz.results148 ⟨Z,Z,Z⟩ (asK [] Z) Z Z (.inr Z)
theorem Q62 (N:Nat) (aF:OA) (aG:Nat) (aH:Nat) (l0:List Q1) (a1:Int) (a2:Int) (a3:Int) (a7:Addr) (a8:Nat) (a9:Nat) (l4:List Int) (o0:List Q1) (hm:Q2u N l0 a1 a2 a3 l4 = some o0):Q1R Tryz.prog 173 [.slice aF aG aH,.int .i64 a1,.int .i64 a2,.int .i64 a3,.func (.func 41) #[.slice (some a7) a8 a9] #[]] [tF] [.own 45 2 Q9 (.slice aF aG aH) l0,.own 3 1 Qi (.slice (some a7) a8 a9) l4] (fun v Φr Hr=>v = .tuple #[] ∧ Φr = [] ∧ Hr = [.own 45 2 Q9 (.slice aF aG aH) o0,.own 3 1 Qi (.slice (some a7) a8 a9) l4]):=by
 unfold Q2u at hm
 refine QZ Tryz.func173 Z Tryz.ntmps173 Z (S:=V5 ..) Z (fun C=>(Q6 (Q2 (wP Z (wP Z (Q3 (Q4 (Q5 [10,0,2,3,4] (S':=V5 ..) Z (Qm (Q1f (σ:=Nat × Int × (List Q1)) (fun (aQ,a0,a5)=>Q1o (Q1G N a2 a3 l4) aQ (a0,a5) = some o0) (fun (aQ,a0,a5)=>aQ) (fun (aQ,a0,a5)=>[(10,.int .i64 a0),(0,.slice aF aG aH),(2,.int .i64 a2),(3,.int .i64 a3),(4,.func (.func 41) #[.slice (some a7) a8 a9] #[])]) (fun (aQ,a0,a5)=>[tF]) (fun (aQ,a0,a5)=>[.own 45 2 Q9 (.slice aF aG aH) a5,.own 3 1 Qi (.slice (some a7) a8 a9) l4]) (N,a1,l0) hm [10,0,2,3,4] Z (asK [0] Z) Z (fun s_ hm=>?_)))))))))))
 obtain ⟨aQ,a0,a5⟩:=s_
 try dsimp only at hm ⊢
 obtain ⟨c3,c4,bA,hq,hLu1⟩:=Q1d hm
 clear hm
 subst bA
 replace hm:=hq
 clear hq
 unfold Q1G at hm
 try dsimp only at hm
 refine Qm (Q6 (Q2 (wP Z (wP Z ?_))))
 obtain ⟨bB,hm⟩:=Qd hm
 refine Qz (d:=14) (v':=.int .i64 (2 * a0)) (S':=V6 ..) Z Z (i64_in bB) (wP Z ?_)
 obtain ⟨bC,hm⟩:=Qd hm
 refine Qz (d:=15) (v':=.int .i64 ((2 * a0) + 1)) (S':=V7 ..) Z Z (i64_in bC) (wP Z (Q3 (Q4 (Q5 [11,10,0,2,3,4] (S':=V6 ..) Z (Q6 (Q6 (Q2 (wP Z (wP Z (wP Z (Q3 (Q4 (Q5 [18,11,10,0,2,3,4] (S':=V7 ..) Z ?_)))))))))))))
 refine QA Z (fun aU=>?_) (fun aU=>?_)
 replace hm:=Q1z hm aU
 refine Q5 [] (S':=[]) Z (Q19 (Qc (Q6W (by decide) (Qc (Qt ?_)))))
 have hE:=(Zi hm).symm
 replace hE:=QO hLu1 hE
 replace hE:=hE.symm
 subst hE
 refine Q5E (Hr:=[_,_]) [0,1] Tryz.results173 ⟨Z,Z,Z⟩ (asK [] Z) Z Z (.inr Z)
 replace hm:=Q1y hm aU
 refine Q5 [11,10,0,2,3,4] (S':=V6 ..) Z (Qs (Q4 (Q6 ?_)))
 obtain ⟨bD,hm,hLj_1⟩:=Q7 hm
 refine Q18 (σ:=Int) (fun a4=>bD = a4) (fun a4=>[(11,.int .i64 a4),(10,.int .i64 a0),(0,.slice aF aG aH),(2,.int .i64 a2),(3,.int .i64 a3),(4,.func (.func 41) #[.slice (some a7) a8 a9] #[])]) (fun a4=>[tF]) (fun a4=>[.own 45 2 Q9 (.slice aF aG aH) a5,.own 3 1 Qi (.slice (some a7) a8 a9) l4]) ?_ ?_
 refine Q6 ?_
 obtain ⟨bE,hm,hLj_2⟩:=Q7 hm
 unfold Q3t at hm
 refine Q18 (σ:=Bool) (fun aA=>bE = aA) (fun aA=>[(11,.int .i64 ((2 * a0) + 1)),(10,.int .i64 a0),(0,.slice aF aG aH),(2,.int .i64 a2),(3,.int .i64 a3),(4,.func (.func 41) #[.slice (some a7) a8 a9] #[]),(40,.bool aA)]) (fun aA=>[tF]) (fun aA=>[.own 45 2 Q9 (.slice aF aG aH) a5,.own 3 1 Qi (.slice (some a7) a8 a9) l4]) ?_ ?_
 obtain ⟨b5,hm⟩:=Qd hm
 rcases Q32 hm with ⟨aV,hm⟩ | ⟨aV,hm⟩
 ·
  obtain ⟨bF,hm⟩:=Qd hm
  obtain ⟨bG,hm⟩:=Qd hm
  obtain ⟨aI,aW,hm⟩:=Q7 hm
  obtain ⟨bH,hm⟩:=Qd hm
  obtain ⟨bI,hm⟩:=Qd hm
  obtain ⟨bJ,hm⟩:=Qd hm
  obtain ⟨aJ,aX,hm⟩:=Q7 hm
  obtain ⟨c1,b6,hm⟩:=Q7 hm
  refine QV [0,1,2,3,4,5,6,7,8,9,10,12,13,14,15,16,17,20,21] Z Z (fun hok=>(xP hok 0 Z (xP hok 1 Z (Q1e (d:=20) (v':=.int .i64 (((2 * a0) + 1) + 1)) (S':=V7 ..) Z Z (i64_in b5) (xP hok 2 Z (xP hok 3 Z (xP hok 4 Z (Q1e (d:=23) (v':=.bool true) (S':=V10 ..) Z Z (Q16 aV) (xP hok 5 Z (xP hok 6 Z (xP hok 7 Z (xP hok 8 Z (xP hok 9 Z (Q1e (d:=28) (v':=.int .i64 (a3 + ((2 * a0) + 1))) (S':=V15 ..) Z Z (i64_in bF) ?_))))))))))))))
  refine Q1F hok 10 0 ((a3 + ((2 * a0) + 1)).toNat) Z Z Z Zq Z Z Z Z Z (QC bG) (Qw aW) QB Qe (fun c5 bK=>?_)
  subst bK
  refine xP hok 12 Z (xP hok 13 Z (xP hok 14 Z (xP hok 15 Z (Q1e (d:=34) (v':=.int .i64 (a3 + ((2 * a0) + 1))) (S':=V20 ..) Z Z (i64_in bH) (xP hok 16 Z (Q1e (d:=35) (v':=.int .i64 ((a3 + ((2 * a0) + 1)) + 1)) (S':=V21 ..) Z Z (i64_in bI) (QJ hok 17 0 (((a3 + ((2 * a0) + 1)) + 1).toNat) Z Z Z Zq Z Z Z Z Z (QC bJ) (Qw aX) QB Qe ?_)))))))
  refine Q1W hok 11 18 Z Z Z Z Z Z ?_ ?_
  rotate_left
  focus
   refine Qk Qa 0 (((a3 + ((2 * a0) + 1)) + 1).toNat) 0 Z Z Z Zq Z Z Z aX Qe QS (v:=fun aB=>.agg #[.int .i64 (aJ.rule),.slice aB.1 aJ.ids.length aB.2]) (fun _=>Z) (fun _=>Z) (fun aB _=>(Q3 (Qy [1] [] Z Z (xS hok 11 Z (Qk Qa 0 ((a3 + ((2 * a0) + 1)).toNat) 0 Z Z Z Zq Z Z Z aW Qe QS (v:=fun aC=>.agg #[.int .i64 (aI.rule),.slice aC.1 aI.ids.length aC.2]) (fun _=>Z) (fun _=>Z) (fun aC _=>(Q3 (Qy [1,2] [] Z Z (xS hok 19 Z (Q26 (args:=[.slice (some a7) a8 a9,.agg #[.int .i64 (aI.rule),.slice aC.1 aI.ids.length aC.2],.agg #[.int .i64 (aJ.rule),.slice aB.1 aJ.ids.length aB.2]]) [1] [0] Z Z Z Zq Z Z Z Q66 Z Z (QN N a7 a8 a9 l4 aI.rule aC.1 aC.2 aI.ids aJ.rule aB.1 aB.2 aJ.ids _ b6) (asK [0,1,2] Z) Z (H':=[_]) Z ?_))))))))))
  rotate_right
  focus
   refine Qk Qa 0 ((a3 + ((2 * a0) + 1)).toNat) 0 Z Z Z Zq Z Z Z aW Qe QS (v:=fun aC=>.agg #[.int .i64 (aI.rule),.slice aC.1 aI.ids.length aC.2]) (fun _=>Z) (fun _=>Z) (fun aC _=>(Q3 (Qy [1] [] Z Z (xS hok 18 Z (Qk Qa 0 (((a3 + ((2 * a0) + 1)) + 1).toNat) 0 Z Z Z Zq Z Z Z aX Qe QS (v:=fun aB=>.agg #[.int .i64 (aJ.rule),.slice aB.1 aJ.ids.length aB.2]) (fun _=>Z) (fun _=>Z) (fun aB _=>(Q3 (Qy [1,2] [] Z Z (xS hok 19 Z (Q26 (args:=[.slice (some a7) a8 a9,.agg #[.int .i64 (aI.rule),.slice aC.1 aI.ids.length aC.2],.agg #[.int .i64 (aJ.rule),.slice aB.1 aJ.ids.length aB.2]]) [1] [0] Z Z Z Zq Z Z Z Q66 Z Z (QN N a7 a8 a9 l4 aI.rule aC.1 aC.2 aI.ids aJ.rule aB.1 aB.2 aJ.ids _ b6) (asK [1,0,2] Z) Z (H':=[_]) Z ?_))))))))))
  all_goals
   rintro _ _ _ ⟨rfl,rfl,rfl⟩
   refine Q3 (Qy [0,1,2] [] Z Z (xP hok 20 Z (xP hok 21 Z (QL hok Z ?_))))
   have hE:=(Zi hm).symm
   refine Q1m [1,0] Z (H':=[_,_]) Z ?_
   refine Qp (decide (c1 < 0)) hE [11,10,0,2,3,4,40] Z (asK [2] Z) Z
 ·
  refine QV [0,1,2,3,4,5,6,7,8,9,10,12,13,14,15,16,17,20,21] Z Z (fun hok=>(xP hok 0 Z (xP hok 1 Z (Q1e (d:=20) (v':=.int .i64 (((2 * a0) + 1) + 1)) (S':=V7 ..) Z Z (i64_in b5) (xP hok 2 Z (xP hok 3 Z (xP hok 4 Z (Q1e (d:=23) (v':=.bool false) (S':=V10 ..) Z Z (Q16 aV) (xO hok 5 Z (xO hok 6 Z (xO hok 7 Z (xO hok 8 Z (xO hok 9 Z (xO hok 10 Z ?_))))))))))))))
  refine xO hok 12 Z (xO hok 13 Z (xO hok 14 Z (xO hok 15 Z (xO hok 16 Z (xO hok 17 Z ?_)))))
  refine Q1W hok 11 18 Z Z Z Z Z Z ?_ ?_
  rotate_left
  focus
   refine wO Z (Q3 (Qy [0] [] Z Z (xS hok 11 Z ?_)))
  rotate_right
  focus
   refine wO Z (Q3 (Qy [0] [] Z Z (xS hok 18 Z ?_)))
  all_goals
   refine wO Z (Q3 (Qy [0] [] Z Z (xS hok 19 Z (wO Z (Q3 (Qy [0] [] Z Z (xO hok 20 Z (xP hok 21 Z (QL hok Z ?_)))))))))
   have hE:=(Zi hm).symm
   refine Qp false hE [11,10,0,2,3,4,40] Z (asK [0] Z) Z
 rintro aA hE
 try dsimp only
 have hm:=hLj_2
 try rw [hE] at hm
 refine QA Z (fun aY=>?_) (fun aY=>?_)
 replace hm:=Q1z hm aY
 refine Q5 [11,10,0,2,3,4] (S':=V6 ..) Z (Q2 (wP Z (wP Z ?_)))
 obtain ⟨bL,hm⟩:=Qd hm
 refine Qz (d:=42) (v':=.int .i64 (((2 * a0) + 1) + 1)) (S':=V7 ..) Z Z (i64_in bL) (QI (S':=V7 ..) Z Z Z Z Z (Q3 ?_))
 have hE:=(Zi hm).symm
 refine Qp (((2 * a0) + 1) + 1) hE [11,10,0,2,3,4] Z (asK [0] Z) Z
 replace hm:=Q1y hm aY
 refine Q5 [11,10,0,2,3,4] (S':=V6 ..) Z (Qs ?_)
 have hE:=(Zi hm).symm
 refine Qp ((2 * a0) + 1) hE [11,10,0,2,3,4] Z (asK [0] Z) Z
 rintro a4 hE
 try dsimp only
 have hm:=hLj_1
 try rw [hE] at hm
 refine Q6 (Q6 ?_)
 obtain ⟨bM,hm⟩:=Qd hm
 obtain ⟨bN,hm⟩:=Qd hm
 obtain ⟨aK,aZ,hm⟩:=Q7 hm
 obtain ⟨bO,hm⟩:=Qd hm
 obtain ⟨bP,hm⟩:=Qd hm
 obtain ⟨aL,b0,hm⟩:=Q7 hm
 obtain ⟨c2,b7,hm⟩:=Q7 hm
 refine Q18 (σ:=Unit) (fun _=>True) (fun _=>[(58,.bool (!(decide (c2 < 0)))),(11,.int .i64 a4),(10,.int .i64 a0),(0,.slice aF aG aH),(2,.int .i64 a2),(3,.int .i64 a3),(4,.func (.func 41) #[.slice (some a7) a8 a9] #[])]) (fun _=>[tF]) (fun _=>[.own 45 2 Q9 (.slice aF aG aH) a5,.own 3 1 Qi (.slice (some a7) a8 a9) l4]) ?_ ?_
 ·
  refine QV [0,1,2,3,4,5,7,8,9,10,11,14,15] Z Z (fun hok=>(xP hok 0 Z (xP hok 1 Z (xP hok 2 Z (xP hok 3 Z (xP hok 4 Z (Q1e (d:=47) (v':=.int .i64 (a3 + a0)) (S':=V10 ..) Z Z (i64_in bM) (Q1F hok 5 0 ((a3 + a0).toNat) Z Z Z Zq Z Z Z Z Z (QC bN) (Qw aZ) QB Qe (fun c6 bQ=>?_)))))))))
  subst bQ
  refine xP hok 7 Z (xP hok 8 Z (xP hok 9 Z (xP hok 10 Z (Q1e (d:=53) (v':=.int .i64 (a3 + a4)) (S':=V15 ..) Z Z (i64_in bO) (QJ hok 11 0 ((a3 + a4).toNat) Z Z Z Zq Z Z Z Z Z (QC bP) (Qw b0) QB Qe ?_)))))
  refine Q1W hok 6 12 Z Z Z Z Z Z ?_ ?_
  rotate_left
  focus
   refine Qk Qa 0 ((a3 + a4).toNat) 0 Z Z Z Zq Z Z Z b0 Qe QS (v:=fun aD=>.agg #[.int .i64 (aL.rule),.slice aD.1 aL.ids.length aD.2]) (fun _=>Z) (fun _=>Z) (fun aD _=>(Q3 (Qy [1] [] Z Z (xS hok 6 Z (Qk Qa 0 ((a3 + a0).toNat) 0 Z Z Z Zq Z Z Z aZ Qe QS (v:=fun aE=>.agg #[.int .i64 (aK.rule),.slice aE.1 aK.ids.length aE.2]) (fun _=>Z) (fun _=>Z) (fun aE _=>(Q3 (Qy [1,2] [] Z Z (xS hok 13 Z (Q26 (args:=[.slice (some a7) a8 a9,.agg #[.int .i64 (aK.rule),.slice aE.1 aK.ids.length aE.2],.agg #[.int .i64 (aL.rule),.slice aD.1 aL.ids.length aD.2]]) [1] [0] Z Z Z Zq Z Z Z Q66 Z Z (QN N a7 a8 a9 l4 aK.rule aE.1 aE.2 aK.ids aL.rule aD.1 aD.2 aL.ids _ b7) (asK [0,1,2] Z) Z (H':=[_]) Z ?_))))))))))
  rotate_right
  focus
   refine Qk Qa 0 ((a3 + a0).toNat) 0 Z Z Z Zq Z Z Z aZ Qe QS (v:=fun aE=>.agg #[.int .i64 (aK.rule),.slice aE.1 aK.ids.length aE.2]) (fun _=>Z) (fun _=>Z) (fun aE _=>(Q3 (Qy [1] [] Z Z (xS hok 12 Z (Qk Qa 0 ((a3 + a4).toNat) 0 Z Z Z Zq Z Z Z b0 Qe QS (v:=fun aD=>.agg #[.int .i64 (aL.rule),.slice aD.1 aL.ids.length aD.2]) (fun _=>Z) (fun _=>Z) (fun aD _=>(Q3 (Qy [1,2] [] Z Z (xS hok 13 Z (Q26 (args:=[.slice (some a7) a8 a9,.agg #[.int .i64 (aK.rule),.slice aE.1 aK.ids.length aE.2],.agg #[.int .i64 (aL.rule),.slice aD.1 aL.ids.length aD.2]]) [1] [0] Z Z Z Zq Z Z Z Q66 Z Z (QN N a7 a8 a9 l4 aK.rule aE.1 aE.2 aK.ids aL.rule aD.1 aD.2 aL.ids _ b7) (asK [1,0,2] Z) Z (H':=[_]) Z ?_))))))))))
  all_goals
   rintro _ _ _ ⟨rfl,rfl,rfl⟩
   refine Q3 (Qy [0,1,2] [] Z Z (xP hok 14 Z (xP hok 15 Z (QL hok Z (Q1m [1,0] Z (H':=[_,_]) Z ?_)))))
   refine Qp () trivial [58,11,10,0,2,3,4] Z (asK [2] Z) Z
 rintro _ _
 try dsimp only
 refine QA Z (fun b1=>?_) (fun b1=>?_)
 replace hm:=Q1z hm b1
 refine Q5 [] (S':=[]) Z (QP (Qn (Q11 (Qn (Q11 ?_)))))
 have hE:=(Zi hm).symm
 replace hE:=QO hLu1 hE
 replace hE:=hE.symm
 subst hE
 refine Q5E (Hr:=[_,_]) [0,1] Tryz.results173 ⟨Z,Z,Z⟩ (asK [] Z) Z Z (.inl Z)
 replace hm:=Q1y hm b1
 refine Q5 [11,10,0,2,3,4] (S':=V6 ..) Z (Qs (Q4 (Q6 ?_)))
 obtain ⟨bR,hm⟩:=Qd hm
 obtain ⟨bS,hm⟩:=Qd hm
 obtain ⟨bT,hm⟩:=Qd hm
 obtain ⟨bU,hm⟩:=Qd hm
 obtain ⟨aO,b2,hm⟩:=Q7 hm
 obtain ⟨bV,hm⟩:=Qd hm
 obtain ⟨bW,hm⟩:=Qd hm
 obtain ⟨aP,b3,hm⟩:=Q7 hm
 obtain ⟨b8,hm⟩:=Qd hm
 obtain ⟨c7,aR,hm⟩:=Q7 hm
 obtain ⟨b9,hm⟩:=Qd hm
 obtain ⟨c8,aS,hm⟩:=Q7 hm
 refine Q18 (σ:=Unit) (fun _=>True) (fun _=>[(11,.int .i64 a4),(0,.slice aF aG aH),(2,.int .i64 a2),(3,.int .i64 a3),(4,.func (.func 41) #[.slice (some a7) a8 a9] #[])]) (fun _=>[tF]) (fun _=>[.own 45 2 Q9 (.slice aF aG aH) ((a5.set ((a3 + a0).toNat) aO).set ((a3 + a4).toNat) aP),.own 3 1 Qi (.slice (some a7) a8 a9) l4]) ?_ ?_
 refine QV [0,1,2,3,4,5,6,7,8,9,10,11,12,14,15,16,17,18,20,22] Z Z (fun hok=>(xP hok 0 Z (xP hok 1 Z (xP hok 2 Z (xP hok 3 Z (Q1e (d:=62) (v':=.int .i64 (a3 + a0)) (S':=V9 ..) Z Z (i64_in bR) (xP hok 4 Z (xP hok 5 Z (xP hok 6 Z (xP hok 7 Z (Q1e (d:=66) (v':=.int .i64 (a3 + a4)) (S':=V13 ..) Z Z (i64_in bS) (xP hok 8 Z (xP hok 9 Z (xP hok 10 Z ?_))))))))))))))
 refine xP hok 11 Z (Q1e (d:=70) (v':=.int .i64 (a3 + a4)) (S':=V17 ..) Z Z (i64_in bT) (Q1F hok 12 0 ((a3 + a4).toNat) Z Z Z Zq Z Z Z Z Z (QC bU) (Qw b2) QB Qe (fun c9 bX=>?_)))
 subst bX
 refine xP hok 14 Z (xP hok 15 Z (xP hok 16 Z (xP hok 17 Z (Q1e (d:=76) (v':=.int .i64 (a3 + a0)) (S':=V22 ..) Z Z (i64_in bV) (QJ hok 18 0 ((a3 + a0).toNat) Z Z Z Zq Z Z Z Z Z (QC bW) (Qw b3) QB Qe ?_)))))
 refine Q1W hok 13 19 Z Z Z Z Z Z ?_ ?_
 refine Qk Qa 0 ((a3 + a4).toNat) 0 Z Z Z Zq Z Z Z b2 Qe QS (v:=fun aM=>.agg #[.int .i64 (aO.rule),.slice aM.1 aO.ids.length aM.2]) (fun _=>Z) (fun _=>Z) (fun aM _=>(Q3 (Qy [1] [] Z Z (xS hok 19 Z (Qk Qa 0 ((a3 + a0).toNat) 0 Z Z Z Zq Z Z Z b3 Qe QS (v:=fun aN=>.agg #[.int .i64 (aP.rule),.slice aN.1 aP.ids.length aN.2]) (fun _=>Z) (fun _=>Z) (fun aN _=>(Q3 (Qy [1,2] [] Z Z (QJ hok 20 0 ((a3 + a0).toNat) Z Z Z Zq Z Z Z Z Z (QC b8) (Qw aR) QB Qe (xS hok 21 Z (QU (u:=aO) 0 ((a3 + a0).toNat) Z Z Z Z Z (Qw aR) Z Z Qe Z (fun F w hφ=>⟨(aM.1,aM.2),Z,(Qh (hφ _ (Qu (k:=1) Z)) Qv)⟩) (H':=[_,_]) Z (Q3 (Qy [0,1,2] [] Z Z (QJ hok 22 0 ((a3 + a4).toNat) Z Z Z Zq Z Z Z Z Z (QC b9) (Qw aS) QB Qe (xS hok 23 Z ?_)))))))))))))))
 refine QU (u:=aP) 0 ((a3 + a4).toNat) Z Z Z Z Z (Qw aS) Z Z Qe Z (fun F w hφ=>⟨(aN.1,aN.2),Z,(Qh (hφ _ (Qu (k:=0) Z)) Qv)⟩) (H':=[_,_]) Z (Q3 (Qy [0,1,2] [] Z Z (QL hok Z ?_)))
 refine Qp () trivial [11,0,2,3,4] Z (asK [2] Z) Z
 refine Qk Qa 0 ((a3 + a0).toNat) 0 Z Z Z Zq Z Z Z b3 Qe QS (v:=fun aN=>.agg #[.int .i64 (aP.rule),.slice aN.1 aP.ids.length aN.2]) (fun _=>Z) (fun _=>Z) (fun aN _=>(Q3 (Qy [1] [] Z Z (xS hok 13 Z (Qk Qa 0 ((a3 + a4).toNat) 0 Z Z Z Zq Z Z Z b2 Qe QS (v:=fun aM=>.agg #[.int .i64 (aO.rule),.slice aM.1 aO.ids.length aM.2]) (fun _=>Z) (fun _=>Z) (fun aM _=>(Q3 (Qy [1,2] [] Z Z (QJ hok 20 0 ((a3 + a0).toNat) Z Z Z Zq Z Z Z Z Z (QC b8) (Qw aR) QB Qe (xS hok 21 Z (QU (u:=aO) 0 ((a3 + a0).toNat) Z Z Z Z Z (Qw aR) Z Z Qe Z (fun F w hφ=>⟨(aM.1,aM.2),Z,(Qh (hφ _ (Qu (k:=0) Z)) Qv)⟩) (H':=[_,_]) Z (Q3 (Qy [0,1,2] [] Z Z (QJ hok 22 0 ((a3 + a4).toNat) Z Z Z Zq Z Z Z Z Z (QC b9) (Qw aS) QB Qe (xS hok 23 Z ?_)))))))))))))))
 refine QU (u:=aP) 0 ((a3 + a4).toNat) Z Z Z Z Z (Qw aS) Z Z Qe Z (fun F w hφ=>⟨(aN.1,aN.2),Z,(Qh (hφ _ (Qu (k:=1) Z)) Qv)⟩) (H':=[_,_]) Z (Q3 (Qy [0,1,2] [] Z Z (QL hok Z ?_)))
 refine Qp () trivial [11,0,2,3,4] Z (asK [2] Z) Z
 rintro _ _
 try dsimp only
 refine Q2 (wP Z (wP Z (Q3 (Qj ?_))))
 have hE:=(Zi hm).symm
 replace hE:=Q14 hLu1 hE
 refine Q1a (_,a4,(a5.set ((a3 + a0).toNat) aO).set ((a3 + a4).toNat) aP) (Nat.lt_succ_self _) hE [10,0,2,3,4] Z (asK [0] Z) Z
end Go.Proofs.YtgangmegcejllaaGreatDoor
