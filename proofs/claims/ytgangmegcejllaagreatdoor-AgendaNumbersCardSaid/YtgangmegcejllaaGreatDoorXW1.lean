import Derived.DeepKeys4
import Derived.Test.YtgangmegcejllaaGreatDoorXM
import Derived.Test.YtgangmegcejllaaGreatDoorDynF
import Derived.Test.YtgangmegcejllaaGreatDoorFlow
namespace Go.Proofs.YtgangmegcejllaaGreatDoor
open Go.RowKit
set_option maxRecDepth 100000
set_option maxHeartbeats 4000000
theorem Q9i:Tryz.prog.underlying 64 = some (.map 9 4):=by kernel_rfl
theorem Q1p (N:Nat) (a0:Int) (qp0:OA) (qc1:Nat) (l1:List Int)  (hm:QN N a0 l1 = some ()):Q1z Tryz.prog 19 [.int .i64 a0,.slice qp0 l1.length qc1] [.sli 1 Qh qp0 qc1 l1,tF] [] (fun v Φr Hr=>v = .agg #[.int .i64 a0,.slice qp0 l1.length qc1] ∧ Φr = [.sli 1 Qh qp0 qc1 l1] ∧ Hr = []):=by
 unfold QN at hm
 refine Q12 Tryz.func19 Z Tryz.ntmps19 Z (S:=[_,_]) Z (fun C=>(Q6 (Q3 (Q1s Z Z Z Zq Z Q1X Z (fun g4=>(Q2 (Q4 (Q6 (Q3 (wP Z (wP Z (Q3h Z Z Z Zq Z Q1X tP_45 Z (out:=[_,_]) Z (wS 0 0 Z Qg (all':=[_,_]) Z (H':=[_]) Z (Q2 (Q4 ?_)))))))))))))))
 refine Q5 [4] (S':=[_]) Z (QJ ?_)
 have hE:=(Zi hm).symm
 refine QA (Hr:=[]) [] Tryz.results19 (Q4Q 0 Z Z Qg QT Z Z) ⟨Z,Z,Z⟩ (asK [0] Z) Z Z (.inl Z)
theorem Q88 (N:Nat) (y:OA) (z:Nat) (l0:List Q1) (o0:Bool) (hm:Q5J N l0 = some o0):Q1z Tryz.prog 9 [.slice y l0.length z] [.sli 2 Q8 y z l0,tF] [] (fun v Φr Hr=>v = .bool o0 ∧ Φr = [] ∧ Hr = []):=by
 unfold Q5J at hm
 refine Q12 Tryz.func9 Z Tryz.ntmps9 Z (S:=[_]) Z (fun C=>(Q6 (Q3 (wP Z (Q2 (Q4 (Q5 [0] (S':=[_]) Z (Q6 (Q3 (wP Z (wN Z QG (wP Z (Q2 (Q4 ?_))))))))))))))
 refine Q5 [3,0] (S':=[_,_]) Z (Q6 ?_)
 obtain ⟨a3,hm,hLj_1⟩:=Q7 hm
 refine Q15 (σ:=Nat) (fun o=>a3 = o) (fun o=>[(3,.int .i64 ((o:Nat):Int))]) (fun o=>[tF]) (fun o=>[]) ?_ ?_
 refine Q6 (Q3 (wP Z (Q2 (Q4 (Qn (Q1b (σ:=Nat × Nat × Nat) (fun (s,j,f)=>Q1B (Q6g N l0) s (j,f) = some a3) (fun (s,j,f)=>s) (fun (s,j,f)=>[(4,.int .i64 ((j:Nat):Int)),(3,.int .i64 ((f:Nat):Int)),(0,.slice y l0.length z)]) (fun (s,j,f)=>[.sli 2 Q8 y z l0,tF]) (fun (s,j,f)=>[]) (N,0,l0.length) hm [4,3,0] Z (asK [0,1] Z) Z (fun s_ hm=>?_)))))))
 obtain ⟨s,j,f⟩:=s_
 try dsimp only at hm ⊢
 obtain ⟨aE,aF,a5,hq,hLu1⟩:=Q18 hm
 clear hm
 subst a5
 replace hm:=hq
 clear hq
 unfold Q6g at hm
 try dsimp only at hm
 refine Q6 (Q6 ?_)
 obtain ⟨a6,hm,hLj_2⟩:=Q7 hm
 refine Q15 (σ:=Bool) (fun q=>a6 = q) (fun q=>[(4,.int .i64 ((j:Nat):Int)),(3,.int .i64 ((f:Nat):Int)),(0,.slice y l0.length z),(14,.bool q)]) (fun q=>[.sli 2 Q8 y z l0,tF]) (fun q=>[]) ?_ ?_
 refine Q3 (wP Z (wP Z (wN Z QG (wP Z (Qx (d:=10) (v':=.bool (decide (j < l0.length))) (S':=V6 ..) Z Z (Q20 (a:=j) (b:=l0.length)) (wP Z ?_))))))
 refine Q28 (d:=11) (S':=V7 ..) Z Z (fun a1=>?_) (fun a1=>?_)
 replace hm:=Q1m hm a1
 refine wP Z (wP Z (Qx (d:=13) (v':=.bool (decide (f ≤ 400))) (S':=V9 ..) Z Z (natle (a:=f) (b:=400)) (wP Z (Q2 ?_))))
 have hE:=(Zi hm).symm
 refine Qp (decide (f ≤ 400)) hE [4,3,0,14] Z (asK [0,1] Z) Z
 replace hm:=Q1l hm a1
 refine wO Z (wO Z (wP Z (Q2 ?_)))
 have hE:=(Zi hm).symm
 refine Qp false hE [4,3,0,14] Z (asK [0,1] Z) Z
 rintro q hE
 try dsimp only
 have hm:=hLj_2
 try rw [hE] at hm
 refine Qv Z (fun a2=>?_) (fun a2=>?_)
 replace hm:=Q1m hm a2
 refine Q5 [4,3,0] (S':=V3 ..) Z (Qt (Q4 (Q6 (Qn (Q3 (wP Z (wP Z (wP Z ?_))))))))
 obtain ⟨a4,a7,hm⟩:=Q7 hm
 refine Q3z 0 j Z Z Z Zq Z Z Z Z Z a7 QG Qg (fun aG aH aD aB=>(Q5m Qb 1 Z (fun aI a8 _=>?_)))
 subst a8
 refine wF Z Q2i (Q5l 1 1 Z Z Z Zq Z Z Z (cs:=[_]) Z Q1T Q2Q Z Z (wN Z Q1a (wP Z ?_)))
 obtain ⟨a9,hm⟩:=Qd hm
 refine Qx (d:=24) (v':=.int .i64 ((f + a4.ids.length:Nat):Int)) (S':=V10 ..) Z Z (Q1f (a:=f) (b:=a4.ids.length) a9) (QM (S':=V10 ..) Z Z Z Z Z (Q2 (Qi (Q4 (Q5 [3,4,0] (S':=V3 ..) Z (Q3 (wP Z (wP Z ?_))))))))
 obtain ⟨aA,hm⟩:=Qd hm
 refine Qx (d:=16) (v':=.int .i64 ((j + 1:Nat):Int)) (S':=V4 ..) Z Z (Q1f (a:=j) (b:=1) aA) (QM (S':=V4 ..) Z Z Z Z Z (Q2 ?_))
 have hE:=(Zi hm).symm
 replace hE:=Q11 hLu1 hE
 refine Q14 (_,j + 1,f + a4.ids.length) (Nat.lt_succ_self _) hE [4,3,0] Z (asK [3,4] Z) Z
 replace hm:=Q1l hm a2
 refine Q5 [3] (S':=[_]) Z (Q19 (Qc (Qc (Qu ?_))))
 have hE:=(Zi hm).symm
 replace hE:=QE hLu1 hE
 refine Qp f hE [3] Z (asK [1] Z) Z
 rintro o hE
 try dsimp only
 have hm:=hLj_1
 try rw [hE] at hm
 refine Q6 (Q3 (wP Z (wP Z (Qx (d:=26) (v':=.bool (decide (400 < o))) (S':=[_,_]) Z Z (natgt (a:=o) (b:=400)) (wP Z (Q2 (Q4 (Q5 [2] (S':=[_]) Z (QJ ?_)))))))))
 have hE:=(Zi hm).symm
 replace hE:=hE.symm
 subst hE
 refine QA (Hr:=[]) [] Tryz.results9 (Qy Z) ⟨Z,Z,Z⟩ (asK [] Z) Z Z (.inl Z)
theorem Q7s (N:Nat) (a4:OA) (a5:Nat) (l0:List Int) (o2:List QP) (hm:Q3n N l0 = some o2):Q1z Tryz.prog 6 [.slice a4 l0.length a5] [.sli 1 Qh a4 a5 l0,tF] [] (fun v Φr Hr=>∃ (o0:OA) (o1:Nat) (o3:Nat),v = .agg #[V1,.slice o0 o3 o1] ∧ Φr = [] ∧ Hr = [.own 38 5 QO (.slice o0 o3 o1) o2]):=by
 unfold Q3n at hm
 refine Q12 Tryz.func6 Z Tryz.ntmps6 Z (S:=[_]) Z (fun C=>(Q6 (Q3 (Q1s Z Z Z Zq Z tZ_28 Z (fun g2=>(Q2 (Q4 (Q6 (Q3 (Q1s Z Z Z Zq Z tZ_28 Z (fun g3=>(Q2 (Q4 (Q6 ?_))))))))))))))
 obtain ⟨a7,hm,hLj_1⟩:=Q7 hm
 refine Q15 (σ:=(List QP) × OA × Nat × Nat) (fun (a0,j,o,q)=>a7 = a0) (fun (a0,j,o,q)=>[(2,.pointer (some ⟨g2,0,none⟩)),(3,.pointer (some ⟨g3,0,none⟩))]) (fun (a0,j,o,q)=>[tF]) (fun (a0,j,o,q)=>[.blk g2 [V1,V1] 28,.blk g3 [V1,.slice j q o] 28,.own 38 5 QO (.slice j q o) a0]) ?_ ?_
 refine Q6 (Q3 (wP Z (Q2 (Q4 (Qn (Q3K 38 5 QO (Q3l [1,0,2] Z (H':=V3 ..) Z (Q1b (σ:=Nat × Nat × (List QP) × OA × Nat × Nat) (fun (a2,a1,f,s,y,z)=>Q1B (Q4p N l0) a2 (a1,f) = some a7) (fun (a2,a1,f,s,y,z)=>a2) (fun (a2,a1,f,s,y,z)=>[(4,.int .i64 ((a1:Nat):Int)),(3,.pointer (some ⟨g3,0,none⟩)),(2,.pointer (some ⟨g2,0,none⟩)),(0,.slice a4 l0.length a5)]) (fun (a2,a1,f,s,y,z)=>[.sli 1 Qh a4 a5 l0,tF]) (fun (a2,a1,f,s,y,z)=>[.blk g3 [V1,.slice s z y] 28,.own 38 5 QO (.slice s z y) f,.blk g2 [V1,V1] 28]) (N,0,[],none,0,0) hm [4,3,2,0] Z (asK [0,1] Z) Z (fun s_ hm=>?_)))))))))
 obtain ⟨a2,a1,f,s,y,z⟩:=s_
 try dsimp only at hm ⊢
 obtain ⟨aO,aP,aC,hq,hLu1⟩:=Q18 hm
 clear hm
 subst aC
 replace hm:=hq
 clear hq
 unfold Q4p at hm
 try dsimp only at hm
 refine Q6 (Q6 (Q3 (wP Z (wP Z (wN Z Q1a (wP Z (Qx (d:=8) (v':=.bool (decide (a1 < l0.length))) (S':=V7 ..) Z Z (Q20 (a:=a1) (b:=l0.length)) (Q2 (Q4 (Q5 [8,4,3,2,0] (S':=V5 ..) Z ?_))))))))))
 refine Qv Z (fun a9=>?_) (fun a9=>?_)
 replace hm:=Q1m hm a9
 refine Q5 [4,3,2,0] (S':=V4 ..) Z (Qt (Q4 (Q6 (Qn ?_))))
 obtain ⟨a3,aD,hm⟩:=Q7 hm
 obtain ⟨a8,hm⟩:=Qd hm
 refine QV [0,1,2,3,4,5,6,9] Z Z (fun hok=>(Qm hok 0 Z Z Z Zq Z Z Z Q4a (Qr hok 1 0 1 Z Z Z Zq Z Z Z Z (cs:=[_]) Z Q7q Q85 Z Z (xP hok 2 Z (xP hok 3 Z (Q1o hok 4 0 a1 Z Z Z Zq Z Z Z Z Z Z aD Q1a Q1i (fun aQ aR aN aI=>(Q1u Q1D 1 Z (fun aS aE _=>?_)))))))))
 subst aE
 refine Q1I hok 5 0 0 Z Z Z Zq Z Z Z Z (cs:=[_]) Z Q1i Q2d Z Z (wx_build hok 6 Z Z Z Zq Z Z tZ_38 tP_38 Z (out:=V5 ..) Z (xS hok 7 Z (Qq Z Z Z Zq Z Q60 Q7D tZ_38 Z (zs:=[.string ((⟨#[]⟩ : ByteArray)),.int .i64 0,.int .i64 0,V1,V1]) (by kernel_rfl) Z (out:=V5 ..) Z (fun aT=>(Q2 (Qs [0,1,2,3] [1] Z Z (xS hok 8 Z (Q21 ([(⟨(⟨#[]⟩ : ByteArray),a3,0,[],[]⟩ : QP)]) 2 0 Z Z Z Zq Z Z Z Z Z (fun F w hφ=>⟨[.string ((⟨#[]⟩ : ByteArray)),.int .i64 a3,.int .i64 0,V1,V1],[],Z,Z,⟨((none,0),(none,0)),Z,(Qe Q2m (Qe Q2m Ql))⟩,Z⟩) Q60 tR_38 Z Z (Nat.le_trans a8 (by decide)) (Nat.le_trans (Nat.mul_le_mul_right _ a8) (by decide)) (H2:=fun aA aB=>[_,_,.own 38 5 QO (.slice aA ((f ++ ([(⟨(⟨#[]⟩ : ByteArray),a3,0,[],[]⟩ : QP)])).length) aB) (f ++ ([(⟨(⟨#[]⟩ : ByteArray),a3,0,[],[]⟩ : QP)])),_]) (fun _ _=>Z) (fun aA aB=>(Q2J 0 Z (H':=V3 ..) Z (Q2 (Qs [0,1,2,3] [] Z Z (Qm hok 9 Z Z Z Zq Z Z Z Q4a (xS hok 10 Z (wS 0 1 Z Q7q (all':=[_,_]) Z (H':=V3 ..) Z ?_)))))))))))))))
 refine Q2 (Qs [0,1,2,3] [] Z Z (QI hok Z (Qi (Q4 (Q5 [4,3,2,0] (S':=V4 ..) Z (Q3 (wP Z (wP Z ?_))))))))
 obtain ⟨aF,hm⟩:=Qd hm
 refine Qx (d:=10) (v':=.int .i64 ((a1 + 1:Nat):Int)) (S':=V5 ..) Z Z (Q1f (a:=a1) (b:=1) aF) (QM (S':=V5 ..) Z Z Z Z Z (Q2 ?_))
 have hE:=(Zi hm).symm
 replace hE:=Q11 hLu1 hE
 refine Q14 (_,a1 + 1,(f ++ ([(⟨(⟨#[]⟩ : ByteArray),a3,0,[],[]⟩ : QP)])),aA,aB,((f ++ ([(⟨(⟨#[]⟩ : ByteArray),a3,0,[],[]⟩ : QP)])).length)) (Nat.lt_succ_self _) hE [4,3,2,0] Z (asK [2,3] Z) Z
 replace hm:=Q1l hm a9
 refine Q5 [3,2] (S':=[_,_]) Z (Q19 (Qc (Qc (Qu ?_))))
 have hE:=(Zi hm).symm
 replace hE:=QE hLu1 hE
 refine Q17 [2,0,1] Z (H':=V3 ..) Z ?_
 refine Qp (f,s,y,z) hE [2,3] Z (asK [1] Z) Z
 rintro ⟨a0,j,o,q⟩ hE
 try dsimp only
 have hm:=hLj_1
 try rw [hE] at hm
 refine Q6 (Q3 (Q1E 1 0 Z Z Z Zq Z Z Z (cs:=[_,_]) Z Q4z Q5L Z Z (wS 0 0 Z Q4z (all':=[_,_]) Z (H':=V3 ..) Z (Q2 (Q4 (Q5 [2] (S':=[_]) Z (QJ ?_)))))))
 have hE:=(Zi hm).symm
 replace hE:=hE.symm
 subst hE
 refine QA (Hr:=[_]) [2] Tryz.results6 (Q4Q 0 Z Z Q4z Q5L Z Z) ⟨j,o,q,Z,Z,Z⟩ (asK [] Z) Z Z (.inl Z)
theorem Qa8 (N:Nat) (a4:Addr) (a5:Nat) (a6:Nat) (l0:List Int) (o2:List QP) (hm:Q3n N l0 = some o2):Q1z Tryz.prog 6 [.slice (some a4) a5 a6] [tF] [.own 3 1 Qh (.slice (some a4) a5 a6) l0] (fun v Φr Hr=>∃ (o0:OA) (o1:Nat) (o3:Nat),v = .agg #[V1,.slice o0 o3 o1] ∧ Φr = [] ∧ Hr = [.own 38 5 QO (.slice o0 o3 o1) o2,.own 3 1 Qh (.slice (some a4) a5 a6) l0]):=by
 unfold Q3n at hm
 refine Q12 Tryz.func6 Z Tryz.ntmps6 Z (S:=[_]) Z (fun C=>(Q6 (Q3 (Q1s Z Z Z Zq Z tZ_28 Z (fun g2=>(Q2 (Q4 (Q6 (Q3 (Q1s Z Z Z Zq Z tZ_28 Z (fun g3=>(Q2 (Q4 (Q6 ?_))))))))))))))
 obtain ⟨a8,hm,hLj_1⟩:=Q7 hm
 refine Q15 (σ:=(List QP) × OA × Nat × Nat) (fun (a0,j,o,q)=>a8 = a0) (fun (a0,j,o,q)=>[(2,.pointer (some ⟨g2,0,none⟩)),(3,.pointer (some ⟨g3,0,none⟩))]) (fun (a0,j,o,q)=>[tF]) (fun (a0,j,o,q)=>[.blk g2 [V1,V1] 28,.blk g3 [V1,.slice j q o] 28,.own 38 5 QO (.slice j q o) a0,.own 3 1 Qh (.slice (some a4) a5 a6) l0]) ?_ ?_
 refine Q6 (Q3 (wP Z (Q2 (Q4 (Qn (Q3K 38 5 QO (Q3l [1,0,2,3] Z (H':=V4 ..) Z (Q1b (σ:=Nat × Nat × (List QP) × OA × Nat × Nat) (fun (a2,a1,f,s,y,z)=>Q1B (Q4p N l0) a2 (a1,f) = some a8) (fun (a2,a1,f,s,y,z)=>a2) (fun (a2,a1,f,s,y,z)=>[(4,.int .i64 ((a1:Nat):Int)),(3,.pointer (some ⟨g3,0,none⟩)),(2,.pointer (some ⟨g2,0,none⟩)),(0,.slice (some a4) a5 a6)]) (fun (a2,a1,f,s,y,z)=>[tF]) (fun (a2,a1,f,s,y,z)=>[.blk g3 [V1,.slice s z y] 28,.own 38 5 QO (.slice s z y) f,.blk g2 [V1,V1] 28,.own 3 1 Qh (.slice (some a4) a5 a6) l0]) (N,0,[],none,0,0) hm [4,3,2,0] Z (asK [0] Z) Z (fun s_ hm=>?_)))))))))
 obtain ⟨a2,a1,f,s,y,z⟩:=s_
 try dsimp only at hm ⊢
 obtain ⟨aO,aP,aE,hq,hLu1⟩:=Q18 hm
 clear hm
 subst aE
 replace hm:=hq
 clear hq
 unfold Q4p at hm
 try dsimp only at hm
 refine Q6 (Q6 (Q3 (wP Z (wP Z (QQ 3 Z (fun aJ _=>(wN Z Q1a (Qx (d:=7) (v':=.int .i64 ((l0.length:Nat):Int)) (S':=V6 ..) Z Z (Q3F aJ) (wP Z (Qx (d:=8) (v':=.bool (decide (a1 < l0.length))) (S':=V7 ..) Z Z (Q20 (a:=a1) (b:=l0.length)) (Q2 (Q4 (Q5 [8,4,3,2,0] (S':=V5 ..) Z ?_)))))))))))))
 refine Qv Z (fun aB=>?_) (fun aB=>?_)
 replace hm:=Q1m hm aB
 refine Q5 [4,3,2,0] (S':=V4 ..) Z (Qt (Q4 (Q6 (Qn ?_))))
 obtain ⟨a3,a9,hm⟩:=Q7 hm
 obtain ⟨aA,hm⟩:=Qd hm
 refine QV [0,1,2,3,4,5,6,9] Z Z (fun hok=>(Qm hok 0 Z Z Z Zq Z Z Z Q4a (Qr hok 1 0 1 Z Z Z Zq Z Z Z Z (cs:=[_]) Z Q7q Q85 Z Z (xP hok 2 Z (xP hok 3 Z (Q1C hok 4 3 a1 Z Z Z Zq Z Z Z Z Z Z (QB a9) Q1a Q1i (fun aQ aF=>?_)))))))
 obtain rfl:=Zi aF
 refine Q2v hok 5 Q1D 3 a1 0 Z Z Z Zq Z Z Z Z a9 Q1i Q2d (v:=.int .i64 a3) Z Z (fun _=>(wx_build hok 6 Z Z Z Zq Z Z tZ_38 tP_38 Z (out:=V5 ..) Z (xS hok 7 Z (Qq Z Z Z Zq Z Q60 Q7D tZ_38 Z (zs:=[.string ((⟨#[]⟩ : ByteArray)),.int .i64 0,.int .i64 0,V1,V1]) (by kernel_rfl) Z (out:=V5 ..) Z (fun aR=>(Q2 (Qs [0] [4,1] Z Z (xS hok 8 Z (Q21 ([(⟨(⟨#[]⟩ : ByteArray),a3,0,[],[]⟩ : QP)]) 2 0 Z Z Z Zq Z Z Z Z Z (fun F w hφ=>⟨[.string ((⟨#[]⟩ : ByteArray)),.int .i64 a3,.int .i64 0,V1,V1],[],Z,Z,⟨((none,0),(none,0)),Z,(Qe Q2m (Qe Q2m Ql))⟩,Z⟩) Q60 tR_38 Z Z (Nat.le_trans aA (by decide)) (Nat.le_trans (Nat.mul_le_mul_right _ aA) (by decide)) (H2:=fun aC aD=>[_,_,.own 38 5 QO (.slice aC ((f ++ ([(⟨(⟨#[]⟩ : ByteArray),a3,0,[],[]⟩ : QP)])).length) aD) (f ++ ([(⟨(⟨#[]⟩ : ByteArray),a3,0,[],[]⟩ : QP)])),_,_]) (fun _ _=>Z) (fun aC aD=>(Q2J 0 Z (H':=V4 ..) Z (Q2 (Qs [0] [3] Z Z (Qm hok 9 Z Z Z Zq Z Z Z Q4a (xS hok 10 Z (wS 0 1 Z Q7q (all':=[_,_]) Z (H':=V4 ..) Z ?_))))))))))))))))
 refine Q2 (Qs [0] [] Z Z (QI hok Z (Qi (Q4 (Q5 [4,3,2,0] (S':=V4 ..) Z (Q3 (wP Z (wP Z ?_))))))))
 obtain ⟨aG,hm⟩:=Qd hm
 refine Qx (d:=10) (v':=.int .i64 ((a1 + 1:Nat):Int)) (S':=V5 ..) Z Z (Q1f (a:=a1) (b:=1) aG) (QM (S':=V5 ..) Z Z Z Z Z (Q2 ?_))
 have hE:=(Zi hm).symm
 replace hE:=Q11 hLu1 hE
 refine Q14 (_,a1 + 1,(f ++ ([(⟨(⟨#[]⟩ : ByteArray),a3,0,[],[]⟩ : QP)])),aC,aD,((f ++ ([(⟨(⟨#[]⟩ : ByteArray),a3,0,[],[]⟩ : QP)])).length)) (Nat.lt_succ_self _) hE [4,3,2,0] Z (asK [0] Z) Z
 replace hm:=Q1l hm aB
 refine Q5 [3,2] (S':=[_,_]) Z (Q19 (Qc (Qc (Qu ?_))))
 have hE:=(Zi hm).symm
 replace hE:=QE hLu1 hE
 refine Q17 [2,0,1,3] Z (H':=V4 ..) Z ?_
 refine Qp (f,s,y,z) hE [2,3] Z (asK [0] Z) Z
 rintro ⟨a0,j,o,q⟩ hE
 try dsimp only
 have hm:=hLj_1
 try rw [hE] at hm
 refine Q6 (Q3 (Q1E 1 0 Z Z Z Zq Z Z Z (cs:=[_,_]) Z Q4z Q5L Z Z (wS 0 0 Z Q4z (all':=[_,_]) Z (H':=V4 ..) Z (Q2 (Q4 (Q5 [2] (S':=[_]) Z (QJ ?_)))))))
 have hE:=(Zi hm).symm
 replace hE:=hE.symm
 subst hE
 refine QA (Hr:=[_,_]) [2,3] Tryz.results6 (Q4Q 0 Z Z Q4z Q5L Z Z) ⟨j,o,q,Z,Z,Z⟩ (asK [] Z) Z Z (.inl Z)
theorem QY (N:Nat) (a0:Int) (qp0:Addr) (qn1:Nat) (qc2:Nat) (l1:List Int)  (hm:QN N a0 l1 = some ()):Q1z Tryz.prog 19 [.int .i64 a0,.slice (some qp0) qn1 qc2] [tF] [.own 3 1 Qh (.slice (some qp0) qn1 qc2) l1] (fun v Φr Hr=>v = .agg #[.int .i64 a0,.slice (some qp0) qn1 qc2] ∧ Φr = [] ∧ Hr = [.own 3 1 Qh (.slice (some qp0) qn1 qc2) l1]):=by
 unfold QN at hm
 refine Q12 Tryz.func19 Z Tryz.ntmps19 Z (S:=[_,_]) Z (fun C=>(Q6 (Q3 (Q1s Z Z Z Zq Z Q1X Z (fun g4=>(Q2 (Q4 (Q6 (Q3 (wP Z (wP Z (Q3h Z Z Z Zq Z Q1X tP_45 Z (out:=[_,_]) Z (wS 0 0 Z Qg (all':=[_,_]) Z (H':=[_,_]) Z (Q2 (Q4 ?_)))))))))))))))
 refine Q5 [4] (S':=[_]) Z (QJ ?_)
 have hE:=(Zi hm).symm
 refine QA (Hr:=[_]) [1] Tryz.results19 (Q4Q 0 Z Z Qg QT Z Z) ⟨Z,Z,Z⟩ (asK [] Z) Z Z (.inl Z)
theorem Q8y (N:Nat) (aB:OA) (aC:Nat) (l0:List Qw) (a5:OA) (a6:Nat) (l1:List QP) (o2:List Int) (hm:Q8B N l0 l1 = some o2):Q1z Tryz.prog 24 [.agg #[.slice aB l0.length aC,.slice a5 l1.length a6]] [.sli 2 QL aB aC l0,.sli 5 QO a5 a6 l1,tF] [] (fun v Φr Hr=>∃ (o0:Addr) (o1:Nat) (o3:Nat),v = .slice (some o0) o3 o1 ∧ Φr = [] ∧ Hr = [.own 3 1 Qh (.slice (some o0) o3 o1) o2]):=by
 unfold Q8B at hm
 refine Q12 Tryz.func24 Z Tryz.ntmps24 Z (S:=[_]) Z (fun C=>(Q6 (Q3 (wB Z (fun g1=>(wP Z (Q2 (Q4 (Q5 [1] (S':=[_]) Z (Q6 (Q3 (Qq Z Z Z Zq Z tE_62 Q1i Q3S Z (zs:=[]) (by kernel_rfl) Z (out:=[]) Z (fun g6=>(wP Z (Q2 (Q4 ?_))))))))))))))))
 refine Q5 [3,1] (S':=[_,_]) Z (Q6 ?_)
 obtain ⟨a8,hm,hLj_1⟩:=Q7 hm
 refine Q15 (σ:=(List Int) × Addr × Nat × Nat) (fun (a1,o,q,s)=>a8 = a1) (fun (a1,o,q,s)=>[(3,.slice (some o) s q)]) (fun (a1,o,q,s)=>[tF]) (fun (a1,o,q,s)=>[.own 3 1 Qh (.slice (some o) s q) a1]) ?_ ?_
 refine Q6 (Q3 (wF Z Q4a (wD 1 1 Z Q7q Q85 Z (wN Z Q60 (wP Z (Q2 (Q4 (Q5 [10,9,8,3] (S':=V4 ..) Z (Qn (Q8k (sz:=1) (m:=0) Qh [] 0 Z (fun F w hφ=>Z) Z (by decide) (H':=[_,_]) Z (Q3l [0] Z (H':=[_]) Z (Q1b (σ:=Nat × Nat × (List Int) × Addr × Nat × Nat) (fun (a2,j,f,y,z,a0)=>Q1B (Q9g N l1) a2 (j,f) = some a8) (fun (a2,j,f,y,z,a0)=>a2) (fun (a2,j,f,y,z,a0)=>[(10,.int .i64 ((j:Nat):Int)),(9,.int .i64 ((l1.length:Nat):Int)),(8,.slice a5 l1.length a6),(3,.slice (some y) a0 z)]) (fun (a2,j,f,y,z,a0)=>[.sli 5 QO a5 a6 l1,tF]) (fun (a2,j,f,y,z,a0)=>[.own 3 1 Qh (.slice (some y) a0 z) f]) (N,0,[],⟨g6,0,none⟩,0,0) hm [10,9,8,3] Z (asK [1,2] Z) Z (fun s_ hm=>?_)))))))))))))
 obtain ⟨a2,j,f,y,z,a0⟩:=s_
 try dsimp only at hm ⊢
 obtain ⟨aS,aT,aD,hq,hLu1⟩:=Q18 hm
 clear hm
 subst aD
 replace hm:=hq
 clear hq
 unfold Q9g at hm
 try dsimp only at hm
 refine Q6 (Q3 (wP Z (Qx (d:=11) (v':=.bool (decide (j < l1.length))) (S':=V4 ..) Z Z (Q20 (a:=j) (b:=l1.length)) (Q2 (Q4 (Q6 ?_))))))
 refine Qv Z (fun a4=>?_) (fun a4=>?_)
 replace hm:=Q1m hm a4
 refine Q5 [10,9,8,3] (S':=V4 ..) Z (Qt (Q4 (Q6 (Qn (Q6 (Q3 ?_))))))
 obtain ⟨a3,aE,hm⟩:=Q7 hm
 refine Q3z 0 j Z Z Z Zq Z Z Z Z Z aE Q60 Q7D (fun aU aV aQ aK=>(Q5m Q3Z 1 Z (fun aW aF _=>?_)))
 subst aF
 refine Q5l 2 0 Z Z Z Zq Z Z Z (cs:=V5 ..) Z Q7D tA_38 Z Z (Q1s Z Z Z Zq Z tZ_38 Z (fun g5=>(wS 0 0 Z Q7D (all':=V5 ..) Z (H':=[_,_]) Z (Q2 (Q4 (Q5 [5,10,9,8,3] (S':=V5 ..) Z (Q3 (wP Z (wF Z Q9K (wD 0 1 Z Q1i Q2d Z (Qq Z Z Z Zq Z tE_62 Q1i Q3S Z (zs:=[.int .i64 0]) (by kernel_rfl) Z (out:=[_]) Z (fun aX=>?_))))))))))))
 obtain ⟨a9,hm⟩:=Qd hm
 refine Q21 [a3.salience] 2 0 Z Z Z Zq Z Z Z Z Z (fun F w hφ=>⟨[.int .i64 (a3.salience)],[],Z,Z,⟨(),Z,Ql⟩,Z⟩) tE_62 tR_3 Z Z (Nat.le_trans a9 (by decide)) (Nat.le_trans (Nat.mul_le_mul_right _ a9) (by decide)) (H2:=fun aG aA=>[_,_,.own 3 1 Qh (.slice aG ((f ++ [a3.salience]).length) aA) (f ++ [a3.salience])]) (fun _ _=>Z) (fun aG aA=>(Q2J 0 Z (H':=[_,_]) Z (wl_nn 1 Z (by simp) (fun aL aH=>?_))))
 subst aH
 refine QM (S':=V9 ..) Z Z Z Z Z (Q2 (Qi (Q4 (Q5 [3,10,9,8] (S':=V4 ..) Z (Q3 (wP Z ?_))))))
 obtain ⟨aI,hm⟩:=Qd hm
 refine Qx (d:=19) (v':=.int .i64 ((j + 1:Nat):Int)) (S':=V4 ..) Z Z (Q1f (a:=j) (b:=1) aI) (QM (S':=V4 ..) Z Z Z Z Z (Q2 ?_))
 have hE:=(Zi hm).symm
 replace hE:=Q11 hLu1 hE
 refine Q17 [1] Z (H':=[_]) Z ?_
 refine Q14 (_,j + 1,f ++ [a3.salience],aL,aA,(f ++ [a3.salience]).length) (Nat.lt_succ_self _) hE [10,9,8,3] Z (asK [4,5] Z) Z
 replace hm:=Q1l hm a4
 refine Q5 [3] (S':=[_]) Z (Q19 (Qc (Qc (Qu ?_))))
 have hE:=(Zi hm).symm
 replace hE:=QE hLu1 hE
 refine Qp (f,y,z,a0) hE [3] Z (asK [1] Z) Z
 rintro ⟨a1,o,q,s⟩ hE
 try dsimp only
 have hm:=hLj_1
 try rw [hE] at hm
 refine Q6 (Q3 (wP Z (wP Z (Q2 (Q4 (Q5 [2] (S':=[_]) Z (QJ ?_)))))))
 have hE:=(Zi hm).symm
 replace hE:=hE.symm
 subst hE
 refine QA (Hr:=[_]) [0] Tryz.results24 (Qy Z) ⟨o,q,s,Z,Z,Z⟩ (asK [] Z) Z Z (.inl Z)
theorem Q4g (N:Nat) (qp0:OA) (qc1:Nat) (l0:List Int) (a1:Int) (qp2:OA) (qc3:Nat) (l2:List Int) (o0:Int) (hm:Q4U N l0 a1 l2 = some o0):Q1z Tryz.prog 92 [.slice qp0 l0.length qc1,.agg #[.int .i64 a1,.slice qp2 l2.length qc3]] [.sli 1 Qh qp0 qc1 l0,.sli 1 Qh qp2 qc3 l2,tF] [] (fun v Φr Hr=>v = .int .i64 o0 ∧ Φr = [] ∧ Hr = []):=by
 unfold Q4U at hm
 refine Q12 Tryz.func92 Z Tryz.ntmps92 Z (S:=[_,_]) Z (fun C=>(Q6 (Q3 (wB Z (fun g3=>(wP Z (Q2 (Q4 (Q5 [3,0] (S':=[_,_]) Z (Q6 (Q6 ?_)))))))))))
 obtain ⟨bj_1,hm,hLj_1⟩:=Q7 hm
 refine Q15 (σ:=Bool) (fun j_1_14=>bj_1 = j_1_14) (fun j_1_14=>[(3,.pointer (some ⟨g3,0,none⟩)),(0,.slice qp0 l0.length qc1),(14,.bool j_1_14)]) (fun j_1_14=>[.sli 1 Qh qp2 qc3 l2,.sli 1 Qh qp0 qc1 l0,tF]) (fun j_1_14=>[.blk g3 [.int .i64 a1,.slice qp2 l2.length qc3] 45]) ?_ ?_
 refine Q3 (wF Z Q22 (wD 0 0 Z Q1i Q2d Z (wP Z (wP Z ?_))))
 refine Q28 (d:=8) (S':=V5 ..) Z Z (fun hs8=>?_) (fun hs8=>?_)
 replace hm:=Q1m hm hs8
 refine wO Z (wO Z (wO Z (wO Z (wO Z (wP Z (Q2 ?_))))))
 have hE:=(Zi hm).symm
 refine Qp true hE [3,0,14] Z (asK [1,0,2] Z) Z
 replace hm:=Q1l hm hs8
 refine wF Z Q22 (wD 0 0 Z Q1i Q2d Z (wP Z (wN Z tE_62 (wP Z (wP Z (Q2 ?_))))))
 have hE:=(Zi hm).symm
 refine Qp (decide (a1 ≥ ((l0.length:Nat):Int))) hE [3,0,14] Z (asK [1,0,2] Z) Z
 rintro j_1_14 hE
 try dsimp only
 have hm:=hLj_1
 try rw [hE] at hm
 refine Qv Z (fun hb14=>?_) (fun hb14=>?_)
 replace hm:=Q1m hm hb14
 refine Q5 [] (S':=[]) Z (Q6 (Q3 (wP Z (Q2 (Q4 (QJ (Qj ?_)))))))
 have hE:=(Zi hm).symm
 replace hE:=hE.symm
 subst hE
 refine QA (Hr:=[]) [] Tryz.results92 (Qy Z) ⟨Z,Z,Z⟩ (asK [] Z) Z Z (.inl Z)
 replace hm:=Q1l hm hb14
 refine Q5 [3,0] (S':=[_,_]) Z (Qt (Q4 (Q6 (Q3 (wP Z (wF Z Q22 (wD 0 0 Z Q1i Q2d Z ?_)))))))
 obtain ⟨hn18,hm⟩:=Qd hm
 obtain ⟨x18,hx18,hm⟩:=Q7 hm
 refine Q3z 1 a1.toNat Z Z Z Zq Z Z Z Z (QK hn18) hx18 tE_62 Q1i (fun b18 q18 cs18 hlx18=>(Q5m Q1D 1 Z (fun r18 er18 _=>?_)))
 subst er18
 refine Q5l 0 0 Z Z Z Zq Z Z Z (cs:=[_]) Z Q1i Q2d Z Z (wP Z (Q2 (Q4 (Q5 [4] (S':=[_]) Z (QJ ?_)))))
 have hE:=(Zi hm).symm
 replace hE:=hE.symm
 subst hE
 refine QA (Hr:=[]) [] Tryz.results92 (Qy Z) ⟨Z,Z,Z⟩ (asK [] Z) Z Z (.inl Z)
theorem Q9N (N:Nat) (a0:Int)  (hm:Q73 N a0 = some ()):Q1z Tryz.prog 144 [.int .i64 a0] [] [] (fun v Φr Hr=>v = .bool (a0 != a0) ∧ Φr = [] ∧ Hr = []):=by
 unfold Q73 at hm
 refine Q12 Tryz.func144 Z Tryz.ntmps144 Z (S:=[_]) Z (fun C=>(Q6 (Q3 (wP Z (Q2 (Q4 (Q5 [0] (S':=[_]) Z (Q6 (Q3 (wP Z (wP Z (wP Z (wP Z (Q2 ?_))))))))))))))
 refine Q4 (Q5 [2] (S':=[_]) Z (QJ ?_))
 have hE:=(Zi hm).symm
 refine QA (Hr:=[]) [] Tryz.results144 (Qy Z) ⟨Z,Z,Z⟩ (asK [] Z) Z Z (.inl Z)
theorem Q2B (N:Nat) (z:Int) (a1:Int) (o0:Int) (hm:Q2H N z a1 = some o0):Q1z Tryz.prog 91 [.int .i64 z,.int .i64 a1] [] [] (fun v Φr Hr=>v = .int .i64 o0 ∧ Φr = [] ∧ Hr = []):=by
 unfold Q2H at hm
 refine Q12 Tryz.func91 Z Tryz.ntmps91 Z (S:=[_,_]) Z (fun C=>(Q6 (Q3 (wP Z (Q2 (Q4 (Q5 [0,1] (S':=[_,_]) Z (Q6 (Q3 (wP Z ?_))))))))))
 obtain ⟨_,a3,hm⟩:=Q7 hm
 try dsimp only at hm
 refine wC [] [] Z fn_144 Z (Q9N N z a3) (asK [] Z) Z (H':=[]) Z ?_
 rintro _ _ _ ⟨rfl,rfl,rfl⟩
 refine wP Z (Q2 (Q4 (Q5 [5,0,1] (S':=V3 ..) Z (Q6 (Q3 (wP Z ?_))))))
 obtain ⟨_,y,hm⟩:=Q7 hm
 try dsimp only at hm
 refine wC [] [] Z fn_144 Z (Q9N N a1 y) (asK [] Z) Z (H':=[]) Z ?_
 rintro _ _ _ ⟨rfl,rfl,rfl⟩
 refine wP Z (Q2 (Q4 (Q5 [6,5,0,1] (S':=V4 ..) Z (Q6 (Q6 (Q3 (wP Z (Q2 (Q4 (Q5 [11,6,0,1] (S':=V4 ..) Z ?_))))))))))
 refine Qv Z (fun f=>?_) (fun f=>?_)
 replace hm:=Q1m hm f
 refine Q5 [6] (S':=[_]) Z (Q6 (Q6 (Q3 (wP Z (Q2 (Q4 (Q5 [12] (S':=[_]) Z ?_)))))))
 refine Qv Z (fun j=>?_) (fun j=>?_)
 replace hm:=Q1m hm j
 refine Q5 [] (S':=[]) Z (Q6 (Q3 (wP Z (Q2 (Q4 (QJ (Qj (Qj ?_))))))))
 have hE:=(Zi hm).symm
 replace hE:=hE.symm
 subst hE
 refine QA (Hr:=[]) [] Tryz.results91 (Qy Z) ⟨Z,Z,Z⟩ (asK [] Z) Z Z (.inl Z)
 replace hm:=Q1l hm j
 refine Q5 [] (S':=[]) Z (Qt (Q4 (Q6 (Q3 (wP Z (Q2 (Q4 (QJ (Qj ?_)))))))))
 have hE:=(Zi hm).symm
 replace hE:=hE.symm
 subst hE
 refine QA (Hr:=[]) [] Tryz.results91 (Qy Z) ⟨Z,Z,Z⟩ (asK [] Z) Z Z (.inl Z)
 replace hm:=Q1l hm f
 refine Q5 [6,0,1] (S':=V3 ..) Z (Qt (Q4 (Q6 (Q6 (Q3 (wP Z (Q2 (Q4 (Q5 [13,0,1] (S':=V3 ..) Z ?_)))))))))
 refine Qv Z (fun o=>?_) (fun o=>?_)
 replace hm:=Q1m hm o
 refine Q5 [] (S':=[]) Z (Q6 (Q3 (wP Z (Q2 (Q4 (QJ (Qj ?_)))))))
 have hE:=(Zi hm).symm
 replace hE:=hE.symm
 subst hE
 refine QA (Hr:=[]) [] Tryz.results91 (Qy Z) ⟨Z,Z,Z⟩ (asK [] Z) Z Z (.inl Z)
 replace hm:=Q1l hm o
 refine Q5 [0,1] (S':=[_,_]) Z (Qt (Q4 (Q6 (Q6 (Q3 (wP Z (wP Z (wP Z (Q2 (Q4 (Q5 [16,0,1] (S':=V3 ..) Z ?_)))))))))))
 refine Qv Z (fun q=>?_) (fun q=>?_)
 replace hm:=Q1m hm q
 refine Q5 [] (S':=[]) Z (Q6 (Q3 (wP Z (Q2 (Q4 (QJ (Qj ?_)))))))
 have hE:=(Zi hm).symm
 replace hE:=hE.symm
 subst hE
 refine QA (Hr:=[]) [] Tryz.results91 (Qy Z) ⟨Z,Z,Z⟩ (asK [] Z) Z Z (.inl Z)
 replace hm:=Q1l hm q
 refine Q5 [0,1] (S':=[_,_]) Z (Qt (Q4 (Q6 (Q6 (Q3 (wP Z (wP Z (wP Z (Q2 (Q4 (Q5 [19] (S':=[_]) Z ?_)))))))))))
 refine Qv Z (fun s=>?_) (fun s=>?_)
 replace hm:=Q1m hm s
 refine Q5 [] (S':=[]) Z (Q6 (Q3 (wP Z (Q2 (Q4 (QJ (Qj ?_)))))))
 have hE:=(Zi hm).symm
 replace hE:=hE.symm
 subst hE
 refine QA (Hr:=[]) [] Tryz.results91 (Qy Z) ⟨Z,Z,Z⟩ (asK [] Z) Z Z (.inl Z)
 replace hm:=Q1l hm s
 refine Q5 [] (S':=[]) Z (Qt (Q4 (Q6 (Q3 (wP Z (Q2 (Q4 (QJ ?_))))))))
 have hE:=(Zi hm).symm
 replace hE:=hE.symm
 subst hE
 refine QA (Hr:=[]) [] Tryz.results91 (Qy Z) ⟨Z,Z,Z⟩ (asK [] Z) Z Z (.inl Z)
theorem Clone53f_s (p:OA) (c:Nat) (l:List Int) (hb:l.length ≤ 17592186044416):Q1z Tryz.prog 53 [.slice p l.length c] [.sli 1 Qh p c l] [] (fun v Φr Hr=>∃ p' c',v = .slice p' l.length c' ∧ Φr = [] ∧ Hr = [.own 3 1 Qh v l]):=by
 refine Q12 Tryz.func53 Z Tryz.ntmps53 Z (S:=[_]) Z (fun C=>(wc_know (fun F w h=>sli_nil (h _ (Qo (k:=0) Z))) (fun isnil=>(Q6 (Q3 (wP Z (Q2 (Q4 (Q6 (Q6 (Q3 (wP Z (wl_eqlNil Z Z Z Zq Z Z Z Q1a (Q2 (Q4 ?_)))))))))))))))
 refine Q5 [4,2,0] (S':=V3 ..) Z ?_
 refine Qv Z (fun h4=>?_) (fun h4=>?_)
 replace h4:=isNone_true h4
 obtain rfl:=isnil h4
 subst h4
 refine Q3K 3 1 Qh (Q6 (Q3 (QM (S':=[_,_]) Z Z Z Z Z (Q2 (Q4 (QJ (Qj (QA (Hr:=[.own 3 1 Qh (V1) []]) [0] Tryz.results53 (Qy Z) ?_ (asK [] Z) Z Z (.inl Z)))))))))
 exact ⟨none,0,Z,Z,Z⟩
 replace h4:=isNone_false h4
 refine Qt (Q4 (Q6 (Q3 (Qq Z Z Z Zq Z Q1a Q1i Q3S Z (zs:=[]) (by kernel_rfl) Z (out:=[]) Z (fun g5=>(wP Z (Q1U (sz:=1) (m:=0) Qh [] 0 Z (fun F w hφ=>Z) Z (by decide) (H':=[_]) Z (Q8v 0 0 Z Z Z Zq Z Z Z Z Z Q1a tR_3 Z Z (by simp; omega) (by simp; omega) (H2:=fun p7 c7=>[.own 3 1 Qh (.slice p7 (l).length c7) l]) (fun _ _=>Z) (fun p7 c7=>(QM (S':=V5 ..) Z Z Z Z Z (Q2 (Q4 (Q5 [2,4,0] (S':=V3 ..) Z (QJ (QA (Hr:=[.own 3 1 Qh (.slice p7 (l).length c7) l]) [0] Tryz.results53 (Qy Z) ?_ (asK [] Z) Z Z (.inl Z))))))))))))))))
 exact ⟨_,_,Z,Z,Z⟩
theorem QaD (N:Nat) (a0:Int) (a1:Int) (o0:Int) (hm:Q6M N a0 a1 = some o0):Q1z Tryz.prog 146 [.int .i64 a0,.int .i64 a1] [] [] (fun v Φr Hr=>v = .int .i64 o0 ∧ Φr = [] ∧ Hr = []):=by
 unfold Q6M at hm
 refine Q12 Tryz.func146 Z Tryz.ntmps146 Z (S:=[_,_]) Z (fun C=>(Q6 (Q3 (wP Z (Q2 (Q4 (Q5 [0,1] (S':=[_,_]) Z (Q6 (Q3 (wP Z (wP Z ?_)))))))))))
 obtain ⟨v7,hc7,hm⟩:=Q7 hm
 refine wC [] [] Z fn_91 Z (Q2B N a1 a0 _ hc7) (asK [] Z) Z (H':=[]) Z ?_
 rintro _ _ _ ⟨rfl,rfl,rfl⟩
 refine wP Z (Q2 (Q4 (Q5 [4] (S':=[_]) Z (QJ ?_))))
 have hE:=(Zi hm).symm
 replace hE:=hE.symm
 subst hE
 refine QA (Hr:=[]) [] Tryz.results146 (Qy Z) ⟨Z,Z,Z⟩ (asK [] Z) Z Z (.inl Z)
theorem Q4w (N:Nat) (qp0:OA) (qc1:Nat) (l0:List Int) (o2:List Int) (hm:Q5t N l0 = some o2):Q1z Tryz.prog 94 [.slice qp0 l0.length qc1] [.sli 1 Qh qp0 qc1 l0,tF] [] (fun v Φr Hr=>∃ (o0:OA) (o1:Nat),v = .slice o0 l0.length o1 ∧ Φr = [] ∧ Hr = [.own 3 1 Qh (.slice o0 l0.length o1) o2]):=by
 unfold Q5t at hm
 refine Q12 Tryz.func94 Z Tryz.ntmps94 Z (S:=[_]) Z (fun C=>(Q6 (Q3 (wP Z (Q2 (Q4 (Q5 [0] (S':=[_]) Z (Q6 (Q3 (wP Z ?_))))))))))
 obtain ⟨hg4,hm⟩:=Qd hm
 refine wC [] [] Z fn_53 Z (Clone53f_s qp0 qc1 l0 hg4) (asK [0] Z) Z (H':=[]) Z ?_
 rintro _ _ _ ⟨p4,c4,rfl,rfl,rfl⟩
 refine QM (S':=[_,_]) Z Z Z Z Z (Q2 (Q4 (Q5 [0] (S':=[_]) Z (Q6 (Q3 (wP Z ?_))))))
 obtain ⟨v6,hc6,hm⟩:=Q7 hm
 refine wC [0] [] Z fn_145 Z (spec_sortF srt_145 srtnil_145 (enters_of Tryz.func146 (by kernel_rfl) Z) (fun x_ y_ z_ h_=>QaD N x_ y_ z_ h_) (fall_ok (cm:=fun x_ y_=>Q6M N x_ y_) (fun x_ y_=>by unfold Q6M Q2H Q73 cmpJ; rw [Q9f,Q9f,if_neg (by simp),if_neg (by simp)]; exact if h1:y_ < x_ then (by rw [if_pos (by simpa using h1),if_pos h1,Q9f]) else if h2:y_ > x_ then (by rw [if_neg (by simpa using h1),if_neg h1,if_pos (by simpa using h2),if_pos h2,Q9f]) else (by rw [if_neg (by simpa using h1),if_neg h1,if_neg (by simpa using h2),if_neg h2,Q9f])) hc6)) (asK [] Z) Z (H':=[]) Z ?_
 rintro _ _ _ ⟨rfl,rfl,rfl⟩
 refine Q2 (Q4 (Q5 [0] (S':=[_]) Z (Q6 (Q3 (wP Z (wP Z (Q2 (Q4 (Q5 [2] (S':=[_]) Z (QJ ?_))))))))))
 have hE:=(Zi hm).symm
 replace hE:=hE.symm
 subst hE
 refine QA (Hr:=[_]) [0] Tryz.results94 (Qy Z) ⟨p4,c4,Z,Z,Z⟩ (asK [] Z) Z Z (.inl Z)
theorem Q4e (N:Nat) (j:OA) (o:Nat) (s:List Int) (y:OA) (z:Nat) (l1:List Int) (o0:Int) (hm:Q4L N s l1 = some o0):Q1z Tryz.prog 93 [.slice j s.length o,.slice y l1.length z] [.sli 1 Qh j o s,.sli 1 Qh y z l1,tF] [] (fun v Φr Hr=>v = .int .i64 o0 ∧ Φr = [] ∧ Hr = []):=by
 unfold Q4L at hm
 refine Q12 Tryz.func93 Z Tryz.ntmps93 Z (S:=[_,_]) Z (fun C=>(Q6 (Q3 (wP Z (Q2 (Q4 (Q5 [0,1] (S':=[_,_]) Z (Q6 ?_))))))))
 obtain ⟨a5,hm,hLj_1⟩:=Q1R hm
 refine Q15 (σ:=Unit) (fun _=>a5 = .inl ()) (fun _=>[(0,.slice j s.length o),(1,.slice y l1.length z)]) (fun _=>[.sli 1 Qh j o s,.sli 1 Qh y z l1,tF]) (fun _=>[]) ?_ ?_
 refine Q6 (Q3 (wP Z (wN Z Q1a (wP Z (Q2 (Q4 (Qn (Q1b (σ:=Nat × Nat) (fun (q,f)=>Q1B (Q6v N s l1) q f = some a5) (fun (q,f)=>q) (fun (q,f)=>[(11,.int .i64 ((f:Nat):Int)),(10,.int .i64 ((s.length:Nat):Int)),(9,.slice j s.length o),(0,.slice j s.length o),(1,.slice y l1.length z)]) (fun (q,f)=>[.sli 1 Qh j o s,.sli 1 Qh y z l1,tF]) (fun (q,f)=>[]) (N,0) hm [11,10,9,0,1] Z (asK [0,1,2] Z) Z (fun s_ hm=>?_)))))))))
 obtain ⟨q,f⟩:=s_
 try dsimp only at hm ⊢
 obtain ⟨aK,aL,a6,hq,hLu1⟩:=Q18 hm
 clear hm
 subst a6
 replace hm:=hq
 clear hq
 unfold Q6v at hm
 try dsimp only at hm
 refine Q6 (Q3 (wP Z (Qx (d:=12) (v':=.bool (decide (f < s.length))) (S':=V5 ..) Z Z (Q20 (a:=f) (b:=s.length)) (Q2 (Q4 (Q6 ?_))))))
 refine Qv Z (fun a1=>?_) (fun a1=>?_)
 replace hm:=Q1m hm a1
 refine Q5 [11,10,9,0,1] (S':=V5 ..) Z (Qt (Q4 (Q6 (Qn (Q6 (Q3 (wP Z ?_)))))))
 obtain ⟨aD,a7,hm⟩:=Q7 hm
 refine Q3z 0 f Z Z Z Zq Z Z Z Z Z a7 Q1a Q1i (fun aM aN aI aE=>(Q5m Q1D 1 Z (fun aO a8 _=>?_)))
 subst a8
 refine Q5l 0 0 Z Z Z Zq Z Z Z (cs:=[_]) Z Q1i Q2d Z Z (wP Z (wP Z (Q2 (Q4 (Q5 [6,5,11,10,9,0,1] (S':=V7 ..) Z (Q6 (Q6 (Q3 (wP Z (wP Z (wN Z Q1a (wP Z (Qx (d:=19) (v':=.bool (decide (l1.length ≤ f))) (S':=V10 ..) Z Z (natge (a:=f) (b:=l1.length)) ?_)))))))))))))
 refine Q2 (Q4 (Q5 [19,6,5,11,10,9,0,1] (S':=V8 ..) Z ?_))
 refine Qv Z (fun a2=>?_) (fun a2=>?_)
 replace hm:=Q1m hm a2
 refine Q5 [] (S':=[]) Z (Q6 (Q3 (wP Z (Q2 (Q4 (QJ (Qj (QR (Qj (Qj (QR (Qj ?_))))))))))))
 have hE:=(Zi hm).symm
 replace hE:=QE hLu1 hE
 replace hE:=QE hLj_1 hE
 replace hE:=hE.symm
 subst hE
 refine QA (Hr:=[]) [] Tryz.results93 (Qy Z) ⟨Z,Z,Z⟩ (asK [] Z) Z Z (.inl Z)
 replace hm:=Q1l hm a2
 refine Q5 [6,5,11,10,9,0,1] (S':=V7 ..) Z (Qt (Q4 (Q6 (Q3 (wP Z (wP Z ?_))))))
 obtain ⟨aF,a9,hm⟩:=Q7 hm
 refine Q3z 3 f Z Z Z Zq Z Z Z Z Z a9 Q1a Q1i (fun aP aQ aJ aG=>(Q5m Q1D 1 Z (fun aR aA _=>?_)))
 subst aA
 refine Q5l 0 0 Z Z Z Zq Z Z Z (cs:=[_]) Z Q1i Q2d Z Z (wP Z (Q2 (Q4 (Q5 [7,6,11,10,9,0,1] (S':=V7 ..) Z (Q6 (Q3 (wP Z (wP Z ?_))))))))
 obtain ⟨aS,aB,hm⟩:=Q7 hm
 refine wC [] [] Z fn_91 Z (Q2B N aD aF _ aB) (asK [] Z) Z (H':=[]) Z ?_
 rintro _ _ _ ⟨rfl,rfl,rfl⟩
 refine wP Z (Q2 (Q4 (Q5 [8,11,10,9,0,1] (S':=V6 ..) Z (Q6 (Q3 (wP Z (wP Z (Q2 (Q4 (Q5 [28,8,11,10,9,0,1] (S':=V7 ..) Z ?_))))))))))
 refine Qv Z (fun a3=>?_) (fun a3=>?_)
 replace hm:=Q1m hm a3
 refine Q5 [8] (S':=[_]) Z (Q6 (Q3 (wP Z (wP Z (Q2 (Q4 (Q5 [4] (S':=[_]) Z (QJ (QR (Qj (Qj (QR (Qj ?_)))))))))))))
 have hE:=(Zi hm).symm
 replace hE:=QE hLu1 hE
 replace hE:=QE hLj_1 hE
 replace hE:=hE.symm
 subst hE
 refine QA (Hr:=[]) [] Tryz.results93 (Qy Z) ⟨Z,Z,Z⟩ (asK [] Z) Z Z (.inl Z)
 replace hm:=Q1l hm a3
 refine Q5 [11,10,9,0,1] (S':=V5 ..) Z (Qt (Qi (Q4 (Q3 (wP Z ?_)))))
 obtain ⟨aC,hm⟩:=Qd hm
 refine Qx (d:=30) (v':=.int .i64 ((f + 1:Nat):Int)) (S':=V5 ..) Z Z (Q1f (a:=f) (b:=1) aC) (QM (S':=V5 ..) Z Z Z Z Z (Q2 ?_))
 have hE:=(Zi hm).symm
 replace hE:=Q11 hLu1 hE
 refine Q14 (_,f + 1) (Nat.lt_succ_self _) hE [11,10,9,0,1] Z (asK [4,5,6] Z) Z
 replace hm:=Q1l hm a1
 refine Q5 [0,1] (S':=[_,_]) Z (Q19 (Qc (Qc (Qu ?_))))
 have hE:=(Zi hm).symm
 replace hE:=QE hLu1 hE
 refine Qp () hE [0,1] Z (asK [0,1,2] Z) Z
 rintro _ hE
 try dsimp only
 have hm:=Q11 hLj_1 hE
 try dsimp only at hm
 refine Q6 (Q6 (Q3 (wP Z (wN Z Q1a (wP Z (wN Z Q1a (wP Z (Qx (d:=35) (v':=.bool (decide (s.length < l1.length))) (S':=V6 ..) Z Z (Q20 (a:=s.length) (b:=l1.length)) (Q2 (Q4 (Q5 [35] (S':=[_]) Z ?_)))))))))))
 refine Qv Z (fun a4=>?_) (fun a4=>?_)
 replace hm:=Q1m hm a4
 refine Q5 [] (S':=[]) Z (Q6 (Q3 (wP Z (Q2 (Q4 (QJ (Qj ?_)))))))
 have hE:=(Zi hm).symm
 replace hE:=hE.symm
 subst hE
 refine QA (Hr:=[]) [] Tryz.results93 (Qy Z) ⟨Z,Z,Z⟩ (asK [] Z) Z Z (.inl Z)
 replace hm:=Q1l hm a4
 refine Q5 [] (S':=[]) Z (Qt (Q4 (Q6 (Q3 (wP Z (Q2 (Q4 (QJ ?_))))))))
 have hE:=(Zi hm).symm
 replace hE:=hE.symm
 subst hE
 refine QA (Hr:=[]) [] Tryz.results93 (Qy Z) ⟨Z,Z,Z⟩ (asK [] Z) Z Z (.inl Z)
theorem Q9l (N:Nat) (q:OA) (s:Nat) (y:List Int) (o0:Int) (hm:Q92 N y = some o0):Q1z Tryz.prog 90 [.slice q y.length s] [.sli 1 Qh q s y,tF] [] (fun v Φr Hr=>v = .int .i64 o0 ∧ Φr = [] ∧ Hr = []):=by
 unfold Q92 at hm
 refine Q12 Tryz.func90 Z Tryz.ntmps90 Z (S:=[_]) Z (fun C=>(Q6 (Q3 (wP Z (Q2 (Q4 (Q5 [0] (S':=[_]) Z (Q6 (Q3 (wP Z (Q2 (Q4 (Q6 ?_)))))))))))))
 obtain ⟨z,hm,hLj_1⟩:=Q1R hm
 refine Q15 (σ:=Unit) (fun _=>z = .inl ()) (fun _=>[(3,.int .i64 0)]) (fun _=>[tF]) (fun _=>[]) ?_ ?_
 refine Q6 (Q3 (wP Z (wN Z Q1a (wP Z (Q2 (Q4 (Q5 [8,7,6,3] (S':=V4 ..) Z (Qn (Q1b (σ:=Nat × Nat) (fun (j,f)=>Q1B (Q8Q N y) j f = some z) (fun (j,f)=>j) (fun (j,f)=>[(8,.int .i64 ((f:Nat):Int)),(7,.int .i64 ((y.length:Nat):Int)),(6,.slice q y.length s),(3,.int .i64 0)]) (fun (j,f)=>[.sli 1 Qh q s y,tF]) (fun (j,f)=>[]) (N,0) hm [8,7,6,3] Z (asK [0,1] Z) Z (fun s_ hm=>?_))))))))))
 obtain ⟨j,f⟩:=s_
 try dsimp only at hm ⊢
 obtain ⟨a8,a9,a1,hq,hLu1⟩:=Q18 hm
 clear hm
 subst a1
 replace hm:=hq
 clear hq
 unfold Q8Q at hm
 try dsimp only at hm
 refine Q6 (Q3 (wP Z (Qx (d:=9) (v':=.bool (decide (f < y.length))) (S':=V4 ..) Z Z (Q20 (a:=f) (b:=y.length)) (Q2 (Q4 (Q6 ?_))))))
 refine Qv Z (fun a0=>?_) (fun a0=>?_)
 replace hm:=Q1m hm a0
 refine Q5 [8,7,6,3] (S':=V4 ..) Z (Qt (Q4 (Q6 (Qn (Q6 (Q3 ?_))))))
 obtain ⟨aA,a2,hm⟩:=Q7 hm
 refine Q3z 0 f Z Z Z Zq Z Z Z Z Z a2 Q1a Q1i (fun aB aC a7 a5=>(Q5m Q1D 1 Z (fun aD a3 _=>?_)))
 subst a3
 refine Q5l 0 0 Z Z Z Zq Z Z Z (cs:=[_]) Z Q1i Q2d Z Z (wP Z (Q2 (Q4 (Q5 [5,8,7,6,3] (S':=V5 ..) Z (Q6 (Q3 (wP Z (wP Z (wP Z (Q2 (Q4 (Q5 [14,5,8,7,6,3] (S':=V6 ..) Z ?_))))))))))))
 refine Qv Z (fun o=>?_) (fun o=>?_)
 replace hm:=Q1m hm o
 refine Q5 [5] (S':=[_]) Z (Q6 (Q3 (wP Z (wP Z (Q2 (Q4 (Q5 [2] (S':=[_]) Z (QJ (QR (Qj (Qj (QR (Qj ?_)))))))))))))
 have hE:=(Zi hm).symm
 replace hE:=QE hLu1 hE
 replace hE:=QE hLj_1 hE
 replace hE:=hE.symm
 subst hE
 refine QA (Hr:=[]) [] Tryz.results90 (Qy Z) ⟨Z,Z,Z⟩ (asK [] Z) Z Z (.inl Z)
 replace hm:=Q1l hm o
 refine Q5 [8,7,6,3] (S':=V4 ..) Z (Qt (Qi (Q4 (Q3 (wP Z ?_)))))
 obtain ⟨a4,hm⟩:=Qd hm
 refine Qx (d:=16) (v':=.int .i64 ((f + 1:Nat):Int)) (S':=V4 ..) Z Z (Q1f (a:=f) (b:=1) a4) (QM (S':=V4 ..) Z Z Z Z Z (Q2 ?_))
 have hE:=(Zi hm).symm
 replace hE:=Q11 hLu1 hE
 refine Q14 (_,f + 1) (Nat.lt_succ_self _) hE [8,7,6,3] Z (asK [2,3] Z) Z
 replace hm:=Q1l hm a0
 refine Q5 [3] (S':=[_]) Z (Q19 (Qc (Qc (Qu ?_))))
 have hE:=(Zi hm).symm
 replace hE:=QE hLu1 hE
 refine Qp () hE [3] Z (asK [1] Z) Z
 rintro _ hE
 try dsimp only
 have hm:=Q11 hLj_1 hE
 try dsimp only at hm
 refine Q6 (Q3 (wP Z (wP Z (Q2 (Q4 (Q5 [2] (S':=[_]) Z (QJ ?_)))))))
 have hE:=(Zi hm).symm
 replace hE:=hE.symm
 subst hE
 refine QA (Hr:=[]) [] Tryz.results90 (Qy Z) ⟨Z,Z,Z⟩ (asK [] Z) Z Z (.inl Z)
theorem Q4D (N:Nat) (a5:OA) (a6:Nat) (l0:List Int) (a1:Int) (y:OA) (z:Nat) (l2:List Int) (a3:Int) (a0:OA) (a2:Nat) (l4:List Int) (o0:Int) (hm:Q1k N l0 a1 l2 a3 l4 = some o0):Q1z Tryz.prog 41 [.slice a5 l0.length a6,.agg #[.int .i64 a1,.slice y l2.length z],.agg #[.int .i64 a3,.slice a0 l4.length a2]] [.sli 1 Qh a5 a6 l0,.sli 1 Qh y z l2,.sli 1 Qh a0 a2 l4,tF] [] (fun v Φr Hr=>v = .int .i64 o0 ∧ Φr = [] ∧ Hr = []):=by
 unfold Q1k at hm
 refine Q12 Tryz.func41 Z Tryz.ntmps41 Z (S:=V3 ..) Z (fun C=>(Q6 (Q3 (wB Z (fun g4=>(wB Z (fun g5=>(wP Z (Q2 (Q4 (Q5 [5,4,0] (S':=V3 ..) Z (Q6 ?_))))))))))))
 obtain ⟨v9,aQ,hm⟩:=Q7 hm
 obtain ⟨aR,aE,hm⟩:=Q7 hm
 obtain ⟨aA,aF,hm⟩:=Q7 hm
 obtain ⟨a7,aG,hm⟩:=Q7 hm
 obtain ⟨a8,aH,hm⟩:=Q7 hm
 obtain ⟨a9,aI,hm⟩:=Q7 hm
 obtain ⟨a4,aJ,hm⟩:=Q7 hm
 obtain ⟨s,aK,hm⟩:=Q7 hm
 obtain ⟨aV,aL,hm⟩:=Q7 hm
 refine QV [0,1,3,4,7,8,10,11,14,15,16,17,19,20,21,22] Z Z (fun hok=>(xP hok 0 Z (Qr hok 1 0 0 Z Z Z Zq Z Z Z Z (cs:=[_,_]) Z Qg QT Z Z (xP hok 3 Z (Qr hok 4 1 0 Z Z Z Zq Z Z Z Z (cs:=[_,_]) Z Qg QT Z Z (Qm hok 7 Z Z Z Zq Z Z Z Q2i (Qr hok 8 0 1 Z Z Z Zq Z Z Z Z (cs:=[_]) Z Q1T Q2Q Z Z (Qm hok 10 Z Z Z Zq Z Z Z Q2i (Qr hok 11 1 1 Z Z Z Zq Z Z Z Z (cs:=[_]) Z Q1T Q2Q Z Z (Qm hok 14 Z Z Z Zq Z Z Z Q22 (Qr hok 15 1 0 Z Z Z Zq Z Z Z Z (cs:=[_]) Z Q1i Q2d Z Z (Qm hok 16 Z Z Z Zq Z Z Z Q22 (Qr hok 17 0 0 Z Z Z Zq Z Z Z Z (cs:=[_]) Z Q1i Q2d Z Z (Qm hok 19 Z Z Z Zq Z Z Z Q2i ?_))))))))))))))
 refine Qr hok 20 1 1 Z Z Z Zq Z Z Z Z (cs:=[_]) Z Q1T Q2Q Z Z (Qm hok 21 Z Z Z Zq Z Z Z Q2i (Qr hok 22 0 1 Z Z Z Zq Z Z Z Z (cs:=[_]) Z Q1T Q2Q Z Z (xS hok 2 Z (wC [] [0,1] Z fn_92 Z (Q4g N a5 a6 l0 a3 a0 a2 l4 _ aQ) (asK [0,2,3] Z) Z (H':=[_,_]) Z ?_))))
 rintro _ _ _ ⟨rfl,rfl,rfl⟩
 refine Q2 (Qs [0,1,2,3] [0,1,0,1,1,0,1] Z Z (xS hok 5 Z (wC [] [0,1] Z fn_92 Z (Q4g N a5 a6 l0 a1 y z l2 _ aE) (asK [0,1,3] Z) Z (H':=[_,_]) Z ?_)))
 rintro _ _ _ ⟨rfl,rfl,rfl⟩
 refine Q2 (Qs [0,1,2,3] [0,1,0,1,1,0,0] Z Z (xS hok 6 Z (wC [] [0,1] Z fn_91 Z (Q2B N v9 aR _ aF) (asK [] Z) Z (H':=[_,_]) Z ?_)))
 rintro _ _ _ ⟨rfl,rfl,rfl⟩
 refine Q2 (Qs [0,1,2,3] [0,1,0,1,1,0,1,0] Z Z (xS hok 9 Z (wC [] [0,1] Z fn_94 Z (Q4w N a0 a2 l4 _ aG) (asK [2,3] Z) Z (H':=[_,_]) Z ?_)))
 rintro _ _ _ ⟨f,j,rfl,rfl,rfl⟩
 refine Q2 (Qs [0,1,2,3] [1,2,1,2,2,2,1] Z Z (xS hok 12 Z (wC [] [0,1,2] Z fn_94 Z (Q4w N y z l2 _ aH) (asK [1,3] Z) Z (H':=V3 ..) Z ?_)))
 rintro _ _ _ ⟨o,q,rfl,rfl,rfl⟩
 refine Q2 (Qs [0,1,2,3] [2,3,2,3,2,3,2] Z Z (xS hok 13 Z (QQ 1 Z (fun aM _=>(Q23 1 (v':=.slice f a7.length j) Z (by first | rfl | (rw [aM]; done) | simp) (Q1r 1 (φ':=.own 3 1 Qh (.slice f a7.length j) a7) Z (by first | rfl | (rw [aM]; done) | simp) (H':=V4 ..) Z (QQ 0 Z (fun aN _=>(Q23 0 (v':=.slice o a8.length q) Z (by first | rfl | (rw [aN]; done) | simp) (Q1r 0 (φ':=.own 3 1 Qh (.slice o a8.length q) a8) Z (by first | rfl | (rw [aN]; done) | simp) (H':=V4 ..) Z (Q1y [] [0,1,2,3] [1,0] Z Z Z Zq Z Z fn_93 Z (Q4e N f j a7 o q a8 _ aI) (fun F w hφ hh=>(Qe (Q1d (hh _ (Qo (k:=0) Z))) (Qe (Q1d (hh _ (Qo (k:=1) Z))) (Qe (hφ _ (Qo (k:=3) Z)) Ql)))) (fun _ _ _ hR=>by obtain ⟨rfl,rfl,rfl⟩:=hR; exact ⟨Z,(fun _ h=>Q1q h)⟩) Z Z (H':=V4 ..) Z ?_)))))))))))
 rintro _ _ _ ⟨rfl,rfl,rfl⟩
 refine Q2 (Qs [0,1,2,3] [2,3,2,3,3,2,3,2] Z Z (xS hok 18 Z (wC [] [0,1,2,3] Z fn_91 Z (Q2B N a1 a3 _ aJ) (asK [] Z) Z (H':=V4 ..) Z ?_)))
 rintro _ _ _ ⟨rfl,rfl,rfl⟩
 refine Q2 (Qs [0,1,2,3] [2,3,3,2,3,2] Z Z (xS hok 23 Z (wC [] [0,1,2,3] Z fn_93 Z (Q4e N y z l2 a0 a2 l4 _ aK) (asK [1,2,3] Z) Z (H':=V4 ..) Z ?_)))
 rintro _ _ _ ⟨rfl,rfl,rfl⟩
 refine Q2 (Qs [0,1,2,3] [2,3,3,2,3,2] Z Z (xS hok 24 Z (Qq Z Z Z Zq Z Q1a Q1i Q3S Z (zs:=[.int .i64 0,.int .i64 0,.int .i64 0,.int .i64 0]) (by kernel_rfl) Z (out:=V4 ..) Z (fun aS=>(Q2 (Qs [0,1,2,3] [3,4,3,4,4,3,4,3] Z Z (xS hok 25 Z (Q1U (sz:=1) (m:=4) Qh ([aA,a9,a4,s]) 0 Z (fun F w hφ=>⟨[.int .i64 aA],[.int .i64 a9,.int .i64 a4,.int .i64 s],Z,Z,⟨(),Z,Ql⟩,⟨[.int .i64 a9],[.int .i64 a4,.int .i64 s],Z,Z,⟨(),Z,Ql⟩,⟨[.int .i64 a4],[.int .i64 s],Z,Z,⟨(),Z,Ql⟩,⟨[.int .i64 s],[],Z,Z,⟨(),Z,Ql⟩,Z⟩⟩⟩⟩) Z (by decide) (H':=V5 ..) Z (Q1y [] [0,1,2,3,4] [0] Z Z Z Zq Z Z fn_90 Z (Q9l N (some ⟨aS,0,none⟩) 4 [aA,a9,a4,s] _ aL) (fun F w hφ hh=>(Qe (Q1d (hh _ (Qo (k:=0) Z))) (Qe (hφ _ (Qo (k:=3) Z)) Ql))) (fun _ _ _ hR=>by obtain ⟨rfl,rfl,rfl⟩:=hR; exact ⟨Z,(fun _ h=>Q1q h)⟩) Z Z (H':=V5 ..) Z ?_)))))))))
 rintro _ _ _ ⟨rfl,rfl,rfl⟩
 refine Q2 (Qs [0,1,2,3] [3,4,3,4,4,3,4,3] Z Z (xS hok 26 Z (wP Z (Q2 (Qs [0,1,2,3] [] Z Z (QI hok Z (Q4 (Q5 [6] (S':=[_]) Z (QJ ?_)))))))))
 have hE:=(Zi hm).symm
 replace hE:=hE.symm
 subst hE
 refine QA (Hr:=[]) [] Tryz.results41 (Qy Z) ⟨Z,Z,Z⟩ (asK [] Z) Z Z (.inl Z)
theorem Q4Y (N:Nat) (qp0:OA) (qc1:Nat) (l0:List Qw) (qp2:OA) (qc3:Nat) (l1:List QP) (a2:Int) (qp4:OA) (qc5:Nat) (l3:List Int) (a4:Int) (qp6:OA) (qc7:Nat) (l5:List Int) (o0:Bool) (hm:Q4h N l0 l1 a2 l3 a4 l5 = some o0):Q1z Tryz.prog 20 [.agg #[.slice qp0 l0.length qc1,.slice qp2 l1.length qc3],.agg #[.int .i64 a2,.slice qp4 l3.length qc5],.agg #[.int .i64 a4,.slice qp6 l5.length qc7]] [.sli 2 QL qp0 qc1 l0,.sli 5 QO qp2 qc3 l1,.sli 1 Qh qp4 qc5 l3,.sli 1 Qh qp6 qc7 l5,tF] [] (fun v Φr Hr=>v = .bool o0 ∧ Φr = [] ∧ Hr = []):=by
 unfold Q4h at hm
 refine Q12 Tryz.func20 Z Tryz.ntmps20 Z (S:=V3 ..) Z (fun C=>(Q6 (Q3 (wB Z (fun g3=>(wB Z (fun g4=>(wB Z (fun g5=>(wP Z (Q2 (Q4 (Q5 [5,4,3] (S':=V3 ..) Z (Q6 ?_))))))))))))))
 obtain ⟨v8,hc8,hm⟩:=Q7 hm
 obtain ⟨v11,hc11,hm⟩:=Q7 hm
 refine QV [0,2,3,5] Z Z (fun hok=>(Qr hok 0 2 0 Z Z Z Zq Z Z Z Z (cs:=[_,_]) Z Q4z Q5L Z Z (Qr hok 2 1 0 Z Z Z Zq Z Z Z Z (cs:=[_,_]) Z Qg QT Z Z (Qr hok 3 0 0 Z Z Z Zq Z Z Z Z (cs:=[_,_]) Z Qg QT Z Z (xS hok 1 Z (wC [] [0,1,2] Z fn_24 Z (Q8y N qp0 qc1 l0 qp2 qc3 l1 _ hc8) (asK [0,1,4] Z) Z (H':=V3 ..) Z ?_))))))
 rintro _ _ _ ⟨r8_0,c8_1,c8_2,rfl,rfl,rfl⟩
 refine Q2 (Qs [0,1,2,3,4] [1,2] Z Z (xS hok 4 Z (QQ 0 Z (fun hzc8_2 _=>?_))))
 subst hzc8_2
 refine Q1y [] [0,1,2,3] [0] Z Z Z Zq Z Z Q5o Z (Q4D N (some r8_0) c8_1 v8 a2 qp4 qc5 l3 a4 qp6 qc7 l5 _ hc11) (fun F w hφ hh=>(Qe (Q1d (hh _ (Qo (k:=0) Z))) (Qe (hφ _ (Qo (k:=2) Z)) (Qe (hφ _ (Qo (k:=3) Z)) (Qe (hφ _ (Qo (k:=4) Z)) Ql))))) (fun _ _ _ hR=>by obtain ⟨rfl,rfl,rfl⟩:=hR; exact ⟨Z,(fun _ h=>Q1q h)⟩) Z Z (H':=V4 ..) Z ?_
 rintro _ _ _ ⟨rfl,rfl,rfl⟩
 refine Q2 (Qs [0,1,2,3,4] [3] Z Z (xP hok 5 Z (xS hok 6 Z (wP Z (Q2 (Qs [0,1,2,3,4] [] Z Z (QI hok Z (Q4 (Q5 [6] (S':=[_]) Z (QJ ?_))))))))))
 have hE:=(Zi hm).symm
 replace hE:=hE.symm
 subst hE
 refine QA (Hr:=[]) [] Tryz.results20 (Qy Z) ⟨Z,Z,Z⟩ (asK [] Z) Z Z (.inl Z)
theorem QaO (N:Nat) (qp0:OA) (qc1:Nat) (l0:List Qw) (qp2:OA) (qn3:Nat) (qc4:Nat) (l1:List QP)  (hm:Q7v N l0 l1 = some (.inl ())):Q1z Tryz.prog 7 [.agg #[.slice qp0 l0.length qc1,.slice qp2 qn3 qc4]] [.sli 2 QL qp0 qc1 l0,tF] [.own 38 5 QO (.slice qp2 qn3 qc4) l1] (fun v Φr Hr=>v = .pointer none ∧ Φr = [] ∧ Hr = [.own 38 5 QO (.slice qp2 qn3 qc4) l1]):=by
 unfold Q7v at hm
 refine Q12 Tryz.func7 Z Tryz.ntmps7 Z (S:=[_]) Z (fun C=>(Q6 (Q3 (wB Z (fun g1=>(wP Z (Q2 (Q4 (Q5 [1] (S':=[_]) Z (Q6 (Q6 (Q3 (wF Z Q4a (wD 0 1 Z Q7q Q85 Z (QQ 1 Z (fun hl5 _=>?_))))))))))))))))
 refine wN Z Q60 (Qx (d:=5) (v':=.int .i64 ((l1.length:Nat):Int)) (S':=V3 ..) Z Z (Q3F hl5) (wP Z (Qx (d:=6) (v':=.bool (decide (64 < l1.length))) (S':=V4 ..) Z Z (natgt (a:=l1.length) (b:=64)) (Q2 (Q4 (Q5 [6,1] (S':=[_,_]) Z ?_))))))
 refine Qv Z (fun hb6=>?_) (fun hb6=>?_)
 replace hm:=Q1m hm hb6
 refine Q5 [] (S':=[]) Z (Q6 (Q3 (wP Z (Q2 (Q4 (QJ (Qj ?_)))))))
 have hE:=(Zi hm).symm
 replace hE:=Sum.inl.inj hE
 refine QA (Hr:=[_]) [1] Tryz.results7 (Qy Z) ⟨Z,Z,Z⟩ (asK [] Z) Z Z (.inl Z)
 ·
  replace hm:=Q1l hm hb6
  refine Q5 [1] (S':=[_]) Z (Qt (Q4 (Q6 (Q3 (Q1E 0 0 Z Z Z Zq Z Z Z (cs:=[_,_]) Z Q4z Q5L Z Z (QQ 1 Z (fun hzqn3 _=>?_)))))))
  subst hzqn3
  obtain ⟨v8,hc8,hm⟩:=Q7 hm
  refine Q1y [] [0,1] [1] Z Z Z Zq Z Z fn_24 Z (Q8y N qp0 qc1 l0 qp2 qc4 l1 _ hc8) (fun F w hφ hh=>(Qe (hφ _ (Qo (k:=0) Z)) (Qe (Q1d (hh _ (Qo (k:=0) Z))) (Qe (hφ _ (Qo (k:=1) Z)) Ql)))) (fun _ _ _ hR=>by obtain ⟨_,_,_,rfl,rfl,rfl⟩:=hR; exact ⟨Z,(Q7u (Q8g Q6Z) (fun _ h=>Q1q h))⟩) Z Z (H':=[_,_]) Z ?_
  rintro _ _ _ ⟨r8_0,c8_1,c8_2,rfl,rfl,rfl⟩
  refine Q89 (Q1h (QZ Q1Z)) false Q13 Z Z Z Zq Z (fun g9=>(Q3h Z Z Z Zq Z tZ_66 tP_66 Z (out:=V4 ..) Z (wB Z (fun g11=>(wP Z (Q2 (Q4 (Q5 [2] (S':=[_]) Z (QJ ?_)))))))))
  have hE:=(Zi hm).symm
  cases hE
theorem Q9k (N:Nat) (qp0:OA) (qc1:Nat) (l0:List Qw) (qp2:OA) (qn3:Nat) (qc4:Nat) (l1:List QP) (o3:List Int) (hm:Q7v N l0 l1 = some (.inr o3)):Q1z Tryz.prog 7 [.agg #[.slice qp0 l0.length qc1,.slice qp2 qn3 qc4]] [.sli 2 QL qp0 qc1 l0,tF] [.own 38 5 QO (.slice qp2 qn3 qc4) l1] (fun v Φr Hr=>∃ (o0:Nat) (o1:Addr) (o2:Nat) (o4:Nat) (o5:Nat),v = .pointer (some ⟨o0,0,none⟩) ∧ Φr = [] ∧ Hr = [.blk o0 [.slice (some o1) o4 o2,V1,V1,.map (some o5)] 66,.own 3 1 Qh (.slice (some o1) o4 o2) o3,Q1Y (Q1h (QZ Q1Z)) false Q13 o5 ([] : List (ByteArray × Bool)),.own 38 5 QO (.slice qp2 qn3 qc4) l1]):=by
 unfold Q7v at hm
 refine Q12 Tryz.func7 Z Tryz.ntmps7 Z (S:=[_]) Z (fun C=>(Q6 (Q3 (wB Z (fun g1=>(wP Z (Q2 (Q4 (Q5 [1] (S':=[_]) Z (Q6 (Q6 (Q3 (wF Z Q4a (wD 0 1 Z Q7q Q85 Z (QQ 1 Z (fun hl5 _=>?_))))))))))))))))
 refine wN Z Q60 (Qx (d:=5) (v':=.int .i64 ((l1.length:Nat):Int)) (S':=V3 ..) Z Z (Q3F hl5) (wP Z (Qx (d:=6) (v':=.bool (decide (64 < l1.length))) (S':=V4 ..) Z Z (natgt (a:=l1.length) (b:=64)) (Q2 (Q4 (Q5 [6,1] (S':=[_,_]) Z ?_))))))
 refine Qv Z (fun hb6=>?_) (fun hb6=>?_)
 ·
  replace hm:=Q1m hm hb6
  refine Q5 [] (S':=[]) Z (Q6 (Q3 (wP Z (Q2 (Q4 (QJ (Qj ?_)))))))
  have hE:=(Zi hm).symm
  cases hE
 replace hm:=Q1l hm hb6
 refine Q5 [1] (S':=[_]) Z (Qt (Q4 (Q6 (Q3 (Q1E 0 0 Z Z Z Zq Z Z Z (cs:=[_,_]) Z Q4z Q5L Z Z (QQ 1 Z (fun hzqn3 _=>?_)))))))
 subst hzqn3
 obtain ⟨v8,hc8,hm⟩:=Q7 hm
 refine Q1y [] [0,1] [1] Z Z Z Zq Z Z fn_24 Z (Q8y N qp0 qc1 l0 qp2 qc4 l1 _ hc8) (fun F w hφ hh=>(Qe (hφ _ (Qo (k:=0) Z)) (Qe (Q1d (hh _ (Qo (k:=0) Z))) (Qe (hφ _ (Qo (k:=1) Z)) Ql)))) (fun _ _ _ hR=>by obtain ⟨_,_,_,rfl,rfl,rfl⟩:=hR; exact ⟨Z,(Q7u (Q8g Q6Z) (fun _ h=>Q1q h))⟩) Z Z (H':=[_,_]) Z ?_
 rintro _ _ _ ⟨r8_0,c8_1,c8_2,rfl,rfl,rfl⟩
 refine Q89 (Q1h (QZ Q1Z)) false Q13 Z Z Z Zq Z (fun g9=>(Q3h Z Z Z Zq Z tZ_66 tP_66 Z (out:=V4 ..) Z (wB Z (fun g11=>(wP Z (Q2 (Q4 (Q5 [2] (S':=[_]) Z (QJ ?_)))))))))
 have hE:=(Zi hm).symm
 replace hE:=Sum.inr.inj hE
 replace hE:=hE.symm
 subst hE
 refine QA (Hr:=V4 ..) [0,2,1,4] Tryz.results7 (Qy Z) ⟨g11,r8_0,c8_1,c8_2,g9,Z,Z,Z⟩ (asK [] Z) Z Z (.inl Z)
theorem Q2F (N:Nat) (qg0:Nat) (qp1:Addr) (qn2:Nat) (qc3:Nat) (l0:List Int) (qp4:OA) (qn5:Nat) (qc6:Nat) (l1:List Q1) (qp7:OA) (qn8:Nat) (qc9:Nat) (l2:List Q1) (qb10:Nat) (e3:List (ByteArray × Bool))  (hm:Q37 N l0 l1 l2 e3 = some ()):Q1z Tryz.prog 32 [.pointer (some ⟨qg0,0,none⟩)] [tF] [.blk qg0 [.slice (some qp1) qn2 qc3,.slice qp4 qn5 qc6,.slice qp7 qn8 qc9,.map (some qb10)] 66,.own 3 1 Qh (.slice (some qp1) qn2 qc3) l0,.own 45 2 Q8 (.slice qp4 qn5 qc6) l1,.own 45 2 Q8 (.slice qp7 qn8 qc9) l2,Q1Y (Q1h (QZ Q1Z)) false Q13 qb10 e3] (fun v Φr Hr=>v = .bool true ∧ Φr = [] ∧ Hr = [.blk qg0 [.slice (some qp1) qn2 qc3,.slice qp4 qn5 qc6,.slice qp7 qn8 qc9,.map (some qb10)] 66,.own 3 1 Qh (.slice (some qp1) qn2 qc3) l0,.own 45 2 Q8 (.slice qp4 qn5 qc6) l1,.own 45 2 Q8 (.slice qp7 qn8 qc9) l2,Q1Y (Q1h (QZ Q1Z)) false Q13 qb10 e3]):=by
 unfold Q37 at hm
 refine Q12 Tryz.func32 Z Tryz.ntmps32 Z (S:=[_]) Z (fun C=>(Q6 (Q3 (wP Z (Q2 (Q4 (Q5 [0] (S':=[_]) Z (Q6 (Q3 (wP Z (Q4l Z Z Z Zq Z Z Z (neqP tQ_30 _ _ _) (wP Z (wP Z (wP Z ?_))))))))))))))
 refine wF Z Q61 (wD 0 0 Z Q8G Q8F Z (wl_neqNil Z Z Z Zq Z Z Z tE_62 (Qx (d:=10) (v':=.bool true) (S':=V8 ..) Z Z Z (wP Z (wP Z (Q2 (Q4 (Q5 [2] (S':=[_]) Z (QJ ?_)))))))))
 have hE:=(Zi hm).symm
 refine QA (Hr:=V5 ..) [0,1,2,3,4] Tryz.results32 (Qy Z) ⟨Z,Z,Z⟩ (asK [] Z) Z Z (.inl Z)
theorem Q2W (N:Nat) (a0:Int) (y:OA) (z:Nat) (l1:List Int) (o0:ByteArray) (hm:Q4A N a0 l1 = some o0):Q1z Tryz.prog 42 [.agg #[.int .i64 a0,.slice y l1.length z]] [.sli 1 Qh y z l1,tF] [] (fun v Φr Hr=>v = .string o0 ∧ Φr = [] ∧ Hr = []):=by
 unfold Q4A at hm
 refine Q12 Tryz.func42 Z Tryz.ntmps42 Z (S:=[_]) Z (fun C=>(Q6 (Q3 (wB Z (fun g1=>(wP Z (Q2 (Q4 (Q5 [1] (S':=[_]) Z (Q6 (Q3 (wF Z Q22 (wD 0 0 Z Q1i Q2d Z ?_)))))))))))))
 obtain ⟨aC,hm⟩:=Qd hm
 refine wC [] [0] Z fn_95 Z (sh_Itoa a0 aC) (asK [1] Z) Z (H':=[_]) Z ?_
 rintro _ _ _ ⟨rfl,rfl,rfl⟩
 refine wP Z (Q2 (Q4 (Q5 [3,1] (S':=[_,_]) Z (Q6 ?_))))
 obtain ⟨a2,hm,hLj_1⟩:=Q7 hm
 refine Q15 (σ:=ByteArray) (fun o=>a2 = o) (fun o=>[(3,.string o)]) (fun o=>[tF]) (fun o=>[]) ?_ ?_
 refine Q6 (Q3 (wF Z Q2i (wD 0 1 Z Q1T Q2Q Z (wN Z Q1a (wP Z (Q2 (Q4 (Q5 [12,11,10,3] (S':=V4 ..) Z (Qn (Q3l [] Z (H':=[]) Z (Q1b (σ:=Nat × Nat × ByteArray) (fun (q,f,j)=>Q1B (Q8p N l1) q (f,j) = some a2) (fun (q,f,j)=>q) (fun (q,f,j)=>[(12,.int .i64 ((f:Nat):Int)),(11,.int .i64 ((l1.length:Nat):Int)),(10,.slice y l1.length z),(3,.string j)]) (fun (q,f,j)=>[.sli 1 Qh y z l1,tF]) (fun (q,f,j)=>[]) (N,0,itoaF a0) hm [12,11,10,3] Z (asK [0,1] Z) Z (fun s_ hm=>?_))))))))))))
 obtain ⟨q,f,j⟩:=s_
 try dsimp only at hm ⊢
 obtain ⟨aG,aH,a3,hq,hLu1⟩:=Q18 hm
 clear hm
 subst a3
 replace hm:=hq
 clear hq
 unfold Q8p at hm
 try dsimp only at hm
 refine Q6 (Q3 (wP Z (Qx (d:=13) (v':=.bool (decide (f < l1.length))) (S':=V4 ..) Z Z (Q20 (a:=f) (b:=l1.length)) (Q2 (Q4 (Q6 ?_))))))
 refine Qv Z (fun s=>?_) (fun s=>?_)
 replace hm:=Q1m hm s
 refine Q5 [12,11,10,3] (S':=V4 ..) Z (Qt (Q4 (Q6 (Qn (Q6 (Q3 ?_))))))
 obtain ⟨a4,a5,hm⟩:=Q7 hm
 refine Q3z 0 f Z Z Z Zq Z Z Z Z Z a5 Q1a Q1i (fun aI aJ aF aD=>(Q5m Q1D 1 Z (fun aK a6 _=>?_)))
 subst a6
 refine Q5l 0 0 Z Z Z Zq Z Z Z (cs:=[_]) Z Q1i Q2d Z Z (wP Z (Q2 (Q4 (Q5 [5,12,11,10,3] (S':=V5 ..) Z (Q3 (wP Z (wP Z ?_)))))))
 obtain ⟨a7,hm⟩:=Qd hm
 refine wC [] [] Z fn_95 Z (sh_Itoa a4 a7) (asK [3] Z) Z (H':=[]) Z ?_
 rintro _ _ _ ⟨rfl,rfl,rfl⟩
 obtain ⟨a8,hm⟩:=Qd hm
 refine Q4l Z Z Z Zq Z Z Z (run_strAdd a8) ?_
 obtain ⟨a9,hm⟩:=Qd hm
 refine Q4l Z Z Z Zq Z Z Z (run_strAdd a9) (QM (S':=V9 ..) Z Z Z Z Z (Q2 (Qi (Q4 (Q5 [3,12,11,10] (S':=V4 ..) Z (Q3 (wP Z ?_)))))))
 obtain ⟨aA,hm⟩:=Qd hm
 refine Qx (d:=21) (v':=.int .i64 ((f + 1:Nat):Int)) (S':=V4 ..) Z Z (Q1f (a:=f) (b:=1) aA) (QM (S':=V4 ..) Z Z Z Z Z (Q2 ?_))
 have hE:=(Zi hm).symm
 replace hE:=Q11 hLu1 hE
 refine Q14 (_,f + 1,(j ++ ((⟨#[32]⟩ : ByteArray) ++ (itoaF a4)))) (Nat.lt_succ_self _) hE [12,11,10,3] Z (asK [2,3] Z) Z
 replace hm:=Q1l hm s
 refine Q5 [3] (S':=[_]) Z (Q19 (Qc (Qc (Qu ?_))))
 have hE:=(Zi hm).symm
 replace hE:=QE hLu1 hE
 refine Qp j hE [3] Z (asK [1] Z) Z
 rintro o hE
 try dsimp only
 have hm:=hLj_1
 try rw [hE] at hm
 refine Q6 (Q3 (wP Z (wP Z (Q2 (Q4 (Q5 [2] (S':=[_]) Z (QJ ?_)))))))
 have hE:=(Zi hm).symm
 replace hE:=hE.symm
 subst hE
 refine QA (Hr:=[]) [] Tryz.results42 (Qy Z) ⟨Z,Z,Z⟩ (asK [] Z) Z Z (.inl Z)
theorem Q4c (N:Nat) (a0:Int) (qp0:OA) (qc1:Nat) (l1:List Int)  (hm:Q5a N a0 l1 = some ()):Q1z Tryz.prog 33 [.agg #[.int .i64 a0,.slice qp0 l1.length qc1]] [.sli 1 Qh qp0 qc1 l1,tF] [] (fun v Φr Hr=>∃ (o0:OA) (o1:Nat),v = .agg #[.int .i64 a0,.slice o0 l1.length o1] ∧ Φr = [] ∧ Hr = [.own 3 1 Qh (.slice o0 l1.length o1) l1]):=by
 unfold Q5a at hm
 refine Q12 Tryz.func33 Z Tryz.ntmps33 Z (S:=[_]) Z (fun C=>(Q6 (Q3 (wB Z (fun g1=>(Q1s Z Z Z Zq Z Q1X Z (fun g2=>(Q2 (Q4 (Q5 [2,1] (S':=[_,_]) Z (Q6 (Q3 (wF Z Q2i (wD 1 1 Z Q1T Q2Q Z ?_))))))))))))))
 obtain ⟨hg5,hm⟩:=Qd hm
 refine wC [] [0,1] Z fn_53 Z (Clone53f_s qp0 qc1 l1 hg5) (asK [0] Z) Z (H':=[_,_]) Z ?_
 rintro _ _ _ ⟨p5,c5,rfl,rfl,rfl⟩
 refine wF Z Q2i (wS 2 1 Z Q1T (all':=[_,_]) Z (H':=V3 ..) Z (Q2 (Q4 (Q5 [2,1] (S':=[_,_]) Z (Q6 (Q3 (Q1E 2 0 Z Z Z Zq Z Z Z (cs:=[_,_]) Z Qg QT Z Z (wS 1 0 Z Qg (all':=[_,_]) Z (H':=V3 ..) Z (Q2 (Q4 (Q5 [2] (S':=[_]) Z (QJ ?_))))))))))))
 have hE:=(Zi hm).symm
 refine QA (Hr:=[_]) [0] Tryz.results33 (Q4Q 1 Z Z Qg QT Z Z) ⟨p5,c5,Z,Z,Z⟩ (asK [] Z) Z Z (.inl Z)
theorem w_bits_Len64_s (N:Nat) (a0:Int) (o0:Int) (hm:Qab N a0 = some o0):Q1z Tryz.prog 157 [.int .u64 a0] [tF] [] (fun v Φr Hr=>v = .int .i64 o0 ∧ Φr = [] ∧ Hr = []):=by
 unfold Qab at hm
 refine Q12 Tryz.func157 Z Tryz.ntmps157 Z (S:=[_]) Z (fun C=>(Q6 (Q3 (wP Z (Q2 (Q4 (Q6 ?_)))))))
 obtain ⟨a3,hm,hLj_1⟩:=Q7 hm
 refine Q15 (σ:=Int × Nat) (fun (o,f)=>a3 = (o,f)) (fun (o,f)=>[(0,.int .u64 o),(2,.int .i64 ((f:Nat):Int))]) (fun (o,f)=>[tF]) (fun (o,f)=>[]) ?_ ?_
 refine Q6 (Q3 (wP Z (wP Z (Q2 (Q4 (Q5 [4,2,0] (S':=V3 ..) Z ?_))))))
 refine Qv Z (fun a1=>?_) (fun a1=>?_)
 replace hm:=Q1m hm a1
 refine Q5 [0] (S':=[_]) Z (Q6 (Q3 (wP Z (Q4l Z Z Z Zq Z Z Z (run_shr (by decide)) (QM (S':=[_,_]) Z Z Z Z Z (Q2 (Q4 (Q5 [0] (S':=[_]) Z (Q3 (wP Z (Q2 ?_)))))))))))
 have hE:=(Zi hm).symm
 refine Qp (Int.fdiv a0 (2 ^ (32)),32) hE [0,2] Z (asK [0] Z) Z
 replace hm:=Q1l hm a1
 refine Q5 [2,0] (S':=[_,_]) Z (Qt ?_)
 have hE:=(Zi hm).symm
 refine Qp (a0,0) hE [0,2] Z (asK [0] Z) Z
 rintro ⟨o,f⟩ hE
 try dsimp only
 have hm:=hLj_1
 try rw [hE] at hm
 try dsimp only at hm
 refine Q6 ?_
 obtain ⟨a4,hm,hLj_2⟩:=Q7 hm
 refine Q15 (σ:=Int × Nat) (fun (q,j)=>a4 = (q,j)) (fun (q,j)=>[(0,.int .u64 q),(2,.int .i64 ((j:Nat):Int))]) (fun (q,j)=>[tF]) (fun (q,j)=>[]) ?_ ?_
 refine Q6 (Q3 (wP Z (wP Z (Q2 (Q4 (Q5 [8,0,2] (S':=V3 ..) Z ?_))))))
 refine Qv Z (fun a2=>?_) (fun a2=>?_)
 replace hm:=Q1m hm a2
 refine Q5 [0,2] (S':=[_,_]) Z (Q6 (Q3 (wP Z (Q4l Z Z Z Zq Z Z Z (run_shr (by decide)) (QM (S':=V3 ..) Z Z Z Z Z (Q2 (Q4 (Q5 [0,2] (S':=[_,_]) Z (Q3 (wP Z (wP Z ?_)))))))))))
 obtain ⟨a5,hm⟩:=Qd hm
 refine Qx (d:=12) (v':=.int .i64 ((f + 16:Nat):Int)) (S':=V3 ..) Z Z (Q1f (a:=f) (b:=16) a5) (QM (S':=V3 ..) Z Z Z Z Z (Q2 ?_))
 have hE:=(Zi hm).symm
 refine Qp (Int.fdiv o (2 ^ (16)),f + 16) hE [0,2] Z (asK [0] Z) Z
 replace hm:=Q1l hm a2
 refine Q5 [0,2] (S':=[_,_]) Z (Qt ?_)
 have hE:=(Zi hm).symm
 refine Qp (o,f) hE [0,2] Z (asK [0] Z) Z
 rintro ⟨q,j⟩ hE
 try dsimp only
 have hm:=hLj_2
 try rw [hE] at hm
 try dsimp only at hm
 refine Q6 ?_
 obtain ⟨a6,hm,hLj_3⟩:=Q7 hm
 refine Q15 (σ:=Int × Nat) (fun (s,y)=>a6 = (s,y)) (fun (s,y)=>[(0,.int .u64 s),(2,.int .i64 ((y:Nat):Int))]) (fun (s,y)=>[tF]) (fun (s,y)=>[]) ?_ ?_
 refine Q6 (Q3 (wP Z (wP Z (Q2 (Q4 (Q5 [14,0,2] (S':=V3 ..) Z ?_))))))
 refine Qv Z (fun z=>?_) (fun z=>?_)
 replace hm:=Q1m hm z
 refine Q5 [0,2] (S':=[_,_]) Z (Q6 (Q3 (wP Z (Q4l Z Z Z Zq Z Z Z (run_shr (by decide)) (QM (S':=V3 ..) Z Z Z Z Z (Q2 (Q4 (Q5 [0,2] (S':=[_,_]) Z (Q3 (wP Z (wP Z ?_)))))))))))
 obtain ⟨a7,hm⟩:=Qd hm
 refine Qx (d:=18) (v':=.int .i64 ((j + 8:Nat):Int)) (S':=V3 ..) Z Z (Q1f (a:=j) (b:=8) a7) (QM (S':=V3 ..) Z Z Z Z Z (Q2 ?_))
 have hE:=(Zi hm).symm
 refine Qp (Int.fdiv q (2 ^ (8)),j + 8) hE [0,2] Z (asK [0] Z) Z
 replace hm:=Q1l hm z
 refine Q5 [0,2] (S':=[_,_]) Z (Qt ?_)
 have hE:=(Zi hm).symm
 refine Qp (q,j) hE [0,2] Z (asK [0] Z) Z
 rintro ⟨s,y⟩ hE
 try dsimp only
 have hm:=hLj_3
 try rw [hE] at hm
 try dsimp only at hm
 refine Q6 (Q3 (wP Z (wP Z (Qao Z Z Z Zq (rk_conv Z Z tI_163 tI_5) ?_))))
 obtain ⟨a8,hm⟩:=Qd hm
 obtain ⟨aC,a9,hm⟩:=Q7 hm
 refine Qao Z Z Z Zq (rk_strAt ((IntKind.wrap .u8 s).toNat) Z Z Z (QK a8) a9 Q1Z) (Qao Z Z Z Zq (rk_conv Z Z tI_5 tI_3) (wP Z ?_))
 obtain ⟨aA,hm⟩:=Qd hm
 refine Qx (d:=24) (v':=.int .i64 (((y:Nat):Int) + (IntKind.wrap .i64 ((aC.toNat:Nat):Int)))) (S':=V7 ..) Z Z (i64_in aA) (QM (S':=V7 ..) Z Z Z Z Z (Q2 (Q4 (Q5 [2] (S':=[_]) Z (QJ ?_)))))
 have hE:=(Zi hm).symm
 replace hE:=hE.symm
 subst hE
 refine QA (Hr:=[]) [] Tryz.results157 (Qy Z) ⟨Z,Z,Z⟩ (asK [] Z) Z Z (.inl Z)
theorem w_bits_Len_s (N:Nat) (a0:Int) (o0:Int) (hm:Qaa N a0 = some o0):Q1z Tryz.prog 97 [.int .u64 a0] [tF] [] (fun v Φr Hr=>v = .int .i64 o0 ∧ Φr = [] ∧ Hr = []):=by
 unfold Qaa at hm
 refine Q12 Tryz.func97 Z Tryz.ntmps97 Z (S:=[_]) Z (fun C=>(Q6 (Q3 (wP Z (Q2 (Q4 (Q5 [0] (S':=[_]) Z (Q6 (Q2X Z (Qt (Q4 (Q6 (Q3 (wP Z ?_))))))))))))))
 obtain ⟨v7,hc7,hm⟩:=Q7 hm
 refine wC [] [] Z fn_157 Z (w_bits_Len64_s N a0 _ hc7) (asK [0] Z) Z (H':=[]) Z ?_
 rintro _ _ _ ⟨rfl,rfl,rfl⟩
 refine wP Z (Q2 (Q4 (Q5 [2] (S':=[_]) Z (QJ ?_))))
 have hE:=(Zi hm).symm
 replace hE:=hE.symm
 subst hE
 refine QA (Hr:=[]) [] Tryz.results97 (Qy Z) ⟨Z,Z,Z⟩ (asK [] Z) Z Z (.inl Z)
theorem QW (N:Nat) (y:Addr) (aA:Nat) (z:Nat) (l0:List Int) (a1:Int) (a0:OA) (a2:Nat) (l2:List Int) (a3:Int) (a4:OA) (a5:Nat) (l4:List Int) (o0:Int) (hm:Q1k N l0 a1 l2 a3 l4 = some o0):Q1z Tryz.prog 41 [.slice (some y) aA z,.agg #[.int .i64 a1,.slice a0 l2.length a2],.agg #[.int .i64 a3,.slice a4 l4.length a5]] [.sli 1 Qh a0 a2 l2,.sli 1 Qh a4 a5 l4,tF] [.own 3 1 Qh (.slice (some y) aA z) l0] (fun v Φr Hr=>v = .int .i64 o0 ∧ Φr = [] ∧ Hr = [.own 3 1 Qh (.slice (some y) aA z) l0]):=by
 unfold Q1k at hm
 refine Q12 Tryz.func41 Z Tryz.ntmps41 Z (S:=V3 ..) Z (fun C=>(Q6 (Q3 (wB Z (fun g4=>(wB Z (fun g5=>(wP Z (Q2 (Q4 (Q5 [5,4,0] (S':=V3 ..) Z (Q6 ?_))))))))))))
 obtain ⟨v9,aS,hm⟩:=Q7 hm
 obtain ⟨aT,aG,hm⟩:=Q7 hm
 obtain ⟨aB,aH,hm⟩:=Q7 hm
 obtain ⟨a7,aI,hm⟩:=Q7 hm
 obtain ⟨a8,aJ,hm⟩:=Q7 hm
 obtain ⟨a9,aK,hm⟩:=Q7 hm
 obtain ⟨a6,aL,hm⟩:=Q7 hm
 obtain ⟨s,aM,hm⟩:=Q7 hm
 obtain ⟨aX,aN,hm⟩:=Q7 hm
 refine QV [0,1,3,4,7,8,10,11,14,15,16,17,19,20,21,22] Z Z (fun hok=>(xP hok 0 Z (Qr hok 1 0 0 Z Z Z Zq Z Z Z Z (cs:=[_,_]) Z Qg QT Z Z (xP hok 3 Z (Qr hok 4 1 0 Z Z Z Zq Z Z Z Z (cs:=[_,_]) Z Qg QT Z Z (Qm hok 7 Z Z Z Zq Z Z Z Q2i (Qr hok 8 0 1 Z Z Z Zq Z Z Z Z (cs:=[_]) Z Q1T Q2Q Z Z (Qm hok 10 Z Z Z Zq Z Z Z Q2i (Qr hok 11 1 1 Z Z Z Zq Z Z Z Z (cs:=[_]) Z Q1T Q2Q Z Z (Qm hok 14 Z Z Z Zq Z Z Z Q22 (Qr hok 15 1 0 Z Z Z Zq Z Z Z Z (cs:=[_]) Z Q1i Q2d Z Z (Qm hok 16 Z Z Z Zq Z Z Z Q22 (Qr hok 17 0 0 Z Z Z Zq Z Z Z Z (cs:=[_]) Z Q1i Q2d Z Z (Qm hok 19 Z Z Z Zq Z Z Z Q2i ?_))))))))))))))
 refine Qr hok 20 1 1 Z Z Z Zq Z Z Z Z (cs:=[_]) Z Q1T Q2Q Z Z (Qm hok 21 Z Z Z Zq Z Z Z Q2i (Qr hok 22 0 1 Z Z Z Zq Z Z Z Z (cs:=[_]) Z Q1T Q2Q Z Z (xS hok 2 Z (QQ 2 Z (fun aC _=>?_)))))
 subst aC
 refine Q1y [] [0,1,2] [2] Z Z Z Zq Z Z fn_92 Z (Q4g N (some y) z l0 a3 a4 a5 l4 _ aS) (fun F w hφ hh=>(Qe (Q1d (hh _ (Qo (k:=0) Z))) (Qe (hφ _ (Qo (k:=1) Z)) (Qe (hφ _ (Qo (k:=2) Z)) Ql)))) (fun _ _ _ hR=>by obtain ⟨rfl,rfl,rfl⟩:=hR; exact ⟨Z,(fun _ h=>Q1q h)⟩) Z Z (H':=V3 ..) Z ?_
 rintro _ _ _ ⟨rfl,rfl,rfl⟩
 refine Q2 (Qs [0,1,2] [0,1,0,1,1,0,1] Z Z (xS hok 5 Z (Q1y [] [0,1,2] [2] Z Z Z Zq Z Z fn_92 Z (Q4g N (some y) z l0 a1 a0 a2 l2 _ aG) (fun F w hφ hh=>(Qe (Q1d (hh _ (Qo (k:=0) Z))) (Qe (hφ _ (Qo (k:=0) Z)) (Qe (hφ _ (Qo (k:=2) Z)) Ql)))) (fun _ _ _ hR=>by obtain ⟨rfl,rfl,rfl⟩:=hR; exact ⟨Z,(fun _ h=>Q1q h)⟩) Z Z (H':=V3 ..) Z ?_)))
 rintro _ _ _ ⟨rfl,rfl,rfl⟩
 refine Q2 (Qs [0,1,2] [0,1,0,1,1,0,0] Z Z (xS hok 6 Z (wC [] [0,1,2] Z fn_91 Z (Q2B N v9 aT _ aH) (asK [] Z) Z (H':=V3 ..) Z ?_)))
 rintro _ _ _ ⟨rfl,rfl,rfl⟩
 refine Q2 (Qs [0,1,2] [0,1,0,1,1,0,1,0] Z Z (xS hok 9 Z (wC [] [0,1,2] Z fn_94 Z (Q4w N a4 a5 l4 _ aI) (asK [1,2] Z) Z (H':=V3 ..) Z ?_)))
 rintro _ _ _ ⟨f,j,rfl,rfl,rfl⟩
 refine Q2 (Qs [0,1,2] [1,2,1,2,2,2,1] Z Z (xS hok 12 Z (wC [] [0,1,2,3] Z fn_94 Z (Q4w N a0 a2 l2 _ aJ) (asK [0,2] Z) Z (H':=V4 ..) Z ?_)))
 rintro _ _ _ ⟨o,q,rfl,rfl,rfl⟩
 refine Q2 (Qs [0,1,2] [2,3,2,3,2,3,2] Z Z (xS hok 13 Z (QQ 1 Z (fun aO _=>(Q23 1 (v':=.slice f a7.length j) Z (by first | rfl | (rw [aO]; done) | simp) (Q1r 1 (φ':=.own 3 1 Qh (.slice f a7.length j) a7) Z (by first | rfl | (rw [aO]; done) | simp) (H':=V5 ..) Z (QQ 0 Z (fun aP _=>(Q23 0 (v':=.slice o a8.length q) Z (by first | rfl | (rw [aP]; done) | simp) (Q1r 0 (φ':=.own 3 1 Qh (.slice o a8.length q) a8) Z (by first | rfl | (rw [aP]; done) | simp) (H':=V5 ..) Z (Q1y [] [0,1,2,3,4] [1,0] Z Z Z Zq Z Z fn_93 Z (Q4e N f j a7 o q a8 _ aK) (fun F w hφ hh=>(Qe (Q1d (hh _ (Qo (k:=0) Z))) (Qe (Q1d (hh _ (Qo (k:=1) Z))) (Qe (hφ _ (Qo (k:=2) Z)) Ql)))) (fun _ _ _ hR=>by obtain ⟨rfl,rfl,rfl⟩:=hR; exact ⟨Z,(fun _ h=>Q1q h)⟩) Z Z (H':=V5 ..) Z ?_)))))))))))
 rintro _ _ _ ⟨rfl,rfl,rfl⟩
 refine Q2 (Qs [0,1,2] [2,3,2,3,3,2,3,2] Z Z (xS hok 18 Z (wC [] [0,1,2,3,4] Z fn_91 Z (Q2B N a1 a3 _ aL) (asK [] Z) Z (H':=V5 ..) Z ?_)))
 rintro _ _ _ ⟨rfl,rfl,rfl⟩
 refine Q2 (Qs [0,1,2] [2,3,3,2,3,2] Z Z (xS hok 23 Z (wC [] [0,1,2,3,4] Z fn_93 Z (Q4e N a0 a2 l2 a4 a5 l4 _ aM) (asK [0,1,2] Z) Z (H':=V5 ..) Z ?_)))
 rintro _ _ _ ⟨rfl,rfl,rfl⟩
 refine Q2 (Qs [0,1,2] [2,3,3,2,3,2] Z Z (xS hok 24 Z (Qq Z Z Z Zq Z Q1a Q1i Q3S Z (zs:=[.int .i64 0,.int .i64 0,.int .i64 0,.int .i64 0]) (by kernel_rfl) Z (out:=V4 ..) Z (fun aU=>(Q2 (Qs [0,1,2] [3,4,3,4,4,3,4,3] Z Z (xS hok 25 Z (Q1U (sz:=1) (m:=4) Qh ([aB,a9,a6,s]) 0 Z (fun F w hφ=>⟨[.int .i64 aB],[.int .i64 a9,.int .i64 a6,.int .i64 s],Z,Z,⟨(),Z,Ql⟩,⟨[.int .i64 a9],[.int .i64 a6,.int .i64 s],Z,Z,⟨(),Z,Ql⟩,⟨[.int .i64 a6],[.int .i64 s],Z,Z,⟨(),Z,Ql⟩,⟨[.int .i64 s],[],Z,Z,⟨(),Z,Ql⟩,Z⟩⟩⟩⟩) Z (by decide) (H':=V6 ..) Z (Q1y [] [0,1,2,3,4,5] [0] Z Z Z Zq Z Z fn_90 Z (Q9l N (some ⟨aU,0,none⟩) 4 [aB,a9,a6,s] _ aN) (fun F w hφ hh=>(Qe (Q1d (hh _ (Qo (k:=0) Z))) (Qe (hφ _ (Qo (k:=2) Z)) Ql))) (fun _ _ _ hR=>by obtain ⟨rfl,rfl,rfl⟩:=hR; exact ⟨Z,(fun _ h=>Q1q h)⟩) Z Z (H':=V6 ..) Z ?_)))))))))
 rintro _ _ _ ⟨rfl,rfl,rfl⟩
 refine Q2 (Qs [0,1,2] [3,4,3,4,4,3,4,3] Z Z (xS hok 26 Z (wP Z (Q2 (Qs [0,1,2] [] Z Z (QI hok Z (Q4 (Q5 [6] (S':=[_]) Z (QJ ?_)))))))))
 have hE:=(Zi hm).symm
 replace hE:=hE.symm
 subst hE
 refine QA (Hr:=[_]) [5] Tryz.results41 (Qy Z) ⟨Z,Z,Z⟩ (asK [] Z) Z Z (.inl Z)
theorem Q4y (N:Nat) (a5:OA) (a6:Nat) (l0:List Q1) (a1:Int) (a2:Int) (a4:Nat) (a3:Int) (f:Addr) (j:Nat) (o:Nat) (l4:List Int) (o0:Int) (o1:Int) (o2:Int) (hm:Q2V N l0 a1 a2 a3 l4 = some (o0,o1,o2)):Q1z Tryz.prog 192 [.slice a5 l0.length a6,.int .i64 a1,.int .i64 a2,.pointer (some ⟨a4,0,none⟩),.func (.func 41) #[.slice (some f) j o] #[]] [.sli 2 Q8 a5 a6 l0,tF] [.blk a4 [.int .i64 a3] 3,.own 3 1 Qh (.slice (some f) j o) l4] (fun v Φr Hr=>v = .tuple #[.int .i64 o0,.int .i64 o1] ∧ Φr = [] ∧ Hr = [.blk a4 [.int .i64 o2] 3,.own 3 1 Qh (.slice (some f) j o) l4]):=by
 unfold Q2V at hm
 refine Q12 Tryz.func192 Z Tryz.ntmps192 Z (S:=V5 ..) Z (fun C=>(Q6 (Q3 (wP Z (wP Z (Q2 (Q4 (Q5 [0,1,2,3,4] (S':=V5 ..) Z (Q6 (Q6 ?_))))))))))
 obtain ⟨a7,hm⟩:=Qd hm
 obtain ⟨s,a8,hm⟩:=Q7 hm
 obtain ⟨a9,hm⟩:=Qd hm
 obtain ⟨y,aA,hm⟩:=Q7 hm
 obtain ⟨aR,aB,hm⟩:=Q7 hm
 refine QV [0,1,2,3,4,5,6,7,8,10] Z Z (fun hok=>(xP hok 0 Z (xP hok 1 Z (xP hok 2 Z (Q1o hok 3 0 a2.toNat Z Z Z Zq Z Z Z Z Z (QK a7) a8 QG Qg (fun aS aT aP aK=>(Q1u Qb 1 Z (fun z aC _=>?_))))))))
 subst aC
 refine Q1I hok 4 1 0 Z Z Z Zq Z Z Z Z (cs:=[_,_]) Z Qg QT Z Z (xP hok 5 Z (xP hok 6 Z (Q1o hok 7 3 a1.toNat Z Z Z Zq Z Z Z Z Z (QK a9) aA QG Qg (fun aU aV aQ aL=>(Q1u Qb 1 Z (fun a0 aD _=>?_))))))
 subst aD
 refine Q1I hok 8 1 0 Z Z Z Zq Z Z Z Z (cs:=[_,_]) Z Qg QT Z Z (xS hok 9 Z (Q1Q (args:=[.slice (some f) j o,.agg #[.int .i64 (s.rule),.slice z.1 s.ids.length z.2],.agg #[.int .i64 (y.rule),.slice a0.1 y.ids.length a0.2]]) [1] [0] Z Z Z Zq Z Z Z Q5o Z Z (QW N f j o l4 s.rule z.1 z.2 s.ids y.rule a0.1 a0.2 y.ids _ aB) (asK [3,0,7] Z) Z (H':=[_]) Z ?_))
 rintro _ _ _ ⟨rfl,rfl,rfl⟩
 refine Q2 (Qs [0,1,2,3,4,5,6,7] [] Z Z (xP hok 10 Z (QI hok Z (Q4 (Q5 [22,1,2,3] (S':=V4 ..) Z ?_)))))
 refine Qv Z (fun q=>?_) (fun q=>?_)
 replace hm:=Q1m hm q
 refine Q5 [1,2,3] (S':=V3 ..) Z (Q6 (Q3 (wP Z (wP Z (wD 1 0 Z Q1i Q2d Z (wP Z ?_))))))
 obtain ⟨aE,hm⟩:=Qd hm
 refine Qx (d:=26) (v':=.int .i64 (a3 + 1)) (S':=V6 ..) Z Z (i64_in aE) (wP Z (wS 1 0 Z Q1i (all':=[_]) Z (H':=[_,_]) Z (Q2 (Q4 (Q5 [1,2] (S':=[_,_]) Z (Q6 (Q3 (wP Z (wP Z (wP Z (wP Z (Q2 (Q4 ?_)))))))))))))
 refine Q5 [11,10] (S':=[_,_]) Z (QJ (Qj ?_))
 have hE:=(Zi hm).symm
 obtain ⟨hE0,hF1⟩:=Prod.mk.inj hE
 obtain ⟨hE1,hE2⟩:=Prod.mk.inj hF1
 clear hE hF1
 replace hE0:=hE0.symm
 subst hE0
 replace hE1:=hE1.symm
 subst hE1
 replace hE2:=hE2.symm
 subst hE2
 refine Q7w (Hr:=[_,_]) [1,0] Tryz.results192 (Qy Z) (Qy Z) ⟨Z,Z,Z⟩ (asK [] Z) Z Z (.inl Z)
 replace hm:=Q1l hm q
 refine Q5 [1,2] (S':=[_,_]) Z (Qt (Q4 (Q6 (Q3 (wP Z (wP Z (wP Z (wP Z (Q2 (Q4 (Q5 [11,10] (S':=[_,_]) Z (QJ ?_))))))))))))
 have hE:=(Zi hm).symm
 obtain ⟨hE0,hF1⟩:=Prod.mk.inj hE
 obtain ⟨hE1,hE2⟩:=Prod.mk.inj hF1
 clear hE hF1
 replace hE0:=hE0.symm
 subst hE0
 replace hE1:=hE1.symm
 subst hE1
 replace hE2:=hE2.symm
 subst hE2
 refine Q7w (Hr:=[_,_]) [1,0] Tryz.results192 (Qy Z) (Qy Z) ⟨Z,Z,Z⟩ (asK [] Z) Z Z (.inl Z)
theorem Q6A (N:Nat) (s:OA) (y:Nat) (l0:List Q1) (a1:Int) (a2:Int) (a3:Int) (f:Nat) (a4:Int) (j:Addr) (o:Nat) (q:Nat) (l5:List Int) (o0:Int) (o1:Int) (hm:Q3O N l0 a1 a2 a3 a4 l5 = some (o0,o1)):Q1z Tryz.prog 177 [.slice s l0.length y,.int .i64 a1,.int .i64 a2,.int .i64 a3,.pointer (some ⟨f,0,none⟩),.func (.func 41) #[.slice (some j) o q] #[]] [.sli 2 Q8 s y l0,tF] [.blk f [.int .i64 a4] 3,.own 3 1 Qh (.slice (some j) o q) l5] (fun v Φr Hr=>v = .int .i64 o0 ∧ Φr = [] ∧ Hr = [.blk f [.int .i64 o1] 3,.own 3 1 Qh (.slice (some j) o q) l5]):=by
 unfold Q3O at hm
 refine Q12 Tryz.func177 Z Tryz.ntmps177 Z (S:=V6 ..) Z (fun C=>(Q6 (Q3 (wP Z (Q2 (Q4 (Q5 [0,1,2,3,4,5] (S':=V6 ..) Z (Q6 (Q3 (wP Z (wP Z (wP Z (wP Z (wP Z ?_))))))))))))))
 obtain ⟨⟨z,a0,a5⟩,aA,hm⟩:=Q7 hm
 try dsimp only at hm
 refine wC [0,1] [] Z fn_192 Z (Q4y N s y l0 a1 a2 f a4 j o q l5 _ _ _ aA) (asK [0,1] Z) Z (H':=[]) Z ?_
 rintro _ _ _ ⟨rfl,rfl,rfl⟩
 refine wP Z (wP Z (wP Z (QM (S':=V14 ..) Z Z Z Z Z (QM (S':=V14 ..) Z Z Z Z Z (Q2 (Q4 (Q5 [2,1,0,3,4,5] (S':=V6 ..) Z (Q6 (Q3 (wP Z (wP Z (wP Z (wP Z ?_)))))))))))))
 refine wP Z ?_
 obtain ⟨⟨a6,aH,a7⟩,aB,hm⟩:=Q7 hm
 try dsimp only at hm
 refine wC [0,1] [] Z fn_192 Z (Q4y N s y l0 a0 a3 f a5 j o q l5 _ _ _ aB) (asK [0,1] Z) Z (H':=[]) Z ?_
 rintro _ _ _ ⟨rfl,rfl,rfl⟩
 refine wP Z (wP Z (wP Z (QM (S':=V14 ..) Z Z Z Z Z (QM (S':=V14 ..) Z Z Z Z Z (Q2 (Q4 (Q5 [2,1,0,4,5] (S':=V5 ..) Z (Q6 (Q3 (wP Z (wP Z (wP Z (wP Z ?_)))))))))))))
 refine wP Z ?_
 obtain ⟨⟨aI,aJ,aK⟩,aC,hm⟩:=Q7 hm
 try dsimp only at hm
 refine wC [0,1] [] Z fn_192 Z (Q4y N s y l0 z a6 f a7 j o q l5 _ _ _ aC) (asK [0,1] Z) Z (H':=[]) Z ?_
 rintro _ _ _ ⟨rfl,rfl,rfl⟩
 refine wP Z (wP Z (wP Z (QM (S':=V13 ..) Z Z Z Z Z (QM (S':=V13 ..) Z Z Z Z Z (Q2 (Q4 (Q5 [2] (S':=[_]) Z (Q6 (Q3 (wP Z (wP Z (Q2 (Q4 ?_)))))))))))))
 refine Q5 [12] (S':=[_]) Z (QJ ?_)
 have hE:=(Zi hm).symm
 obtain ⟨hE0,hE1⟩:=Prod.mk.inj hE
 clear hE
 replace hE0:=hE0.symm
 subst hE0
 replace hE1:=hE1.symm
 subst hE1
 refine QA (Hr:=[_,_]) [0,1] Tryz.results177 (Qy Z) ⟨Z,Z,Z⟩ (asK [] Z) Z Z (.inl Z)
theorem Q3q (N:Nat) (qp0:OA) (qc1:Nat) (l0:List Q1) (a1:Int) (qg2:Nat) (a2:Int) (qp3:Addr) (qn4:Nat) (qc5:Nat) (l3:List Int) (o0:Int) (o1:Int) (hm:Q27 N l0 a1 a2 l3 = some (o0,o1)):Q1z Tryz.prog 176 [.slice qp0 l0.length qc1,.int .i64 a1,.pointer (some ⟨qg2,0,none⟩),.func (.func 41) #[.slice (some qp3) qn4 qc5] #[]] [.sli 2 Q8 qp0 qc1 l0,tF] [.blk qg2 [.int .i64 a2] 3,.own 3 1 Qh (.slice (some qp3) qn4 qc5) l3] (fun v Φr Hr=>v = .int .i64 o0 ∧ Φr = [] ∧ Hr = [.blk qg2 [.int .i64 o1] 3,.own 3 1 Qh (.slice (some qp3) qn4 qc5) l3]):=by
 unfold Q27 at hm
 refine Q12 Tryz.func176 Z Tryz.ntmps176 Z (S:=V4 ..) Z (fun C=>(Q6 (Q3 (wP Z (Q2 (Q4 (Q5 [0,1,2,3] (S':=V4 ..) Z (Q6 (Q3 (wP Z (wP Z (wP Z ?_))))))))))))
 obtain ⟨hg11,hm⟩:=Qd hm
 refine Qx (d:=11) (v':=.int .i64 (a1 - 1)) (S':=V6 ..) Z Z (i64_in hg11) (wP Z (wP Z (wP Z ?_)))
 obtain ⟨hg14,hm⟩:=Qd hm
 refine Qx (d:=14) (v':=.int .i64 (a1 + 1)) (S':=V9 ..) Z Z (i64_in hg14) (wP Z (wP Z ?_))
 obtain ⟨⟨v17_0,v17_1⟩,hc17,hm⟩:=Q7 hm
 try dsimp only at hm
 refine wC [0,1] [] Z fn_177 Z (Q6A N qp0 qc1 l0 (a1 - 1) a1 (a1 + 1) qg2 a2 qp3 qn4 qc5 l3 _ _ hc17) (asK [0,1] Z) Z (H':=[]) Z ?_
 rintro _ _ _ ⟨rfl,rfl,rfl⟩
 refine wP Z (Q2 (Q4 (Q5 [8] (S':=[_]) Z (QJ ?_))))
 have hE:=(Zi hm).symm
 obtain ⟨hE0,hE1⟩:=Prod.mk.inj hE
 clear hE
 replace hE0:=hE0.symm
 subst hE0
 replace hE1:=hE1.symm
 subst hE1
 refine QA (Hr:=[_,_]) [0,1] Tryz.results176 (Qy Z) ⟨Z,Z,Z⟩ (asK [] Z) Z Z (.inl Z)
theorem Q7W (N:Nat) (a5:OA) (a6:Nat) (l0:List Q1) (z:Int) (a2:Int) (a0:Addr) (a3:Nat) (a4:Nat) (l3:List Int) (o0:Int) (o1:Nat) (hm:Q3X N l0 z a2 l3 = some (o0,o1)):Q1z Tryz.prog 151 [.slice a5 l0.length a6,.int .i64 z,.int .i64 a2,.func (.func 41) #[.slice (some a0) a3 a4] #[]] [.sli 2 Q8 a5 a6 l0,tF] [.own 3 1 Qh (.slice (some a0) a3 a4) l3] (fun v Φr Hr=>v = .tuple #[.int .i64 o0,.int .i64 ((o1:Nat):Int)] ∧ Φr = [] ∧ Hr = [.own 3 1 Qh (.slice (some a0) a3 a4) l3]):=by
 unfold Q3X at hm
 refine Q12 Tryz.func151 Z Tryz.ntmps151 Z (S:=V4 ..) Z (fun C=>(Q6 (Q3 (wP Z (wP Z (Q2 (Q4 (Q5 [0,1,2,3] (S':=V4 ..) Z (Q6 (Q3 (wP Z (wP Z (wP Z ?_)))))))))))))
 obtain ⟨aN,hm⟩:=Qd hm
 refine Qx (d:=17) (v':=.int .i64 (a2 - z)) (S':=V6 ..) Z Z (i64_in aN) (wP Z (Q2 (Q4 (Q5 [10,0,1,3] (S':=V4 ..) Z (Q6 (Q3 (Q1s Z Z Z Zq Z Q3S Z (fun a7=>(Q2 (Q4 (Q6 (Q3 (wP Z (wP Z ?_))))))))))))))
 refine Q4l Z Z Z Zq Z Z Z (Q95 (by decide)) (wP Z ?_)
 obtain ⟨aO,hm⟩:=Qd hm
 refine Qx (d:=21) (v':=.int .i64 ((IntKind.wrap .i64 (Int.tdiv (a2 - z) 4)) * 1)) (S':=V8 ..) Z Z (i64_in aO) (wP Z ?_)
 obtain ⟨aP,hm⟩:=Qd hm
 refine Qx (d:=22) (v':=.int .i64 (z + ((IntKind.wrap .i64 (Int.tdiv (a2 - z) 4)) * 1))) (S':=V9 ..) Z Z (i64_in aP) (wP Z (Q2 (Q4 (Q5 [12,11,10,0,1,3] (S':=V6 ..) Z (Q6 (Q3 (wP Z (wP Z (Q4l Z Z Z Zq Z Z Z (Q95 (by decide)) (wP Z ?_))))))))))
 obtain ⟨aQ,hm⟩:=Qd hm
 refine Qx (d:=26) (v':=.int .i64 ((IntKind.wrap .i64 (Int.tdiv (a2 - z) 4)) * 2)) (S':=V9 ..) Z Z (i64_in aQ) (wP Z ?_)
 obtain ⟨aR,hm⟩:=Qd hm
 refine Qx (d:=27) (v':=.int .i64 (z + ((IntKind.wrap .i64 (Int.tdiv (a2 - z) 4)) * 2))) (S':=V10 ..) Z Z (i64_in aR) (wP Z (Q2 (Q4 (Q5 [13,12,11,10,0,1,3] (S':=V7 ..) Z (Q6 (Q3 (wP Z (wP Z (Q4l Z Z Z Zq Z Z Z (Q95 (by decide)) (wP Z ?_))))))))))
 obtain ⟨aS,hm⟩:=Qd hm
 refine Qx (d:=31) (v':=.int .i64 ((IntKind.wrap .i64 (Int.tdiv (a2 - z) 4)) * 3)) (S':=V10 ..) Z Z (i64_in aS) (wP Z ?_)
 obtain ⟨aT,hm⟩:=Qd hm
 refine Qx (d:=32) (v':=.int .i64 (z + ((IntKind.wrap .i64 (Int.tdiv (a2 - z) 4)) * 3))) (S':=V11 ..) Z Z (i64_in aT) (wP Z (Q2 (Q4 (Q5 [14,13,12,11,10,0,3] (S':=V7 ..) Z (Q6 ?_)))))
 obtain ⟨aU,hm,hLj_1⟩:=Q7 hm
 unfold Q56 at hm
 refine Q15 (σ:=Int × Int) (fun (y,j)=>aU = (y,j)) (fun (y,j)=>[(13,.int .i64 y),(11,.pointer (some ⟨a7,0,none⟩))]) (fun (y,j)=>[tF]) (fun (y,j)=>[.blk a7 [.int .i64 j] 3,.own 3 1 Qh (.slice (some a0) a3 a4) l3]) ?_ ?_
 refine Q6 (Q3 (wP Z (wP Z (Q2 (Q4 (Q5 [34,14,13,12,11,10,0,3] (S':=V8 ..) Z ?_))))))
 refine Qv Z (fun a9=>?_) (fun a9=>?_)
 replace hm:=Q1m hm a9
 refine Q5 [14,13,12,11,10,0,3] (S':=V7 ..) Z (Q6 ?_)
 obtain ⟨aV,hm,hLj_2⟩:=Q7 hm
 refine Q15 (σ:=Int × Int × Int × Int) (fun (o,q,s,f)=>aV = (o,q,s,f)) (fun (o,q,s,f)=>[(14,.int .i64 o),(13,.int .i64 q),(12,.int .i64 s),(11,.pointer (some ⟨a7,0,none⟩)),(0,.slice a5 l0.length a6),(3,.func (.func 41) #[.slice (some a0) a3 a4] #[])]) (fun (o,q,s,f)=>[.sli 2 Q8 a5 a6 l0,tF]) (fun (o,q,s,f)=>[.blk a7 [.int .i64 f] 3,.own 3 1 Qh (.slice (some a0) a3 a4) l3]) ?_ ?_
 refine Q6 (Q3 (wP Z (wP Z (Q2 (Q4 (Q5 [36,14,13,12,11,0,3] (S':=V7 ..) Z ?_))))))
 refine Qv Z (fun aA=>?_) (fun aA=>?_)
 replace hm:=Q1m hm aA
 refine Q5 [14,13,12,11,0,3] (S':=V6 ..) Z (Q6 (Q3 (wP Z (wP Z (wP Z ?_)))))
 obtain ⟨⟨aF,aG⟩,aW,hm⟩:=Q7 hm
 try dsimp only at hm
 refine wC [0,1] [] Z fn_176 Z (Q3q N a5 a6 l0 (z + ((IntKind.wrap .i64 (Int.tdiv (a2 - z) 4)) * 1)) a7 0 a0 a3 a4 l3 _ _ aW) (asK [0,1] Z) Z (H':=[]) Z ?_
 rintro _ _ _ ⟨rfl,rfl,rfl⟩
 refine QM (S':=V9 ..) Z Z Z Z Z (Q2 (Q4 (Q5 [12,14,13,11,0,3] (S':=V6 ..) Z (Q6 (Q3 (wP Z (wP Z (wP Z ?_))))))))
 obtain ⟨⟨aH,aI⟩,aX,hm⟩:=Q7 hm
 try dsimp only at hm
 refine wC [0,1] [] Z fn_176 Z (Q3q N a5 a6 l0 (z + ((IntKind.wrap .i64 (Int.tdiv (a2 - z) 4)) * 2)) a7 aG a0 a3 a4 l3 _ _ aX) (asK [0,1] Z) Z (H':=[]) Z ?_
 rintro _ _ _ ⟨rfl,rfl,rfl⟩
 refine QM (S':=V9 ..) Z Z Z Z Z (Q2 (Q4 (Q5 [13,12,14,11,0,3] (S':=V6 ..) Z (Q3 (wP Z (wP Z (wP Z ?_)))))))
 obtain ⟨⟨aJ,aK⟩,aY,hm⟩:=Q7 hm
 try dsimp only at hm
 refine wC [0,1] [] Z fn_176 Z (Q3q N a5 a6 l0 (z + ((IntKind.wrap .i64 (Int.tdiv (a2 - z) 4)) * 3)) a7 aI a0 a3 a4 l3 _ _ aY) (asK [0,1] Z) Z (H':=[]) Z ?_
 rintro _ _ _ ⟨rfl,rfl,rfl⟩
 refine QM (S':=V9 ..) Z Z Z Z Z (Q2 ?_)
 have hE:=(Zi hm).symm
 refine Qp (aJ,aH,aF,aK) hE [14,13,12,11,0,3] Z (asK [0,1] Z) Z
 replace hm:=Q1l hm aA
 refine Q5 [14,13,12,11,0,3] (S':=V6 ..) Z (Qt ?_)
 have hE:=(Zi hm).symm
 refine Qp (z + ((IntKind.wrap .i64 (Int.tdiv (a2 - z) 4)) * 3),z + ((IntKind.wrap .i64 (Int.tdiv (a2 - z) 4)) * 2),z + ((IntKind.wrap .i64 (Int.tdiv (a2 - z) 4)) * 1),0) hE [14,13,12,11,0,3] Z (asK [0,1] Z) Z
 rintro ⟨o,q,s,f⟩ hE
 try dsimp only
 have hm:=hLj_2
 try rw [hE] at hm
 try dsimp only at hm
 refine Q3 (wP Z (wP Z (wP Z (wP Z (wP Z ?_)))))
 obtain ⟨⟨aL,aM⟩,aZ,hm⟩:=Q7 hm
 try dsimp only at hm
 refine wC [0,1] [] Z fn_177 Z (Q6A N a5 a6 l0 s q o a7 f a0 a3 a4 l3 _ _ aZ) (asK [0,1] Z) Z (H':=[]) Z ?_
 rintro _ _ _ ⟨rfl,rfl,rfl⟩
 refine QM (S':=V11 ..) Z Z Z Z Z (Q2 ?_)
 have hE:=(Zi hm).symm
 refine Qp (aL,aM) hE [13,11] Z (asK [1] Z) Z
 replace hm:=Q1l hm a9
 refine Q5 [13,11] (S':=[_,_]) Z (Qt ?_)
 have hE:=(Zi hm).symm
 refine Qp (z + ((IntKind.wrap .i64 (Int.tdiv (a2 - z) 4)) * 2),0) hE [13,11] Z (asK [1] Z) Z
 rintro ⟨y,j⟩ hE
 try dsimp only
 have hm:=hLj_1
 try rw [hE] at hm
 try dsimp only at hm
 refine Q6 (Q3 (wD 0 0 Z Q1i Q2d Z (Q2 (Q4 (Q5 [55,13] (S':=[_,_]) Z (Qn (Q6 (Q3 (wP Z (wP Z (Q2 (Q4 (Q5 [57,55,13] (S':=V3 ..) Z ?_)))))))))))))
 refine Qv Z (fun aB=>?_) (fun aB=>?_)
 replace hm:=Q1m hm aB
 refine Q5 [13] (S':=[_]) Z (Q6 (Q3 (wP Z (wP Z (wP Z (Q2 (Q4 (Q5 [9,8] (S':=[_,_]) Z (QJ (QR ?_))))))))))
 have hE:=(Zi hm).symm
 obtain ⟨hE0,hE1⟩:=Prod.mk.inj hE
 clear hE
 replace hE0:=hE0.symm
 subst hE0
 replace hE1:=hE1.symm
 subst hE1
 refine Q7w (Hr:=[_]) [1] Tryz.results151 (Qy Z) (Qy Z) ⟨Z,Z,Z⟩ (asK [] Z) Z Z (.inl Z)
 replace hm:=Q1l hm aB
 refine Q5 [55,13] (S':=[_,_]) Z (Q6 (Q3 (wP Z (wP Z (Q2 (Q4 (Q5 [60,13] (S':=[_,_]) Z ?_)))))))
 refine Qv Z (fun aC=>?_) (fun aC=>?_)
 replace hm:=Q1m hm aC
 refine Q5 [13] (S':=[_]) Z (Q6 (Q3 (wP Z (wP Z (wP Z (Q2 (Q4 (Q5 [9,8] (S':=[_,_]) Z (QJ (QR ?_))))))))))
 have hE:=(Zi hm).symm
 obtain ⟨hE0,hE1⟩:=Prod.mk.inj hE
 clear hE
 replace hE0:=hE0.symm
 subst hE0
 replace hE1:=hE1.symm
 subst hE1
 refine Q7w (Hr:=[_]) [1] Tryz.results151 (Qy Z) (Qy Z) ⟨Z,Z,Z⟩ (asK [] Z) Z Z (.inl Z)
 replace hm:=Q1l hm aC
 refine Q5 [13] (S':=[_]) Z (Q6 (Q3 (wP Z (wP Z (wP Z (Q2 (Q4 (Q5 [9,8] (S':=[_,_]) Z (QJ (QR ?_))))))))))
 have hE:=(Zi hm).symm
 obtain ⟨hE0,hE1⟩:=Prod.mk.inj hE
 clear hE
 replace hE0:=hE0.symm
 subst hE0
 replace hE1:=hE1.symm
 subst hE1
 refine Q7w (Hr:=[_]) [1] Tryz.results151 (Qy Z) (Qy Z) ⟨Z,Z,Z⟩ (asK [] Z) Z Z (.inl Z)
theorem Q7g (N:Nat) (a8:OA) (a9:Nat) (aA:Nat) (l0:List Q1) (a1:Int) (a2:Int) (z:Addr) (a0:Nat) (a3:Nat) (l3:List Int) (o0:List Q1) (hm:Q3p N l0 a1 a2 l3 = some o0):Q1z Tryz.prog 148 [.slice a8 a9 aA,.int .i64 a1,.int .i64 a2,.func (.func 41) #[.slice (some z) a0 a3] #[]] [tF] [.own 45 2 Q8 (.slice a8 a9 aA) l0,.own 3 1 Qh (.slice (some z) a0 a3) l3] (fun v Φr Hr=>v = .tuple #[] ∧ Φr = [] ∧ Hr = [.own 45 2 Q8 (.slice a8 a9 aA) o0,.own 3 1 Qh (.slice (some z) a0 a3) l3]):=by
 unfold Q3p at hm
 refine Q12 Tryz.func148 Z Tryz.ntmps148 Z (S:=V4 ..) Z (fun C=>(Q6 (Q3 (wP Z (wP Z ?_)))))
 obtain ⟨aX,hm⟩:=Qd hm
 refine Qx (d:=11) (v':=.int .i64 (a1 + 1)) (S':=V5 ..) Z Z (i64_in aX) (wP Z (Q2 (Q4 (Q5 [8,0,1,2,3] (S':=V5 ..) Z (Qn (Q1b (σ:=Nat × Int × (List Q1)) (fun (aD,s,q)=>Q1B (Q2T N a2 a1 l3) aD (s,q) = some o0) (fun (aD,s,q)=>aD) (fun (aD,s,q)=>[(8,.int .i64 s),(0,.slice a8 a9 aA),(1,.int .i64 a1),(2,.int .i64 a2),(3,.func (.func 41) #[.slice (some z) a0 a3] #[])]) (fun (aD,s,q)=>[tF]) (fun (aD,s,q)=>[.own 45 2 Q8 (.slice a8 a9 aA) q,.own 3 1 Qh (.slice (some z) a0 a3) l3]) (N,a1 + 1,l0) hm [8,0,1,2,3] Z (asK [0] Z) Z (fun s_ hm=>?_)))))))
 obtain ⟨aD,s,q⟩:=s_
 try dsimp only at hm ⊢
 obtain ⟨bF,bG,aY,hq,hLu1⟩:=Q18 hm
 clear hm
 subst aY
 replace hm:=hq
 clear hq
 unfold Q2T at hm
 try dsimp only at hm
 refine Q6 (Q6 (Q3 (wP Z (wP Z (wP Z (Q2 (Q4 (Q5 [14,8,0,1,2,3] (S':=V6 ..) Z ?_))))))))
 refine Qv Z (fun aK=>?_) (fun aK=>?_)
 replace hm:=Q1m hm aK
 refine Q5 [8,0,1,2,3] (S':=V5 ..) Z (Qt (Q4 (Q6 ?_)))
 obtain ⟨aS,hm,hLj_1⟩:=Q7 hm
 refine Q15 (σ:=List Q1) (fun o=>aS = o) (fun o=>[(8,.int .i64 s),(0,.slice a8 a9 aA),(1,.int .i64 a1),(2,.int .i64 a2),(3,.func (.func 41) #[.slice (some z) a0 a3] #[])]) (fun o=>[tF]) (fun o=>[.own 45 2 Q8 (.slice a8 a9 aA) o,.own 3 1 Qh (.slice (some z) a0 a3) l3]) ?_ ?_
 refine Qn (Q6 (Q3 (wP Z (wP Z (Q2 (Q4 (Q5 [9,8,0,1,2,3] (S':=V6 ..) Z (Qn (Q1b (σ:=Nat × Int × (List Q1)) (fun (aE,f,j)=>Q1B (Q2U N a1 l3) aE (f,j) = some aS) (fun (aE,f,j)=>aE) (fun (aE,f,j)=>[(9,.int .i64 f),(8,.int .i64 s),(0,.slice a8 a9 aA),(1,.int .i64 a1),(2,.int .i64 a2),(3,.func (.func 41) #[.slice (some z) a0 a3] #[])]) (fun (aE,f,j)=>[tF]) (fun (aE,f,j)=>[.own 45 2 Q8 (.slice a8 a9 aA) j,.own 3 1 Qh (.slice (some z) a0 a3) l3]) (N,s,q) hm [9,8,0,1,2,3] Z (asK [0] Z) Z (fun s_ hm=>?_))))))))))
 obtain ⟨aE,f,j⟩:=s_
 try dsimp only at hm ⊢
 obtain ⟨bH,bI,aZ,hq,hLu2⟩:=Q18 hm
 clear hm
 subst aZ
 replace hm:=hq
 clear hq
 unfold Q2U at hm
 try dsimp only at hm
 refine Q6 (Q6 ?_)
 obtain ⟨b0,hm,hLj_2⟩:=Q7 hm
 unfold Q4i at hm
 refine Q15 (σ:=Bool) (fun y=>b0 = y) (fun y=>[(9,.int .i64 f),(8,.int .i64 s),(0,.slice a8 a9 aA),(1,.int .i64 a1),(2,.int .i64 a2),(3,.func (.func 41) #[.slice (some z) a0 a3] #[]),(34,.bool y)]) (fun y=>[tF]) (fun y=>[.own 45 2 Q8 (.slice a8 a9 aA) j,.own 3 1 Qh (.slice (some z) a0 a3) l3]) ?_ ?_
 rcases Q2k hm with ⟨aL,hm⟩ | ⟨aL,hm⟩
 ·
  obtain ⟨b1,hm⟩:=Qd hm
  obtain ⟨a6,aM,hm⟩:=Q7 hm
  obtain ⟨b2,hm⟩:=Qd hm
  obtain ⟨b3,hm⟩:=Qd hm
  obtain ⟨a7,aN,hm⟩:=Q7 hm
  obtain ⟨bE,aT,hm⟩:=Q7 hm
  refine QV [0,1,2,3,4,5,6,7,9,10,11,12,15,16] Z Z (fun hok=>(xP hok 0 Z (xP hok 1 Z (xP hok 2 Z (xP hok 3 Z (Q1g (d:=21) (v':=.bool true) (S':=V9 ..) Z Z (Q16 aL) (xP hok 4 Z (xP hok 5 Z (xP hok 6 Z (Q1C hok 7 0 f.toNat Z Z Z Zq Z Z Z Z Z (QK b1) (QB aM) QG Qg (fun bJ b4=>?_)))))))))))
  subst b4
  refine xP hok 9 Z (xP hok 10 Z (xP hok 11 Z (Q1g (d:=29) (v':=.int .i64 (f - 1)) (S':=V16 ..) Z Z (i64_in b2) (QS hok 12 0 ((f - 1).toNat) Z Z Z Zq Z Z Z Z Z (QK b3) (QB aN) QG Qg ?_))))
  refine Q1v hok 8 13 Z Z Z Z Z Z ?_ ?_
  rotate_left
  focus
   refine Qk Qb 0 ((f - 1).toNat) 0 Z Z Z Zq Z Z Z aN Qg QT (v:=fun a4=>.agg #[.int .i64 (a7.rule),.slice a4.1 a7.ids.length a4.2]) (fun _=>Z) (fun _=>Z) (fun a4 _=>(Q2 (Qs [1] [] Z Z (xS hok 8 Z (Qk Qb 0 f.toNat 0 Z Z Z Zq Z Z Z aM Qg QT (v:=fun a5=>.agg #[.int .i64 (a6.rule),.slice a5.1 a6.ids.length a5.2]) (fun _=>Z) (fun _=>Z) (fun a5 _=>(Q2 (Qs [1,2] [] Z Z (xS hok 14 Z (Q1Q (args:=[.slice (some z) a0 a3,.agg #[.int .i64 (a6.rule),.slice a5.1 a6.ids.length a5.2],.agg #[.int .i64 (a7.rule),.slice a4.1 a7.ids.length a4.2]]) [1] [0] Z Z Z Zq Z Z Z Q5o Z Z (QW N z a0 a3 l3 a6.rule a5.1 a5.2 a6.ids a7.rule a4.1 a4.2 a7.ids _ aT) (asK [0,1,2] Z) Z (H':=[_]) Z ?_))))))))))
  rotate_right
  focus
   refine Qk Qb 0 f.toNat 0 Z Z Z Zq Z Z Z aM Qg QT (v:=fun a5=>.agg #[.int .i64 (a6.rule),.slice a5.1 a6.ids.length a5.2]) (fun _=>Z) (fun _=>Z) (fun a5 _=>(Q2 (Qs [1] [] Z Z (xS hok 13 Z (Qk Qb 0 ((f - 1).toNat) 0 Z Z Z Zq Z Z Z aN Qg QT (v:=fun a4=>.agg #[.int .i64 (a7.rule),.slice a4.1 a7.ids.length a4.2]) (fun _=>Z) (fun _=>Z) (fun a4 _=>(Q2 (Qs [1,2] [] Z Z (xS hok 14 Z (Q1Q (args:=[.slice (some z) a0 a3,.agg #[.int .i64 (a6.rule),.slice a5.1 a6.ids.length a5.2],.agg #[.int .i64 (a7.rule),.slice a4.1 a7.ids.length a4.2]]) [1] [0] Z Z Z Zq Z Z Z Q5o Z Z (QW N z a0 a3 l3 a6.rule a5.1 a5.2 a6.ids a7.rule a4.1 a4.2 a7.ids _ aT) (asK [1,0,2] Z) Z (H':=[_]) Z ?_))))))))))
  all_goals
   rintro _ _ _ ⟨rfl,rfl,rfl⟩
   refine Q2 (Qs [0,1,2] [] Z Z (xP hok 15 Z (xP hok 16 Z (QI hok Z ?_))))
   have hE:=(Zi hm).symm
   refine Q17 [1,0] Z (H':=[_,_]) Z ?_
   refine Qp (decide (bE < 0)) hE [9,8,0,1,2,3,34] Z (asK [2] Z) Z
 ·
  refine QV [0,1,2,3,4,5,6,7,9,10,11,12,15,16] Z Z (fun hok=>(xP hok 0 Z (xP hok 1 Z (xP hok 2 Z (xP hok 3 Z (Q1g (d:=21) (v':=.bool false) (S':=V9 ..) Z Z (Q16 aL) (xO hok 4 Z (xO hok 5 Z (xO hok 6 Z (xO hok 7 Z (xO hok 9 Z (xO hok 10 Z (xO hok 11 Z (xO hok 12 Z ?_))))))))))))))
  refine Q1v hok 8 13 Z Z Z Z Z Z ?_ ?_
  rotate_left
  focus
   refine wO Z (Q2 (Qs [0] [] Z Z (xS hok 8 Z ?_)))
  rotate_right
  focus
   refine wO Z (Q2 (Qs [0] [] Z Z (xS hok 13 Z ?_)))
  all_goals
   refine wO Z (Q2 (Qs [0] [] Z Z (xS hok 14 Z (wO Z (Q2 (Qs [0] [] Z Z (xO hok 15 Z (xP hok 16 Z (QI hok Z ?_)))))))))
   have hE:=(Zi hm).symm
   refine Qp false hE [9,8,0,1,2,3,34] Z (asK [0] Z) Z
 rintro y hE
 try dsimp only
 have hm:=hLj_2
 try rw [hE] at hm
 refine Qv Z (fun aO=>?_) (fun aO=>?_)
 ·
  replace hm:=Q1m hm aO
  refine Q5 [9,8,0,1,2,3] (S':=V6 ..) Z (Qt (Q4 (Q6 (Qn ?_))))
  obtain ⟨b5,hm⟩:=Qd hm
  obtain ⟨b6,hm⟩:=Qd hm
  obtain ⟨b7,hm⟩:=Qd hm
  obtain ⟨aF,aP,hm⟩:=Q7 hm
  obtain ⟨b8,hm⟩:=Qd hm
  obtain ⟨aG,aQ,hm⟩:=Q7 hm
  obtain ⟨aU,hm⟩:=Qd hm
  obtain ⟨bK,aH,hm⟩:=Q7 hm
  obtain ⟨aV,hm⟩:=Qd hm
  obtain ⟨bL,aI,hm⟩:=Q7 hm
  refine QV [0,1,2,3,4,5,6,7,8,10,11,12,14,16] Z Z (fun hok=>(xP hok 0 Z (xP hok 1 Z (xP hok 2 Z (xP hok 3 Z (xP hok 4 Z (Q1g (d:=41) (v':=.int .i64 (f - 1)) (S':=V10 ..) Z Z (i64_in b5) (xP hok 5 Z (xP hok 6 Z (xP hok 7 Z (Q1g (d:=44) (v':=.int .i64 (f - 1)) (S':=V13 ..) Z Z (i64_in b6) (Q1C hok 8 0 ((f - 1).toNat) Z Z Z Zq Z Z Z Z Z (QK b7) (QB aP) QG Qg (fun bM b9=>?_)))))))))))))
  subst b9
  refine xP hok 10 Z (xP hok 11 Z (QS hok 12 0 f.toNat Z Z Z Zq Z Z Z Z Z (QK b8) (QB aQ) QG Qg ?_))
  refine Q1v hok 9 13 Z Z Z Z Z Z ?_ ?_
  rotate_left
  focus
   refine Qk Qb 0 f.toNat 0 Z Z Z Zq Z Z Z aQ Qg QT (v:=fun aB=>.agg #[.int .i64 (aG.rule),.slice aB.1 aG.ids.length aB.2]) (fun _=>Z) (fun _=>Z) (fun aB _=>(Q2 (Qs [1] [] Z Z (xS hok 9 Z (Qk Qb 0 ((f - 1).toNat) 0 Z Z Z Zq Z Z Z aP Qg QT (v:=fun aC=>.agg #[.int .i64 (aF.rule),.slice aC.1 aF.ids.length aC.2]) (fun _=>Z) (fun _=>Z) (fun aC _=>(Q2 (Qs [1,2] [] Z Z (QS hok 14 0 f.toNat Z Z Z Zq Z Z Z Z Z (QK aU) (QB aH) QG Qg (xS hok 15 Z (Q10 (u:=aF) 0 f.toNat Z Z Z Z Z (QB aH) Z Z Qg Z (fun F w hφ=>⟨(aC.1,aC.2),Z,(Qe (hφ _ (Qo (k:=0) Z)) Ql)⟩) (H':=[_,_]) Z (Q2 (Qs [0,1,2] [] Z Z (QS hok 16 0 ((f - 1).toNat) Z Z Z Zq Z Z Z Z Z (QK aV) (QB aI) QG Qg (xS hok 17 Z ?_)))))))))))))))
   refine Q10 (u:=aG) 0 ((f - 1).toNat) Z Z Z Z Z (QB aI) Z Z Qg Z (fun F w hφ=>⟨(aB.1,aB.2),Z,(Qe (hφ _ (Qo (k:=1) Z)) Ql)⟩) (H':=[_,_]) Z ?_
  rotate_right
  focus
   refine Qk Qb 0 ((f - 1).toNat) 0 Z Z Z Zq Z Z Z aP Qg QT (v:=fun aC=>.agg #[.int .i64 (aF.rule),.slice aC.1 aF.ids.length aC.2]) (fun _=>Z) (fun _=>Z) (fun aC _=>(Q2 (Qs [1] [] Z Z (xS hok 13 Z (Qk Qb 0 f.toNat 0 Z Z Z Zq Z Z Z aQ Qg QT (v:=fun aB=>.agg #[.int .i64 (aG.rule),.slice aB.1 aG.ids.length aB.2]) (fun _=>Z) (fun _=>Z) (fun aB _=>(Q2 (Qs [1,2] [] Z Z (QS hok 14 0 f.toNat Z Z Z Zq Z Z Z Z Z (QK aU) (QB aH) QG Qg (xS hok 15 Z (Q10 (u:=aF) 0 f.toNat Z Z Z Z Z (QB aH) Z Z Qg Z (fun F w hφ=>⟨(aC.1,aC.2),Z,(Qe (hφ _ (Qo (k:=1) Z)) Ql)⟩) (H':=[_,_]) Z (Q2 (Qs [0,1,2] [] Z Z (QS hok 16 0 ((f - 1).toNat) Z Z Z Zq Z Z Z Z Z (QK aV) (QB aI) QG Qg (xS hok 17 Z ?_)))))))))))))))
   refine Q10 (u:=aG) 0 ((f - 1).toNat) Z Z Z Z Z (QB aI) Z Z Qg Z (fun F w hφ=>⟨(aB.1,aB.2),Z,(Qe (hφ _ (Qo (k:=0) Z)) Ql)⟩) (H':=[_,_]) Z ?_
  all_goals
   refine Q2 (Qs [0,1,2] [] Z Z (QI hok Z (Qi (Q4 (Q5 [9,8,0,1,2,3] (S':=V6 ..) Z (Q3 (wP Z (wP Z ?_))))))))
   obtain ⟨bA,hm⟩:=Qd hm
   refine Qx (d:=36) (v':=.int .i64 (f - 1)) (S':=V7 ..) Z Z (i64_in bA) (QM (S':=V7 ..) Z Z Z Z Z (Q2 ?_))
   have hE:=(Zi hm).symm
   replace hE:=Q11 hLu2 hE
   refine Q14 (_,f - 1,(j.set f.toNat aF).set ((f - 1).toNat) aG) (Nat.lt_succ_self _) hE [9,8,0,1,2,3] Z (asK [2] Z) Z
 replace hm:=Q1l hm aO
 refine Q5 [8,0,1,2,3] (S':=V5 ..) Z (Q19 (Qc (Qc (Qu (Qi ?_)))))
 have hE:=(Zi hm).symm
 replace hE:=QE hLu2 hE
 refine Qp j hE [8,0,1,2,3] Z (asK [0] Z) Z
 rintro o hE
 try dsimp only
 have hm:=hLj_1
 try rw [hE] at hm
 refine Q3 (wP Z (wP Z ?_))
 obtain ⟨bB,hm⟩:=Qd hm
 refine Qx (d:=16) (v':=.int .i64 (s + 1)) (S':=V6 ..) Z Z (i64_in bB) (QM (S':=V6 ..) Z Z Z Z Z (Q2 ?_))
 have hE:=(Zi hm).symm
 replace hE:=Q11 hLu1 hE
 refine Q14 (_,s + 1,o) (Nat.lt_succ_self _) hE [8,0,1,2,3] Z (asK [0] Z) Z
 replace hm:=Q1l hm aK
 refine Q5 [] (S':=[]) Z (Q19 (Qc (Qc (Qu ?_))))
 have hE:=(Zi hm).symm
 replace hE:=QE hLu1 hE
 replace hE:=hE.symm
 subst hE
 refine Q4R (Hr:=[_,_]) [0,1] Tryz.results148 ⟨Z,Z,Z⟩ (asK [] Z) Z Z (.inr Z)
theorem Q5s (N:Nat) (a8:OA) (a9:Nat) (aA:Nat) (l0:List Q1) (a1:Int) (a2:Int) (q:Int) (s:Addr) (y:Nat) (z:Nat) (l4:List Int) (o0:List Q1) (hm:Q2Y N l0 a1 a2 q l4 = some o0):Q1z Tryz.prog 173 [.slice a8 a9 aA,.int .i64 a1,.int .i64 a2,.int .i64 q,.func (.func 41) #[.slice (some s) y z] #[]] [tF] [.own 45 2 Q8 (.slice a8 a9 aA) l0,.own 3 1 Qh (.slice (some s) y z) l4] (fun v Φr Hr=>v = .tuple #[] ∧ Φr = [] ∧ Hr = [.own 45 2 Q8 (.slice a8 a9 aA) o0,.own 3 1 Qh (.slice (some s) y z) l4]):=by
 unfold Q2Y at hm
 refine Q12 Tryz.func173 Z Tryz.ntmps173 Z (S:=V5 ..) Z (fun C=>(Q6 (Q3 (wP Z (wP Z (Q2 (Q4 (Q5 [10,0,2,3,4] (S':=V5 ..) Z (Qn (Q1b (σ:=Nat × Int × (List Q1)) (fun (aJ,f,o)=>Q1B (Q3I N a2 q l4) aJ (f,o) = some o0) (fun (aJ,f,o)=>aJ) (fun (aJ,f,o)=>[(10,.int .i64 f),(0,.slice a8 a9 aA),(2,.int .i64 a2),(3,.int .i64 q),(4,.func (.func 41) #[.slice (some s) y z] #[])]) (fun (aJ,f,o)=>[tF]) (fun (aJ,f,o)=>[.own 45 2 Q8 (.slice a8 a9 aA) o,.own 3 1 Qh (.slice (some s) y z) l4]) (N,a1,l0) hm [10,0,2,3,4] Z (asK [0] Z) Z (fun s_ hm=>?_)))))))))))
 obtain ⟨aJ,f,o⟩:=s_
 try dsimp only at hm ⊢
 obtain ⟨bW,bX,b3,hq,hLu1⟩:=Q18 hm
 clear hm
 subst b3
 replace hm:=hq
 clear hq
 unfold Q3I at hm
 try dsimp only at hm
 refine Qn (Q6 (Q3 (wP Z (wP Z ?_))))
 obtain ⟨b4,hm⟩:=Qd hm
 refine Qx (d:=14) (v':=.int .i64 (2 * f)) (S':=V6 ..) Z Z (i64_in b4) (wP Z ?_)
 obtain ⟨b5,hm⟩:=Qd hm
 refine Qx (d:=15) (v':=.int .i64 ((2 * f) + 1)) (S':=V7 ..) Z Z (i64_in b5) (wP Z (Q2 (Q4 (Q5 [11,10,0,2,3,4] (S':=V6 ..) Z (Q6 (Q6 (Q3 (wP Z (wP Z (wP Z (Q2 (Q4 (Q5 [18,11,10,0,2,3,4] (S':=V7 ..) Z ?_)))))))))))))
 refine Qv Z (fun aN=>?_) (fun aN=>?_)
 replace hm:=Q1m hm aN
 refine Q5 [] (S':=[]) Z (Q19 (Qc (Q7a (by decide) (Qc (Qu ?_)))))
 have hE:=(Zi hm).symm
 replace hE:=QE hLu1 hE
 replace hE:=hE.symm
 subst hE
 refine Q4R (Hr:=[_,_]) [0,1] Tryz.results173 ⟨Z,Z,Z⟩ (asK [] Z) Z Z (.inr Z)
 replace hm:=Q1l hm aN
 refine Q5 [11,10,0,2,3,4] (S':=V6 ..) Z (Qt (Q4 (Q6 ?_)))
 obtain ⟨b6,hm,hLj_1⟩:=Q7 hm
 refine Q15 (σ:=Int) (fun j=>b6 = j) (fun j=>[(11,.int .i64 j),(10,.int .i64 f),(0,.slice a8 a9 aA),(2,.int .i64 a2),(3,.int .i64 q),(4,.func (.func 41) #[.slice (some s) y z] #[])]) (fun j=>[tF]) (fun j=>[.own 45 2 Q8 (.slice a8 a9 aA) o,.own 3 1 Qh (.slice (some s) y z) l4]) ?_ ?_
 refine Q6 ?_
 obtain ⟨b7,hm,hLj_2⟩:=Q7 hm
 unfold Q57 at hm
 refine Q15 (σ:=Bool) (fun a0=>b7 = a0) (fun a0=>[(11,.int .i64 ((2 * f) + 1)),(10,.int .i64 f),(0,.slice a8 a9 aA),(2,.int .i64 a2),(3,.int .i64 q),(4,.func (.func 41) #[.slice (some s) y z] #[]),(40,.bool a0)]) (fun a0=>[tF]) (fun a0=>[.own 45 2 Q8 (.slice a8 a9 aA) o,.own 3 1 Qh (.slice (some s) y z) l4]) ?_ ?_
 obtain ⟨aY,hm⟩:=Qd hm
 rcases Q2k hm with ⟨aO,hm⟩ | ⟨aO,hm⟩
 ·
  obtain ⟨b8,hm⟩:=Qd hm
  obtain ⟨b9,hm⟩:=Qd hm
  obtain ⟨aB,aP,hm⟩:=Q7 hm
  obtain ⟨bA,hm⟩:=Qd hm
  obtain ⟨bB,hm⟩:=Qd hm
  obtain ⟨bC,hm⟩:=Qd hm
  obtain ⟨aC,aQ,hm⟩:=Q7 hm
  obtain ⟨bU,aZ,hm⟩:=Q7 hm
  refine QV [0,1,2,3,4,5,6,7,8,9,10,12,13,14,15,16,17,20,21] Z Z (fun hok=>(xP hok 0 Z (xP hok 1 Z (Q1g (d:=20) (v':=.int .i64 (((2 * f) + 1) + 1)) (S':=V7 ..) Z Z (i64_in aY) (xP hok 2 Z (xP hok 3 Z (xP hok 4 Z (Q1g (d:=23) (v':=.bool true) (S':=V10 ..) Z Z (Q16 aO) (xP hok 5 Z (xP hok 6 Z (xP hok 7 Z (xP hok 8 Z (xP hok 9 Z (Q1g (d:=28) (v':=.int .i64 (q + ((2 * f) + 1))) (S':=V15 ..) Z Z (i64_in b8) ?_))))))))))))))
  refine Q1C hok 10 0 ((q + ((2 * f) + 1)).toNat) Z Z Z Zq Z Z Z Z Z (QK b9) (QB aP) QG Qg (fun bY bD=>?_)
  subst bD
  refine xP hok 12 Z (xP hok 13 Z (xP hok 14 Z (xP hok 15 Z (Q1g (d:=34) (v':=.int .i64 (q + ((2 * f) + 1))) (S':=V20 ..) Z Z (i64_in bA) (xP hok 16 Z (Q1g (d:=35) (v':=.int .i64 ((q + ((2 * f) + 1)) + 1)) (S':=V21 ..) Z Z (i64_in bB) (QS hok 17 0 (((q + ((2 * f) + 1)) + 1).toNat) Z Z Z Zq Z Z Z Z Z (QK bC) (QB aQ) QG Qg ?_)))))))
  refine Q1v hok 11 18 Z Z Z Z Z Z ?_ ?_
  rotate_left
  focus
   refine Qk Qb 0 (((q + ((2 * f) + 1)) + 1).toNat) 0 Z Z Z Zq Z Z Z aQ Qg QT (v:=fun a4=>.agg #[.int .i64 (aC.rule),.slice a4.1 aC.ids.length a4.2]) (fun _=>Z) (fun _=>Z) (fun a4 _=>(Q2 (Qs [1] [] Z Z (xS hok 11 Z (Qk Qb 0 ((q + ((2 * f) + 1)).toNat) 0 Z Z Z Zq Z Z Z aP Qg QT (v:=fun a5=>.agg #[.int .i64 (aB.rule),.slice a5.1 aB.ids.length a5.2]) (fun _=>Z) (fun _=>Z) (fun a5 _=>(Q2 (Qs [1,2] [] Z Z (xS hok 19 Z (Q1Q (args:=[.slice (some s) y z,.agg #[.int .i64 (aB.rule),.slice a5.1 aB.ids.length a5.2],.agg #[.int .i64 (aC.rule),.slice a4.1 aC.ids.length a4.2]]) [1] [0] Z Z Z Zq Z Z Z Q5o Z Z (QW N s y z l4 aB.rule a5.1 a5.2 aB.ids aC.rule a4.1 a4.2 aC.ids _ aZ) (asK [0,1,2] Z) Z (H':=[_]) Z ?_))))))))))
  rotate_right
  focus
   refine Qk Qb 0 ((q + ((2 * f) + 1)).toNat) 0 Z Z Z Zq Z Z Z aP Qg QT (v:=fun a5=>.agg #[.int .i64 (aB.rule),.slice a5.1 aB.ids.length a5.2]) (fun _=>Z) (fun _=>Z) (fun a5 _=>(Q2 (Qs [1] [] Z Z (xS hok 18 Z (Qk Qb 0 (((q + ((2 * f) + 1)) + 1).toNat) 0 Z Z Z Zq Z Z Z aQ Qg QT (v:=fun a4=>.agg #[.int .i64 (aC.rule),.slice a4.1 aC.ids.length a4.2]) (fun _=>Z) (fun _=>Z) (fun a4 _=>(Q2 (Qs [1,2] [] Z Z (xS hok 19 Z (Q1Q (args:=[.slice (some s) y z,.agg #[.int .i64 (aB.rule),.slice a5.1 aB.ids.length a5.2],.agg #[.int .i64 (aC.rule),.slice a4.1 aC.ids.length a4.2]]) [1] [0] Z Z Z Zq Z Z Z Q5o Z Z (QW N s y z l4 aB.rule a5.1 a5.2 aB.ids aC.rule a4.1 a4.2 aC.ids _ aZ) (asK [1,0,2] Z) Z (H':=[_]) Z ?_))))))))))
  all_goals
   rintro _ _ _ ⟨rfl,rfl,rfl⟩
   refine Q2 (Qs [0,1,2] [] Z Z (xP hok 20 Z (xP hok 21 Z (QI hok Z ?_))))
   have hE:=(Zi hm).symm
   refine Q17 [1,0] Z (H':=[_,_]) Z ?_
   refine Qp (decide (bU < 0)) hE [11,10,0,2,3,4,40] Z (asK [2] Z) Z
 ·
  refine QV [0,1,2,3,4,5,6,7,8,9,10,12,13,14,15,16,17,20,21] Z Z (fun hok=>(xP hok 0 Z (xP hok 1 Z (Q1g (d:=20) (v':=.int .i64 (((2 * f) + 1) + 1)) (S':=V7 ..) Z Z (i64_in aY) (xP hok 2 Z (xP hok 3 Z (xP hok 4 Z (Q1g (d:=23) (v':=.bool false) (S':=V10 ..) Z Z (Q16 aO) (xO hok 5 Z (xO hok 6 Z (xO hok 7 Z (xO hok 8 Z (xO hok 9 Z (xO hok 10 Z ?_))))))))))))))
  refine xO hok 12 Z (xO hok 13 Z (xO hok 14 Z (xO hok 15 Z (xO hok 16 Z (xO hok 17 Z ?_)))))
  refine Q1v hok 11 18 Z Z Z Z Z Z ?_ ?_
  rotate_left
  focus
   refine wO Z (Q2 (Qs [0] [] Z Z (xS hok 11 Z ?_)))
  rotate_right
  focus
   refine wO Z (Q2 (Qs [0] [] Z Z (xS hok 18 Z ?_)))
  all_goals
   refine wO Z (Q2 (Qs [0] [] Z Z (xS hok 19 Z (wO Z (Q2 (Qs [0] [] Z Z (xO hok 20 Z (xP hok 21 Z (QI hok Z ?_)))))))))
   have hE:=(Zi hm).symm
   refine Qp false hE [11,10,0,2,3,4,40] Z (asK [0] Z) Z
 rintro a0 hE
 try dsimp only
 have hm:=hLj_2
 try rw [hE] at hm
 refine Qv Z (fun aR=>?_) (fun aR=>?_)
 replace hm:=Q1m hm aR
 refine Q5 [11,10,0,2,3,4] (S':=V6 ..) Z (Q3 (wP Z (wP Z ?_)))
 obtain ⟨bE,hm⟩:=Qd hm
 refine Qx (d:=42) (v':=.int .i64 (((2 * f) + 1) + 1)) (S':=V7 ..) Z Z (i64_in bE) (QM (S':=V7 ..) Z Z Z Z Z (Q2 ?_))
 have hE:=(Zi hm).symm
 refine Qp (((2 * f) + 1) + 1) hE [11,10,0,2,3,4] Z (asK [0] Z) Z
 replace hm:=Q1l hm aR
 refine Q5 [11,10,0,2,3,4] (S':=V6 ..) Z (Qt ?_)
 have hE:=(Zi hm).symm
 refine Qp ((2 * f) + 1) hE [11,10,0,2,3,4] Z (asK [0] Z) Z
 rintro j hE
 try dsimp only
 have hm:=hLj_1
 try rw [hE] at hm
 refine Q6 (Q6 ?_)
 obtain ⟨bF,hm⟩:=Qd hm
 obtain ⟨bG,hm⟩:=Qd hm
 obtain ⟨aD,aS,hm⟩:=Q7 hm
 obtain ⟨bH,hm⟩:=Qd hm
 obtain ⟨bI,hm⟩:=Qd hm
 obtain ⟨aE,aT,hm⟩:=Q7 hm
 obtain ⟨bV,b0,hm⟩:=Q7 hm
 refine Q15 (σ:=Unit) (fun _=>True) (fun _=>[(58,.bool (!(decide (bV < 0)))),(11,.int .i64 j),(10,.int .i64 f),(0,.slice a8 a9 aA),(2,.int .i64 a2),(3,.int .i64 q),(4,.func (.func 41) #[.slice (some s) y z] #[])]) (fun _=>[tF]) (fun _=>[.own 45 2 Q8 (.slice a8 a9 aA) o,.own 3 1 Qh (.slice (some s) y z) l4]) ?_ ?_
 ·
  refine QV [0,1,2,3,4,5,7,8,9,10,11,14,15] Z Z (fun hok=>(xP hok 0 Z (xP hok 1 Z (xP hok 2 Z (xP hok 3 Z (xP hok 4 Z (Q1g (d:=47) (v':=.int .i64 (q + f)) (S':=V10 ..) Z Z (i64_in bF) (Q1C hok 5 0 ((q + f).toNat) Z Z Z Zq Z Z Z Z Z (QK bG) (QB aS) QG Qg (fun bZ bJ=>?_)))))))))
  subst bJ
  refine xP hok 7 Z (xP hok 8 Z (xP hok 9 Z (xP hok 10 Z (Q1g (d:=53) (v':=.int .i64 (q + j)) (S':=V15 ..) Z Z (i64_in bH) (QS hok 11 0 ((q + j).toNat) Z Z Z Zq Z Z Z Z Z (QK bI) (QB aT) QG Qg ?_)))))
  refine Q1v hok 6 12 Z Z Z Z Z Z ?_ ?_
  rotate_left
  focus
   refine Qk Qb 0 ((q + j).toNat) 0 Z Z Z Zq Z Z Z aT Qg QT (v:=fun a6=>.agg #[.int .i64 (aE.rule),.slice a6.1 aE.ids.length a6.2]) (fun _=>Z) (fun _=>Z) (fun a6 _=>(Q2 (Qs [1] [] Z Z (xS hok 6 Z (Qk Qb 0 ((q + f).toNat) 0 Z Z Z Zq Z Z Z aS Qg QT (v:=fun a7=>.agg #[.int .i64 (aD.rule),.slice a7.1 aD.ids.length a7.2]) (fun _=>Z) (fun _=>Z) (fun a7 _=>(Q2 (Qs [1,2] [] Z Z (xS hok 13 Z (Q1Q (args:=[.slice (some s) y z,.agg #[.int .i64 (aD.rule),.slice a7.1 aD.ids.length a7.2],.agg #[.int .i64 (aE.rule),.slice a6.1 aE.ids.length a6.2]]) [1] [0] Z Z Z Zq Z Z Z Q5o Z Z (QW N s y z l4 aD.rule a7.1 a7.2 aD.ids aE.rule a6.1 a6.2 aE.ids _ b0) (asK [0,1,2] Z) Z (H':=[_]) Z ?_))))))))))
  rotate_right
  focus
   refine Qk Qb 0 ((q + f).toNat) 0 Z Z Z Zq Z Z Z aS Qg QT (v:=fun a7=>.agg #[.int .i64 (aD.rule),.slice a7.1 aD.ids.length a7.2]) (fun _=>Z) (fun _=>Z) (fun a7 _=>(Q2 (Qs [1] [] Z Z (xS hok 12 Z (Qk Qb 0 ((q + j).toNat) 0 Z Z Z Zq Z Z Z aT Qg QT (v:=fun a6=>.agg #[.int .i64 (aE.rule),.slice a6.1 aE.ids.length a6.2]) (fun _=>Z) (fun _=>Z) (fun a6 _=>(Q2 (Qs [1,2] [] Z Z (xS hok 13 Z (Q1Q (args:=[.slice (some s) y z,.agg #[.int .i64 (aD.rule),.slice a7.1 aD.ids.length a7.2],.agg #[.int .i64 (aE.rule),.slice a6.1 aE.ids.length a6.2]]) [1] [0] Z Z Z Zq Z Z Z Q5o Z Z (QW N s y z l4 aD.rule a7.1 a7.2 aD.ids aE.rule a6.1 a6.2 aE.ids _ b0) (asK [1,0,2] Z) Z (H':=[_]) Z ?_))))))))))
  all_goals
   rintro _ _ _ ⟨rfl,rfl,rfl⟩
   refine Q2 (Qs [0,1,2] [] Z Z (xP hok 14 Z (xP hok 15 Z (QI hok Z (Q17 [1,0] Z (H':=[_,_]) Z ?_)))))
   refine Qp () trivial [58,11,10,0,2,3,4] Z (asK [2] Z) Z
 rintro _ _
 try dsimp only
 refine Qv Z (fun aU=>?_) (fun aU=>?_)
 replace hm:=Q1m hm aU
 refine Q5 [] (S':=[]) Z (QJ (Qj (QR (Qj (QR ?_)))))
 have hE:=(Zi hm).symm
 replace hE:=QE hLu1 hE
 replace hE:=hE.symm
 subst hE
 refine Q4R (Hr:=[_,_]) [0,1] Tryz.results173 ⟨Z,Z,Z⟩ (asK [] Z) Z Z (.inl Z)
 replace hm:=Q1l hm aU
 refine Q5 [11,10,0,2,3,4] (S':=V6 ..) Z (Qt (Q4 (Q6 ?_)))
 obtain ⟨bK,hm⟩:=Qd hm
 obtain ⟨bL,hm⟩:=Qd hm
 obtain ⟨bM,hm⟩:=Qd hm
 obtain ⟨bN,hm⟩:=Qd hm
 obtain ⟨aH,aV,hm⟩:=Q7 hm
 obtain ⟨bO,hm⟩:=Qd hm
 obtain ⟨bP,hm⟩:=Qd hm
 obtain ⟨aI,aW,hm⟩:=Q7 hm
 obtain ⟨b1,hm⟩:=Qd hm
 obtain ⟨c0,aK,hm⟩:=Q7 hm
 obtain ⟨b2,hm⟩:=Qd hm
 obtain ⟨c1,aL,hm⟩:=Q7 hm
 refine Q15 (σ:=Unit) (fun _=>True) (fun _=>[(11,.int .i64 j),(0,.slice a8 a9 aA),(2,.int .i64 a2),(3,.int .i64 q),(4,.func (.func 41) #[.slice (some s) y z] #[])]) (fun _=>[tF]) (fun _=>[.own 45 2 Q8 (.slice a8 a9 aA) ((o.set ((q + f).toNat) aH).set ((q + j).toNat) aI),.own 3 1 Qh (.slice (some s) y z) l4]) ?_ ?_
 refine QV [0,1,2,3,4,5,6,7,8,9,10,11,12,14,15,16,17,18,20,22] Z Z (fun hok=>(xP hok 0 Z (xP hok 1 Z (xP hok 2 Z (xP hok 3 Z (Q1g (d:=62) (v':=.int .i64 (q + f)) (S':=V9 ..) Z Z (i64_in bK) (xP hok 4 Z (xP hok 5 Z (xP hok 6 Z (xP hok 7 Z (Q1g (d:=66) (v':=.int .i64 (q + j)) (S':=V13 ..) Z Z (i64_in bL) (xP hok 8 Z (xP hok 9 Z (xP hok 10 Z ?_))))))))))))))
 refine xP hok 11 Z (Q1g (d:=70) (v':=.int .i64 (q + j)) (S':=V17 ..) Z Z (i64_in bM) (Q1C hok 12 0 ((q + j).toNat) Z Z Z Zq Z Z Z Z Z (QK bN) (QB aV) QG Qg (fun c2 bQ=>?_)))
 subst bQ
 refine xP hok 14 Z (xP hok 15 Z (xP hok 16 Z (xP hok 17 Z (Q1g (d:=76) (v':=.int .i64 (q + f)) (S':=V22 ..) Z Z (i64_in bO) (QS hok 18 0 ((q + f).toNat) Z Z Z Zq Z Z Z Z Z (QK bP) (QB aW) QG Qg ?_)))))
 refine Q1v hok 13 19 Z Z Z Z Z Z ?_ ?_
 refine Qk Qb 0 ((q + j).toNat) 0 Z Z Z Zq Z Z Z aV Qg QT (v:=fun aF=>.agg #[.int .i64 (aH.rule),.slice aF.1 aH.ids.length aF.2]) (fun _=>Z) (fun _=>Z) (fun aF _=>(Q2 (Qs [1] [] Z Z (xS hok 19 Z (Qk Qb 0 ((q + f).toNat) 0 Z Z Z Zq Z Z Z aW Qg QT (v:=fun aG=>.agg #[.int .i64 (aI.rule),.slice aG.1 aI.ids.length aG.2]) (fun _=>Z) (fun _=>Z) (fun aG _=>(Q2 (Qs [1,2] [] Z Z (QS hok 20 0 ((q + f).toNat) Z Z Z Zq Z Z Z Z Z (QK b1) (QB aK) QG Qg (xS hok 21 Z (Q10 (u:=aH) 0 ((q + f).toNat) Z Z Z Z Z (QB aK) Z Z Qg Z (fun F w hφ=>⟨(aF.1,aF.2),Z,(Qe (hφ _ (Qo (k:=1) Z)) Ql)⟩) (H':=[_,_]) Z (Q2 (Qs [0,1,2] [] Z Z (QS hok 22 0 ((q + j).toNat) Z Z Z Zq Z Z Z Z Z (QK b2) (QB aL) QG Qg (xS hok 23 Z ?_)))))))))))))))
 refine Q10 (u:=aI) 0 ((q + j).toNat) Z Z Z Z Z (QB aL) Z Z Qg Z (fun F w hφ=>⟨(aG.1,aG.2),Z,(Qe (hφ _ (Qo (k:=0) Z)) Ql)⟩) (H':=[_,_]) Z (Q2 (Qs [0,1,2] [] Z Z (QI hok Z ?_)))
 refine Qp () trivial [11,0,2,3,4] Z (asK [2] Z) Z
 refine Qk Qb 0 ((q + f).toNat) 0 Z Z Z Zq Z Z Z aW Qg QT (v:=fun aG=>.agg #[.int .i64 (aI.rule),.slice aG.1 aI.ids.length aG.2]) (fun _=>Z) (fun _=>Z) (fun aG _=>(Q2 (Qs [1] [] Z Z (xS hok 13 Z (Qk Qb 0 ((q + j).toNat) 0 Z Z Z Zq Z Z Z aV Qg QT (v:=fun aF=>.agg #[.int .i64 (aH.rule),.slice aF.1 aH.ids.length aF.2]) (fun _=>Z) (fun _=>Z) (fun aF _=>(Q2 (Qs [1,2] [] Z Z (QS hok 20 0 ((q + f).toNat) Z Z Z Zq Z Z Z Z Z (QK b1) (QB aK) QG Qg (xS hok 21 Z (Q10 (u:=aH) 0 ((q + f).toNat) Z Z Z Z Z (QB aK) Z Z Qg Z (fun F w hφ=>⟨(aF.1,aF.2),Z,(Qe (hφ _ (Qo (k:=0) Z)) Ql)⟩) (H':=[_,_]) Z (Q2 (Qs [0,1,2] [] Z Z (QS hok 22 0 ((q + j).toNat) Z Z Z Zq Z Z Z Z Z (QK b2) (QB aL) QG Qg (xS hok 23 Z ?_)))))))))))))))
 refine Q10 (u:=aI) 0 ((q + j).toNat) Z Z Z Z Z (QB aL) Z Z Qg Z (fun F w hφ=>⟨(aG.1,aG.2),Z,(Qe (hφ _ (Qo (k:=1) Z)) Ql)⟩) (H':=[_,_]) Z (Q2 (Qs [0,1,2] [] Z Z (QI hok Z ?_)))
 refine Qp () trivial [11,0,2,3,4] Z (asK [2] Z) Z
 rintro _ _
 try dsimp only
 refine Q3 (wP Z (wP Z (Q2 (Qi ?_))))
 have hE:=(Zi hm).symm
 replace hE:=Q11 hLu1 hE
 refine Q14 (_,j,(o.set ((q + f).toNat) aH).set ((q + j).toNat) aI) (Nat.lt_succ_self _) hE [10,0,2,3,4] Z (asK [0] Z) Z
end Go.Proofs.YtgangmegcejllaaGreatDoor
