import Derived.Test.YtbgodclhmgmcgaaGreatDoorXW1
namespace Go.Proofs.YtbgodclhmgmcgaaGreatDoor
open Go.RowKit
set_option maxRecDepth 100000
set_option maxHeartbeats 4000000
theorem Q9s (N:Nat) (a5:Nat) (s:OA) (z:Nat) (a0:Nat) (l0:List Q1b) (a1:Int) (a2:Bool) (o0:ByteArray) (o1:Int) (o4:List Qe) (o6:Int) (hm:Q4Y N l0 a1 a2 = some (o0,o1,o4,o6)):Q17 Tryz.prog 167 [.pointer (some ⟨a5,0,none⟩)] [] [.blk a5 [.slice s z a0,.int .i64 a1,.bool a2] 194,.own 197 3 Q10 (.slice s z a0) l0] (fun v Φr Hr=>∃ (o2:OA) (o3:Nat) (o5:Nat),v = .agg #[.int .u8 5,.string o0,.int .i64 0,.int .i64 o1,.slice o2 o5 o3] ∧ Φr = [] ∧ Hr = [.own 159 5 Qq (.slice o2 o5 o3) o4,.blk a5 [.slice s z a0,.int .i64 o6,.bool a2] 194,.own 197 3 Q10 (.slice s z a0) l0]):=by
 unfold Q4Y at hm
 refine QC Tryz.func167 Z Tryz.ntmps167 Z (S:=[_]) Z (fun C=>(Q5 (Q1 (QK Z Z Z Zq Z Q3P Z (fun g2=>(Q4 (Q3 (Q5 (Q1 (wP Z ?_))))))))))
 obtain ⟨⟨aV,aW,aE⟩,aK,hm⟩:=Q6 hm
 try dsimp only at hm
 refine wC [1,2] [0] Z Q8T Z (Q1f N a5 s z a0 l0 a1 a2 _ _ _ aK) (asK [] Z) Z (H':=[_]) Z ?_
 rintro _ _ _ ⟨rfl,rfl,rfl⟩
 refine Q1w Z Z Z Zq (Q6w Z Z Qcm Q1H Q1m (v:=.int .i64 aE) Z) (wP Z (Q4 (Q3 (Q2 [3,2,0] (S':=V3 ..) Z (Q5 (Q5 (Q1 (wP Z ?_))))))))
 obtain ⟨aX,aF,hm⟩:=Q6 hm
 refine wC [0,1] [2] Z Q86 Z (Q18 N a5 s z a0 l0 a1 a2 (⟨#[116,101,115,116]⟩ : ByteArray) _ aF) (asK [] Z) Z (H':=[_]) Z ?_
 rintro _ _ _ ⟨rfl,rfl,rfl⟩
 obtain ⟨a8,hm⟩:=Qd hm
 refine Qs (d:=11) (v':=.bool false) (S':=V4 ..) Z Z (Qy a8) (Q4 (Q3 (Q2 [11,3,2,0] (S':=V4 ..) Z (Q1l Z (Q2 [3,2,0] (S':=V3 ..) Z (Qr (Q3 (Q5 (Q1 (wP Z (Q4 (Q3 (Q5 ?_)))))))))))))
 refine Q5 (Q1 (wP Z ?_))
 obtain ⟨aY,aG,hm⟩:=Q6 hm
 refine wC [0,1] [2] Z Q86 Z (Q18 N a5 s z a0 l0 a1 a2 (⟨#[110,111,116]⟩ : ByteArray) _ aG) (asK [] Z) Z (H':=[_]) Z ?_
 rintro _ _ _ ⟨rfl,rfl,rfl⟩
 obtain ⟨a9,hm⟩:=Qd hm
 refine Qs (d:=23) (v':=.bool false) (S':=V5 ..) Z Z (Qy a9) (Q4 (Q3 (Q2 [23,5,3,2,0] (S':=V5 ..) Z (Q1l Z (Q2 [5,3,2,0] (S':=V4 ..) Z (Qr (Q3 (Q5 (Q1 (wP Z (wP Z ?_)))))))))))
 obtain ⟨⟨aL,aM⟩,aH,hm⟩:=Q6 hm
 try dsimp only at hm
 refine wC [0,1] [2] Z Qbs Z (Q1M N a5 s z a0 l0 a1 a2 2 5 _ _ aH) (asK [] Z) Z (H':=[_]) Z ?_
 rintro _ _ _ ⟨rfl,rfl,rfl⟩
 refine QK Z Z Z Zq Z Q3P Z (fun g6=>(wS 0 0 Z Q13 (all':=V5 ..) Z (H':=V4 ..) Z (Q4 (Q3 (Q2 [6,3,2,0] (S':=V4 ..) Z (Q5 (Q1 (wP Z (wF Z tF_159_3 (wS 0 3 Z Q1m (all':=V5 ..) Z (H':=V4 ..) Z (Q4 (Q3 (Q2 [6,2,0] (S':=V3 ..) Z (Q5 ?_))))))))))))))
 refine Q1 (wP Z ?_)
 obtain ⟨⟨aN,aA⟩,aI,hm⟩:=Q6 hm
 try dsimp only at hm
 refine wC [1,2] [0,3] Z fn_164 Z (Q4S N a5 s z a0 l0 (a1 + 1) a2 1 _ _ aI) (asK [] Z) Z (H':=[_,_]) Z ?_
 rintro _ _ _ ⟨aB,aC,aD,rfl,rfl,rfl⟩
 refine wF Z Q1B (wS 3 4 Z Q28 (all':=V5 ..) Z (H':=V5 ..) Z (Q4 (Q3 (Q2 [6,2,0] (S':=V3 ..) Z (Q5 (Q1 (wP Z ?_)))))))
 obtain ⟨_,aJ,hm⟩:=Q6 hm
 try dsimp only at hm
 refine wC [1,2] [0,3,4] Z QaM Z (Q1y N a5 s z a0 l0 aA a2 (⟨#[59]⟩ : ByteArray) aJ) (asK [] Z) Z (H':=V3 ..) Z ?_
 rintro _ _ _ ⟨rfl,rfl,rfl⟩
 refine Q4 (Q3 (Q2 [6,2] (S':=[_,_]) Z (Q5 (Q1 (QO 3 0 Z Z Z Zq Z Z Z (cs:=V5 ..) Z Q13 Q1V Z Z (wS 4 0 Z Q13 (all':=V5 ..) Z (H':=V5 ..) Z (Q4 (Q3 (Q2 [2] (S':=[_]) Z (Qo ?_))))))))))
 have hE:=(Zi hm).symm
 obtain ⟨hE0,hF1⟩:=Prod.mk.inj hE
 obtain ⟨hE1,hF2⟩:=Prod.mk.inj hF1
 obtain ⟨hE2,hE3⟩:=Prod.mk.inj hF2
 clear hE hF1 hF2
 replace hE0:=hE0.symm
 subst hE0
 replace hE1:=hE1.symm
 subst hE1
 replace hE2:=hE2.symm
 subst hE2
 replace hE3:=hE3.symm
 subst hE3
 refine Qp (Hr:=V3 ..) [2,0,1] Tryz.results167 (Q1e 4 Z Z Q13 Q1V Z Z) ⟨aB,aC,aD,Z,Z,Z⟩ (asK [] Z) Z Z (.inl Z)
theorem Q92 (N:Nat) (qg0:Nat) (qp1:OA) (qn2:Nat) (qc3:Nat) (l0:List Q1b) (a1:Int) (a2:Bool) (o0:Int) (hm:Q4Q N l0 a1 a2 = some o0):Q17 Tryz.prog 166 [.pointer (some ⟨qg0,0,none⟩)] [] [.blk qg0 [.slice qp1 qn2 qc3,.int .i64 a1,.bool a2] 194,.own 197 3 Q10 (.slice qp1 qn2 qc3) l0] (fun v Φr Hr=>v = .int .i64 o0 ∧ Φr = [] ∧ Hr = [.blk qg0 [.slice qp1 qn2 qc3,.int .i64 (a1 + 1),.bool a2] 194,.own 197 3 Q10 (.slice qp1 qn2 qc3) l0]):=by
 unfold Q4Q at hm
 refine QC Tryz.func166 Z Tryz.ntmps166 Z (S:=[_]) Z (fun C=>(Q5 (Q1 (wP Z (Q4 (Q3 (Q2 [0] (S':=[_]) Z (Q5 (Q1 (wP Z ?_))))))))))
 obtain ⟨⟨v7_0,v7_1,v7_2⟩,hc7,hm⟩:=Q6 hm
 try dsimp only at hm
 refine wC [0,1] [] Z Q8T Z (Q1f N qg0 qp1 qn2 qc3 l0 a1 a2 _ _ _ hc7) (asK [] Z) Z (H':=[]) Z ?_
 rintro _ _ _ ⟨rfl,rfl,rfl⟩
 refine Q1w Z Z Z Zq (Q6w Z Z tFT_197_1 Q3O Q2e (v:=.string v7_1) Z) ?_
 obtain ⟨v9,hc9,hm⟩:=Q6 hm
 refine wC [] [0,1] Z fn_202 Z (Q4p N v7_1 _ hc9) (asK [] Z) Z (H':=[_,_]) Z ?_
 rintro _ _ _ ⟨rfl,rfl,rfl⟩
 refine wP Z (wP Z (wP Z (wP Z (wP Z (Q4 (Q3 (Q2 [4,3,0] (S':=V3 ..) Z (Q5 (Q5 (Q1 (wP Z ?_)))))))))))
 obtain ⟨⟨v13_0,v13_1,v13_2⟩,hc13,hm⟩:=Q6 hm
 try dsimp only at hm
 refine wC [0,1] [] Z Q8T Z (Q1f N qg0 qp1 qn2 qc3 l0 a1 a2 _ _ _ hc13) (asK [] Z) Z (H':=[]) Z ?_
 rintro _ _ _ ⟨rfl,rfl,rfl⟩
 refine Q1w Z Z Z Zq (Q6w Z Z tFT_197_0 QbC QaO (v:=.int .u8 v13_0) Z) (wP Z (wP Z ?_))
 obtain ⟨hpr16,hm⟩:=Qd hm
 refine Qs (d:=16) (v':=.bool false) (S':=V7 ..) Z Z (Qy hpr16) (wP Z (wP Z (wP Z (wP Z ?_))))
 obtain ⟨hpr20,hm⟩:=Qd hm
 refine Qs (d:=20) (v':=.bool false) (S':=V11 ..) Z Z (Qy hpr20) (wP Z (wP Z (wP Z ?_)))
 obtain ⟨hpr23,hm⟩:=Qd hm
 refine Qs (d:=23) (v':=.bool false) (S':=V14 ..) Z Z (Qy hpr23) (Q4 (Q3 (Q2 [23,3,0] (S':=V3 ..) Z (Q1l Z (Q2 [3,0] (S':=[_,_]) Z (Qr (Q3 (Q5 (Q1 (wP Z ?_))))))))))
 obtain ⟨_,hc28,hm⟩:=Q6 hm
 try dsimp only at hm
 refine wC [0,1] [] Z fn_162 Z (Q1X N qg0 qp1 qn2 qc3 l0 a1 a2 hc28) (asK [] Z) Z (H':=[]) Z ?_
 rintro _ _ _ ⟨rfl,rfl,rfl⟩
 refine Q4 (Q3 (Q2 [3] (S':=[_]) Z (Q5 (Q1 (wP Z (wP Z (Q4 (Q3 (Q2 [2] (S':=[_]) Z (Qo ?_))))))))))
 have hE:=(Zi hm).symm
 replace hE:=hE.symm
 subst hE
 refine Qp (Hr:=[_,_]) [0,1] Tryz.results166 (Qg Z) ⟨Z,Z,Z⟩ (asK [] Z) Z Z (.inl Z)
theorem Q9C (N:Nat) (aD:Nat) (aA:OA) (aB:Nat) (aC:Nat) (l0:List Q1b) (a1:Int) (a2:Bool) (o0:Nat) (o1:ByteArray) (o2:Int) (o3:Int) (o6:List Qe) (o8:Int) (hm:Q5m N l0 a1 a2 = some (o0,o1,o2,o3,o6,o8)):Q17 Tryz.prog 168 [.pointer (some ⟨aD,0,none⟩)] [] [.blk aD [.slice aA aB aC,.int .i64 a1,.bool a2] 194,.own 197 3 Q10 (.slice aA aB aC) l0] (fun v Φr Hr=>∃ (o4:OA) (o5:Nat) (o7:Nat),v = .agg #[.int .u8 ((o0:Nat):Int),.string o1,.int .i64 o2,.int .i64 o3,.slice o4 o7 o5] ∧ Φr = [] ∧ Hr = [.own 159 5 Qq (.slice o4 o7 o5) o6,.blk aD [.slice aA aB aC,.int .i64 o8,.bool a2] 194,.own 197 3 Q10 (.slice aA aB aC) l0]):=by
 unfold Q5m at hm
 refine QC Tryz.func168 Z Tryz.ntmps168 Z (S:=[_]) Z (fun C=>(Q5 (Q1 (QK Z Z Z Zq Z Q3P Z (fun g2=>(Q4 (Q3 (Q5 (Q1 (wP Z ?_))))))))))
 obtain ⟨⟨bB,bC,aI⟩,aY,hm⟩:=Q6 hm
 try dsimp only at hm
 refine wC [1,2] [0] Z Q8T Z (Q1f N aD aA aB aC l0 a1 a2 _ _ _ aY) (asK [] Z) Z (H':=[_]) Z ?_
 rintro _ _ _ ⟨rfl,rfl,rfl⟩
 refine Q1w Z Z Z Zq (Q6w Z Z Qcm Q1H Q1m (v:=.int .i64 aI) Z) (Q1v Z Z Z Zq Z Q3P tP_159 Z (out:=V5 ..) Z (QK Z Z Z Zq Z Q3P Z (fun g3=>(wS 0 0 Z Q13 (all':=V5 ..) Z (H':=V4 ..) Z (Q4 (Q3 (Q2 [3,2,0] (S':=V3 ..) Z (Q5 ?_))))))))
 obtain ⟨aP,hm,hLj_1⟩:=Q6 hm
 unfold Q6B at hm
 refine QM (σ:=Nat × ByteArray × Int × (List Qe) × Int × OA × Nat × Nat) (fun (a7,a8,a9,a5,a6,s,z,a0)=>aP = (a7,a8,a9,a5,a6)) (fun (a7,a8,a9,a5,a6,s,z,a0)=>[(3,.pointer (some ⟨g3,0,none⟩)),(2,.pointer (some ⟨g2,0,none⟩)),(0,.pointer (some ⟨aD,0,none⟩))]) (fun (a7,a8,a9,a5,a6,s,z,a0)=>[]) (fun (a7,a8,a9,a5,a6,s,z,a0)=>[.blk g3 [.int .u8 ((a7:Nat):Int),.string a8,.int .i64 a9,.int .i64 aI,.slice s a0 z] 159,.own 159 5 Qq (.slice s a0 z) a5,.blk g2 [.int .u8 0,.string ((⟨#[]⟩ : ByteArray)),.int .i64 0,.int .i64 0,V1] 159,.blk aD [.slice aA aB aC,.int .i64 a6,.bool a2] 194,.own 197 3 Q10 (.slice aA aB aC) l0]) ?_ ?_
 refine Qw (Q5 (Q1 (wP Z ?_)))
 obtain ⟨bE,aQ,hm⟩:=Q6 hm
 refine wC [1,2] [0,3] Z Q86 Z (Q18 N aD aA aB aC l0 a1 a2 (⟨#[97,115,115,101,114,116]⟩ : ByteArray) _ aQ) (asK [] Z) Z (H':=[_,_]) Z ?_
 rintro _ _ _ ⟨rfl,rfl,rfl⟩
 refine wP Z (Q4 (Q3 (Q2 [12,3,2,0] (S':=V4 ..) Z ?_)))
 refine Qt Z (fun aG=>?_) (fun aG=>?_)
 replace hm:=QI hm aG
 refine Q2 [3,2,0] (S':=V3 ..) Z (Q5 (Q1 (wF Z Q3q (wS 2 0 Z Q3X (all':=V5 ..) Z (H':=V4 ..) Z (Q4 (Q3 (Q2 [3,2,0] (S':=V3 ..) Z (Q5 (Q1 (wP Z ?_))))))))))
 obtain ⟨_,aR,hm⟩:=Q6 hm
 try dsimp only at hm
 refine wC [0,1] [2,3] Z fn_162 Z (Q1X N aD aA aB aC l0 a1 a2 aR) (asK [] Z) Z (H':=[_,_]) Z ?_
 rintro _ _ _ ⟨rfl,rfl,rfl⟩
 refine Q4 (Q3 (Q2 [3,2,0] (S':=V3 ..) Z (Q5 (Q1 (wP Z ?_)))))
 obtain ⟨⟨aH,aZ⟩,aS,hm⟩:=Q6 hm
 try dsimp only at hm
 refine wC [0,1] [2,3] Z Qbs Z (Q1M N aD aA aB aC l0 (a1 + 1) a2 2 8 _ _ aS) (asK [] Z) Z (H':=[_,_]) Z ?_
 rintro _ _ _ ⟨rfl,rfl,rfl⟩
 refine Q1w Z Z Z Zq (Q6w Z Z tFT_159_1 Q3O Q2e (v:=.string aH) Z) (wF Z Q2x (wS 2 1 Z Q2e (all':=V5 ..) Z (H':=V4 ..) Z (Q4 (Q3 (Q2 [3,2,0] (S':=V3 ..) Z (Q1 (wP Z ?_)))))))
 obtain ⟨⟨aJ,aK⟩,aT,hm⟩:=Q6 hm
 try dsimp only at hm
 refine wC [0,1] [2,3] Z fn_164 Z (Q4S N aD aA aB aC l0 ((a1 + 1) + 1) a2 2 _ _ aT) (asK [] Z) Z (H':=[_,_]) Z ?_
 rintro _ _ _ ⟨aL,aM,aN,rfl,rfl,rfl⟩
 refine wF Z Q1B (wS 3 4 Z Q28 (all':=V5 ..) Z (H':=V5 ..) Z (Q4 (Qf ?_)))
 have hE:=(Zi hm).symm
 refine QE [3,0,4,1,2] Z (H':=V5 ..) Z ?_
 refine Qh (8,aH,0,aJ,aK,aL,aM,aN) hE [3,2,0] Z (asK [] Z) Z
 replace hm:=QH hm aG
 refine Q2 [3,2,0] (S':=V3 ..) Z (Q5 (Q1 (wP Z ?_)))
 obtain ⟨bF,aU,hm⟩:=Q6 hm
 refine wC [0,1] [2,3] Z Q86 Z (Q18 N aD aA aB aC l0 a1 a2 (⟨#[114,101,116,114,97,99,116]⟩ : ByteArray) _ aU) (asK [] Z) Z (H':=[_,_]) Z ?_
 rintro _ _ _ ⟨rfl,rfl,rfl⟩
 refine wP Z ?_
 obtain ⟨aO,hm⟩:=Qd hm
 refine Qs (d:=25) (v':=.bool true) (S':=V5 ..) Z Z (Qy aO) (Q4 (Q3 (Q2 [25,3,2,0] (S':=V4 ..) Z (Q8D Z (Q2 [3,2,0] (S':=V3 ..) Z (Q5 (Q1 (wF Z Q3q (wS 2 0 Z Q3X (all':=V5 ..) Z (H':=V4 ..) Z (Q4 (Q3 (Q2 [3,2,0] (S':=V3 ..) Z (Q5 ?_)))))))))))))
 refine Q1 (wP Z ?_)
 obtain ⟨_,aV,hm⟩:=Q6 hm
 try dsimp only at hm
 refine wC [0,1] [2,3] Z fn_162 Z (Q1X N aD aA aB aC l0 a1 a2 aV) (asK [] Z) Z (H':=[_,_]) Z ?_
 rintro _ _ _ ⟨rfl,rfl,rfl⟩
 refine Q4 (Q3 (Q2 [3,2,0] (S':=V3 ..) Z (Q1 (wP Z ?_))))
 obtain ⟨b0,aW,hm⟩:=Q6 hm
 refine wC [0,1] [2,3] Z fn_166 Z (Q92 N aD aA aB aC l0 (a1 + 1) a2 _ aW) (asK [] Z) Z (H':=[_,_]) Z ?_
 rintro _ _ _ ⟨rfl,rfl,rfl⟩
 refine wF Z Q6y (wS 2 2 Z Q1m (all':=V5 ..) Z (H':=V4 ..) Z (Q4 (Qf ?_)))
 have hE:=(Zi hm).symm
 refine Q3r 159 5 Qq (QE [3,0,4,1,2] Z (H':=V5 ..) Z ?_)
 refine Qh (9,(⟨#[]⟩ : ByteArray),b0,[],(a1 + 1) + 1,none,0,0) hE [3,2,0] Z (asK [] Z) Z
 rintro ⟨a7,a8,a9,a5,a6,s,z,a0⟩ hE
 try dsimp only
 have hm:=hLj_1
 try rw [hE] at hm
 try dsimp only at hm
 refine Q5 (Q1 (wP Z ?_))
 obtain ⟨_,aX,hm⟩:=Q6 hm
 try dsimp only at hm
 refine wC [3,4] [0,1,2] Z QaM Z (Q1y N aD aA aB aC l0 a6 a2 (⟨#[59]⟩ : ByteArray) aX) (asK [] Z) Z (H':=V3 ..) Z ?_
 rintro _ _ _ ⟨rfl,rfl,rfl⟩
 refine Q4 (Q3 (Q2 [3,2] (S':=[_,_]) Z (Q5 (Q1 (QO 2 0 Z Z Z Zq Z Z Z (cs:=V5 ..) Z Q13 Q1V Z Z (wS 4 0 Z Q13 (all':=V5 ..) Z (H':=V5 ..) Z (Q4 (Q3 (Q2 [2] (S':=[_]) Z (Qo ?_))))))))))
 have hE:=(Zi hm).symm
 obtain ⟨hE0,hF1⟩:=Prod.mk.inj hE
 obtain ⟨hE1,hF2⟩:=Prod.mk.inj hF1
 obtain ⟨hE2,hF3⟩:=Prod.mk.inj hF2
 obtain ⟨hE3,hF4⟩:=Prod.mk.inj hF3
 obtain ⟨hE4,hE5⟩:=Prod.mk.inj hF4
 clear hE hF1 hF2 hF3 hF4
 replace hE0:=hE0.symm
 subst hE0
 replace hE1:=hE1.symm
 subst hE1
 replace hE2:=hE2.symm
 subst hE2
 replace hE3:=hE3.symm
 subst hE3
 replace hE4:=hE4.symm
 subst hE4
 replace hE5:=hE5.symm
 subst hE5
 refine Qp (Hr:=V3 ..) [3,0,1] Tryz.results168 (Q1e 4 Z Z Q13 Q1V Z Z) ⟨s,z,a0,Z,Z,Z⟩ (asK [] Z) Z Z (.inl Z)
theorem Q9t (N:Nat) (aO:Nat) (aL:OA) (aM:Nat) (aN:Nat) (l0:List Q1b) (a1:Int) (a2:Bool) (o0:Nat) (o1:ByteArray) (o2:Int) (o5:List Qe) (o7:Int) (hm:Q4Z N l0 a1 a2 = some (o0,o1,o2,o5,o7)):Q17 Tryz.prog 125 [.pointer (some ⟨aO,0,none⟩)] [] [.blk aO [.slice aL aM aN,.int .i64 a1,.bool a2] 194,.own 197 3 Q10 (.slice aL aM aN) l0] (fun v Φr Hr=>∃ (o3:OA) (o4:Nat) (o6:Nat),v = .agg #[.int .u8 ((o0:Nat):Int),.string o1,.int .i64 0,.int .i64 o2,.slice o3 o6 o4] ∧ Φr = [] ∧ Hr = [.own 159 5 Qq (.slice o3 o6 o4) o5,.blk aO [.slice aL aM aN,.int .i64 o7,.bool a2] 194,.own 197 3 Q10 (.slice aL aM aN) l0]):=by
 unfold Q4Z at hm
 refine QC Tryz.func125 Z Tryz.ntmps125 Z (S:=[_]) Z (fun C=>(Q5 (Q1 (QK Z Z Z Zq Z Q3P Z (fun g2=>(Q4 (Q3 (Q5 (Q1 (wP Z ?_))))))))))
 obtain ⟨⟨cS,cT,b0⟩,cE,hm⟩:=Q6 hm
 try dsimp only at hm
 refine wC [1,2] [0] Z Q8T Z (Q1f N aO aL aM aN l0 a1 a2 _ _ _ cE) (asK [] Z) Z (H':=[_]) Z ?_
 rintro _ _ _ ⟨rfl,rfl,rfl⟩
 refine Q1w Z Z Z Zq (Q6w Z Z Qcm Q1H Q1m (v:=.int .i64 b0) Z) (Q1v Z Z Z Zq Z Q3P tP_159 Z (out:=V5 ..) Z (QK Z Z Z Zq Z Q3P Z (fun g3=>(wS 0 0 Z Q13 (all':=V5 ..) Z (H':=V4 ..) Z (Q4 (Q3 (Q2 [3,2,0] (S':=V3 ..) Z (Q5 (Q5 (Q1 (wP Z ?_)))))))))))
 obtain ⟨cU,bX,hm⟩:=Q6 hm
 refine wC [1,2] [0,3] Z Q86 Z (Q18 N aO aL aM aN l0 a1 a2 (⟨#[102,97,99,116]⟩ : ByteArray) _ bX) (asK [] Z) Z (H':=[_,_]) Z ?_
 rintro _ _ _ ⟨rfl,rfl,rfl⟩
 refine Q4 (Q3 (Q2 [10,3,2,0] (S':=V4 ..) Z ?_))
 refine Qt Z (fun b8=>?_) (fun b8=>?_)
 replace hm:=QI hm b8
 refine Q2 [3,2,0] (S':=V3 ..) Z (Q5 (Q1 (wF Z Q3q (wS 2 0 Z Q3X (all':=V5 ..) Z (H':=V4 ..) Z (Q4 (Q3 (Q2 [3,2,0] (S':=V3 ..) Z (Q5 (Q1 (wP Z ?_))))))))))
 obtain ⟨_,bY,hm⟩:=Q6 hm
 try dsimp only at hm
 refine wC [0,1] [2,3] Z fn_162 Z (Q1X N aO aL aM aN l0 a1 a2 bY) (asK [] Z) Z (H':=[_,_]) Z ?_
 rintro _ _ _ ⟨rfl,rfl,rfl⟩
 refine Q4 (Q3 (Q2 [3,2,0] (S':=V3 ..) Z (Q5 (Q1 (wP Z ?_)))))
 obtain ⟨⟨bJ,cF⟩,bZ,hm⟩:=Q6 hm
 try dsimp only at hm
 refine wC [0,1] [2,3] Z Qbs Z (Q1M N aO aL aM aN l0 (a1 + 1) a2 2 2 _ _ bZ) (asK [] Z) Z (H':=[_,_]) Z ?_
 rintro _ _ _ ⟨rfl,rfl,rfl⟩
 refine Q1w Z Z Z Zq (Q6w Z Z tFT_159_1 Q3O Q2e (v:=.string bJ) Z) (wF Z Q2x (wS 2 1 Z Q2e (all':=V5 ..) Z (H':=V4 ..) Z (Q4 (Q3 (Q2 [3,2,0] (S':=V3 ..) Z (Q5 (Q1 (wP Z ?_))))))))
 obtain ⟨⟨cG,bK⟩,c0,hm⟩:=Q6 hm
 try dsimp only at hm
 refine wC [0,1] [2,3] Z fn_164 Z (Q4S N aO aL aM aN l0 ((a1 + 1) + 1) a2 0 _ _ c0) (asK [] Z) Z (H':=[_,_]) Z ?_
 rintro _ _ _ ⟨bL,bM,bN,rfl,rfl,rfl⟩
 refine wF Z Q1B (wS 3 4 Z Q28 (all':=V5 ..) Z (H':=V5 ..) Z (Q4 (Q3 (Q2 [3,2,0] (S':=V3 ..) Z (Q5 (Q1 (wP Z ?_)))))))
 obtain ⟨_,c1,hm⟩:=Q6 hm
 try dsimp only at hm
 refine wC [1,2] [0,3,4] Z QaM Z (Q1y N aO aL aM aN l0 bK a2 (⟨#[59]⟩ : ByteArray) c1) (asK [] Z) Z (H':=V3 ..) Z ?_
 rintro _ _ _ ⟨rfl,rfl,rfl⟩
 refine Q4 (Q3 (Q2 [3,2] (S':=[_,_]) Z (Q5 (Q1 (QO 3 0 Z Z Z Zq Z Z Z (cs:=V5 ..) Z Q13 Q1V Z Z (wS 4 0 Z Q13 (all':=V5 ..) Z (H':=V5 ..) Z (Q4 (Q3 (Q2 [2] (S':=[_]) Z (Qo (Q9 ?_)))))))))))
 have hE:=(Zi hm).symm
 obtain ⟨hE0,hF1⟩:=Prod.mk.inj hE
 obtain ⟨hE1,hF2⟩:=Prod.mk.inj hF1
 obtain ⟨hE2,hF3⟩:=Prod.mk.inj hF2
 obtain ⟨hE3,hE4⟩:=Prod.mk.inj hF3
 clear hE hF1 hF2 hF3
 replace hE0:=hE0.symm
 subst hE0
 replace hE1:=hE1.symm
 subst hE1
 replace hE2:=hE2.symm
 subst hE2
 replace hE3:=hE3.symm
 subst hE3
 replace hE4:=hE4.symm
 subst hE4
 refine Qp (Hr:=V3 ..) [2,0,1] Tryz.results125 (Q1e 4 Z Z Q13 Q1V Z Z) ⟨bL,bM,bN,Z,Z,Z⟩ (asK [] Z) Z Z (.inl Z)
 replace hm:=QH hm b8
 refine Q2 [3,2,0] (S':=V3 ..) Z (Qr (Q3 (Q5 (Q1 (wF Z Q3q (wS 2 0 Z Q3X (all':=V5 ..) Z (H':=V4 ..) Z (Q4 (Q3 (Q2 [3,2,0] (S':=V3 ..) Z (Q5 (Q1 (wP Z ?_))))))))))))
 obtain ⟨_,c2,hm⟩:=Q6 hm
 try dsimp only at hm
 refine wC [0,1] [2,3] Z QaM Z (Q1y N aO aL aM aN l0 a1 a2 (⟨#[114,117,108,101]⟩ : ByteArray) c2) (asK [] Z) Z (H':=[_,_]) Z ?_
 rintro _ _ _ ⟨rfl,rfl,rfl⟩
 refine Q4 (Q3 (Q2 [3,2,0] (S':=V3 ..) Z (Q5 (Q1 (wP Z ?_)))))
 obtain ⟨⟨aZ,cH⟩,c3,hm⟩:=Q6 hm
 try dsimp only at hm
 refine wC [0,1] [2,3] Z Qbs Z (Q1M N aO aL aM aN l0 (a1 + 1) a2 2 4 _ _ c3) (asK [] Z) Z (H':=[_,_]) Z ?_
 rintro _ _ _ ⟨rfl,rfl,rfl⟩
 refine Q1w Z Z Z Zq (Q6w Z Z tFT_159_1 Q3O Q2e (v:=.string aZ) Z) (wF Z Q2x (wS 2 1 Z Q2e (all':=V5 ..) Z (H':=V4 ..) Z (Q4 (Q3 (Q2 [3,2,0] (S':=V3 ..) Z (Q5 (Q5 (Q1 (wP Z ?_)))))))))
 obtain ⟨cV,c4,hm⟩:=Q6 hm
 refine wC [0,1] [2,3] Z Q86 Z (Q18 N aO aL aM aN l0 ((a1 + 1) + 1) a2 (⟨#[115,97,108,105,101,110,99,101]⟩ : ByteArray) _ c4) (asK [] Z) Z (H':=[_,_]) Z ?_
 rintro _ _ _ ⟨rfl,rfl,rfl⟩
 obtain ⟨bO,hm⟩:=Qd hm
 refine Qs (d:=32) (v':=.bool false) (S':=V4 ..) Z Z (Qy bO) (Q4 (Q3 (Q2 [32,3,2,0] (S':=V4 ..) Z (Q1l Z (Q2 [3,2,0] (S':=V3 ..) Z (Qr (Q3 (Q5 (Q1 (wP Z ?_))))))))))
 obtain ⟨_,c5,hm⟩:=Q6 hm
 try dsimp only at hm
 refine wC [0,1] [2,3] Z QaM Z (Q1y N aO aL aM aN l0 ((a1 + 1) + 1) a2 (⟨#[123]⟩ : ByteArray) c5) (asK [] Z) Z (H':=[_,_]) Z ?_
 rintro _ _ _ ⟨rfl,rfl,rfl⟩
 refine Q4 (Q3 (Q2 [3,2,0] (S':=V3 ..) Z (Q5 ?_)))
 obtain ⟨bF,hm,hLj_1⟩:=Q6 hm
 refine QM (σ:=(List Qe) × Int × OA × Nat × Nat) (fun (a0,aJ,a5,a6,a7)=>bF = (a0,aJ)) (fun (a0,aJ,a5,a6,a7)=>[(3,.pointer (some ⟨g3,0,none⟩)),(2,.pointer (some ⟨g2,0,none⟩)),(0,.pointer (some ⟨aO,0,none⟩))]) (fun (a0,aJ,a5,a6,a7)=>[]) (fun (a0,aJ,a5,a6,a7)=>[.blk g3 [.int .u8 4,.string aZ,.int .i64 0,.int .i64 b0,.slice a5 a7 a6] 159,.own 159 5 Qq (.slice a5 a7 a6) a0,.blk g2 [.int .u8 0,.string ((⟨#[]⟩ : ByteArray)),.int .i64 0,.int .i64 0,V1] 159,.blk aO [.slice aL aM aN,.int .i64 aJ,.bool a2] 194,.own 197 3 Q10 (.slice aL aM aN) l0]) ?_ ?_
 refine Qw (Q5b 159 5 Qq (Q7M [3,0,4,1,2] Z (H':=V5 ..) Z (Q1j (σ:=Nat × (List Qe) × Int × OA × Nat × Nat) (fun (b1,s,aH,a8,a9,aA)=>Q1h (Q47 N a2 l0) b1 (s,aH) = some bF) (fun (b1,s,aH,a8,a9,aA)=>b1) (fun (b1,s,aH,a8,a9,aA)=>[(3,.pointer (some ⟨g3,0,none⟩)),(2,.pointer (some ⟨g2,0,none⟩)),(0,.pointer (some ⟨aO,0,none⟩))]) (fun (b1,s,aH,a8,a9,aA)=>[]) (fun (b1,s,aH,a8,a9,aA)=>[.blk g3 [.int .u8 4,.string aZ,.int .i64 0,.int .i64 b0,.slice a8 aA a9] 159,.own 159 5 Qq (.slice a8 aA a9) s,.blk g2 [.int .u8 0,.string ((⟨#[]⟩ : ByteArray)),.int .i64 0,.int .i64 0,V1] 159,.blk aO [.slice aL aM aN,.int .i64 aH,.bool a2] 194,.own 197 3 Q10 (.slice aL aM aN) l0]) (N,[],((a1 + 1) + 1) + 1,none,0,0) hm [3,2,0] Z (asK [] Z) Z (fun s_ hm=>?_))))
 obtain ⟨b1,s,aH,a8,a9,aA⟩:=s_
 try dsimp only at hm ⊢
 obtain ⟨cW,cX,c6,hq,hLu1⟩:=QV hm
 clear hm
 subst c6
 replace hm:=hq
 clear hq
 unfold Q47 at hm
 try dsimp only at hm
 refine Q5 (Q5 (Q1 (wP Z (wP Z (wF Z Q8y (wD 3 2 Z tS_4 tA_4 Z (wP Z (wP Z ?_))))))))
 obtain ⟨bP,hm⟩:=Qd hm
 refine Qs (d:=51) (v':=.bool true) (S':=V8 ..) Z Z (Qy bP) (wP Z ?_)
 obtain ⟨cY,c7,hm⟩:=Q6 hm
 refine wC [3,4] [0,1,2] Z Q86 Z (Q18 N aO aL aM aN l0 aH a2 (⟨#[61,62]⟩ : ByteArray) _ c7) (asK [] Z) Z (H':=V3 ..) Z ?_
 rintro _ _ _ ⟨rfl,rfl,rfl⟩
 refine wP Z (wP Z (Q4 (Q3 (Q2 [55,3,2,0] (S':=V4 ..) Z ?_))))
 refine Qt Z (fun b9=>?_) (fun b9=>?_)
 replace hm:=QI hm b9
 refine Q2 [3,2,0] (S':=V3 ..) Z (Qr (Q3 (Qw ?_)))
 obtain ⟨⟨aS,aT,aQ,bQ⟩,c8,hm⟩:=Q6 hm
 try dsimp only at hm
 obtain ⟨bG,hm⟩:=Qd hm
 refine QW [0,1,2,6] Z Z (fun hok=>(Q8 hok 0 Z Z Z Zq Z Z Z Q1B (Qn hok 1 2 4 Z Z Z Zq Z Z Z Z (cs:=[_]) Z Q28 Q2w Z Z (xP hok 2 Z (xS hok 3 Z (wC [0,1] [2,3,4] Z fn_167 Z (Q9s N aO aL aM aN l0 aH a2 _ _ _ _ c8) (asK [] Z) Z (H':=V3 ..) Z ?_))))))
 rintro _ _ _ ⟨b2,b3,cI,rfl,rfl,rfl⟩
 refine Q4 (QJ [] [3] Z Z (xS hok 4 Z (QB Z Z Z Zq Z Q1S Q13 Q3P Z (zs:=[.int .u8 0,.string ((⟨#[]⟩ : ByteArray)),.int .i64 0,.int .i64 0,V1]) (by kernel_rfl) Z (out:=V5 ..) Z (fun cZ=>(Q4 (QJ [] [4] Z Z (xS hok 5 Z (QQ 1 Z (fun bA _=>?_)))))))))
 subst bA
 refine Q1P 1 Z (H':=V6 ..) Z (Q2n (.sli 5 Qq b2 b3 aQ) (fun F w hφ=>Q1A (hφ _ (Q12 (k:=0) Z))) (Q2p ([(⟨5,aS,0,aT,aQ⟩ : Qe)]) 4 0 Z Z Z Zq Z Z Z Z Z (fun F w hφ=>⟨[.int .u8 5,.string aS,.int .i64 0,.int .i64 aT,.slice b2 aQ.length b3],[],Z,Z,(Q7B (b2,b3) Z (Q14 (hφ _ (Q12 (k:=0) Z)) Qu)),Z⟩) Q1S tR_159 Z Z (Nat.le_trans bG (by decide)) (Nat.le_trans (Nat.mul_le_mul_right _ bG) (by decide)) (H2:=fun bR bS=>[_,_,_,_,.own 159 5 Qq (.slice bR ((s ++ ([(⟨5,aS,0,aT,aQ⟩ : Qe)])).length) bS) (s ++ ([(⟨5,aS,0,aT,aQ⟩ : Qe)])),_]) (fun _ _=>Z) (fun bR bS=>(Q3R 0 Z (H':=V5 ..) Z (Q4 (QJ [] [] Z Z (Q8 hok 6 Z Z Z Zq Z Z Z Q1B (xS hok 7 Z (wS 2 4 Z Q28 (all':=V5 ..) Z (H':=V5 ..) Z (Q4 (QJ [0,1] [] Z Z (QS hok Z (Qf ?_)))))))))))))
 have hE:=(Zi hm).symm
 replace hE:=QF hLu1 hE
 refine QE [2,3,4,0,1] Z (H':=V5 ..) Z ?_
 refine QU (_,(s ++ ([(⟨5,aS,0,aT,aQ⟩ : Qe)])),bQ,bR,bS,((s ++ ([(⟨5,aS,0,aT,aQ⟩ : Qe)])).length)) (Nat.lt_succ_self _) hE [3,2,0] Z (asK [] Z) Z
 replace hm:=QH hm b9
 refine Q2 [3,2,0] (S':=V3 ..) Z (Q1g (Qj (Qj (QD ?_))))
 have hE:=(Zi hm).symm
 replace hE:=Qx hLu1 hE
 refine QE [2,3,4,0,1] Z (H':=V5 ..) Z ?_
 refine Qh (s,aH,a8,a9,aA) hE [3,2,0] Z (asK [] Z) Z
 rintro ⟨a0,aJ,a5,a6,a7⟩ hE
 try dsimp only
 have hm:=hLj_1
 try rw [hE] at hm
 try dsimp only at hm
 refine Q5 (Q1 (wP Z ?_))
 obtain ⟨_,c9,hm⟩:=Q6 hm
 try dsimp only at hm
 refine wC [3,4] [0,1,2] Z QaM Z (Q1y N aO aL aM aN l0 aJ a2 (⟨#[61,62]⟩ : ByteArray) c9) (asK [] Z) Z (H':=V3 ..) Z ?_
 rintro _ _ _ ⟨rfl,rfl,rfl⟩
 refine Q4 (Q3 (Q2 [3,2,0] (S':=V3 ..) Z (Q5 ?_)))
 obtain ⟨bH,hm,hLj_2⟩:=Q6 hm
 refine QM (σ:=(List Qe) × Int × OA × Nat × Nat) (fun (aK,aP,aB,aC,aD)=>bH = (aK,aP)) (fun (aK,aP,aB,aC,aD)=>[(3,.pointer (some ⟨g3,0,none⟩)),(2,.pointer (some ⟨g2,0,none⟩)),(0,.pointer (some ⟨aO,0,none⟩))]) (fun (aK,aP,aB,aC,aD)=>[]) (fun (aK,aP,aB,aC,aD)=>[.blk g3 [.int .u8 4,.string aZ,.int .i64 0,.int .i64 b0,.slice aB aD aC] 159,.own 159 5 Qq (.slice aB aD aC) aK,.blk g2 [.int .u8 0,.string ((⟨#[]⟩ : ByteArray)),.int .i64 0,.int .i64 0,V1] 159,.blk aO [.slice aL aM aN,.int .i64 aP,.bool a2] 194,.own 197 3 Q10 (.slice aL aM aN) l0]) ?_ ?_
 refine Qw (Q7M [2,3,4,0,1] Z (H':=V5 ..) Z (Q1j (σ:=Nat × (List Qe) × Int × OA × Nat × Nat) (fun (b4,z,aI,aE,aF,aG)=>Q1h (Q48 N a2 l0) b4 (z,aI) = some bH) (fun (b4,z,aI,aE,aF,aG)=>b4) (fun (b4,z,aI,aE,aF,aG)=>[(3,.pointer (some ⟨g3,0,none⟩)),(2,.pointer (some ⟨g2,0,none⟩)),(0,.pointer (some ⟨aO,0,none⟩))]) (fun (b4,z,aI,aE,aF,aG)=>[]) (fun (b4,z,aI,aE,aF,aG)=>[.blk g3 [.int .u8 4,.string aZ,.int .i64 0,.int .i64 b0,.slice aE aG aF] 159,.own 159 5 Qq (.slice aE aG aF) z,.blk g2 [.int .u8 0,.string ((⟨#[]⟩ : ByteArray)),.int .i64 0,.int .i64 0,V1] 159,.blk aO [.slice aL aM aN,.int .i64 aI,.bool a2] 194,.own 197 3 Q10 (.slice aL aM aN) l0]) (N,a0,aJ + 1,a5,a6,a7) hm [3,2,0] Z (asK [] Z) Z (fun s_ hm=>?_)))
 obtain ⟨b4,z,aI,aE,aF,aG⟩:=s_
 try dsimp only at hm ⊢
 obtain ⟨d0,d1,cA,hq,hLu2⟩:=QV hm
 clear hm
 subst cA
 replace hm:=hq
 clear hq
 unfold Q48 at hm
 try dsimp only at hm
 refine Q5 (Q5 (Q1 (wP Z (wP Z (wF Z Q8y (wD 3 2 Z tS_4 tA_4 Z (wP Z (wP Z ?_))))))))
 obtain ⟨bT,hm⟩:=Qd hm
 refine Qs (d:=70) (v':=.bool true) (S':=V8 ..) Z Z (Qy bT) (wP Z ?_)
 obtain ⟨d2,cB,hm⟩:=Q6 hm
 refine wC [3,4] [0,1,2] Z Q86 Z (Q18 N aO aL aM aN l0 aI a2 (⟨#[125]⟩ : ByteArray) _ cB) (asK [] Z) Z (H':=V3 ..) Z ?_
 rintro _ _ _ ⟨rfl,rfl,rfl⟩
 refine wP Z (wP Z (Q4 (Q3 (Q2 [74,3,2,0] (S':=V4 ..) Z ?_))))
 refine Qt Z (fun bB=>?_) (fun bB=>?_)
 replace hm:=QI hm bB
 refine Q2 [3,2,0] (S':=V3 ..) Z (Qr (Q3 (Qw ?_)))
 obtain ⟨⟨aU,aV,aW,aX,aR,bU⟩,cC,hm⟩:=Q6 hm
 try dsimp only at hm
 obtain ⟨bI,hm⟩:=Qd hm
 refine QW [0,1,2,6] Z Z (fun hok=>(Q8 hok 0 Z Z Z Zq Z Z Z Q1B (Qn hok 1 2 4 Z Z Z Zq Z Z Z Z (cs:=[_]) Z Q28 Q2w Z Z (xP hok 2 Z (xS hok 3 Z (wC [0,1] [2,3,4] Z fn_168 Z (Q9C N aO aL aM aN l0 aI a2 _ _ _ _ _ _ cC) (asK [] Z) Z (H':=V3 ..) Z ?_))))))
 rintro _ _ _ ⟨b5,b6,cJ,rfl,rfl,rfl⟩
 refine Q4 (QJ [] [3] Z Z (xS hok 4 Z (QB Z Z Z Zq Z Q1S Q13 Q3P Z (zs:=[.int .u8 0,.string ((⟨#[]⟩ : ByteArray)),.int .i64 0,.int .i64 0,V1]) (by kernel_rfl) Z (out:=V5 ..) Z (fun d3=>(Q4 (QJ [] [4] Z Z (xS hok 5 Z (QQ 1 Z (fun bC _=>?_)))))))))
 subst bC
 refine Q1P 1 Z (H':=V6 ..) Z (Q2n (.sli 5 Qq b5 b6 aR) (fun F w hφ=>Q1A (hφ _ (Q12 (k:=0) Z))) (Q2p ([(⟨(((aU:Nat):Int)),aV,aW,aX,aR⟩ : Qe)]) 4 0 Z Z Z Zq Z Z Z Z Z (fun F w hφ=>⟨[.int .u8 ((aU:Nat):Int),.string aV,.int .i64 aW,.int .i64 aX,.slice b5 aR.length b6],[],Z,Z,(Q7B (b5,b6) Z (Q14 (hφ _ (Q12 (k:=0) Z)) Qu)),Z⟩) Q1S tR_159 Z Z (Nat.le_trans bI (by decide)) (Nat.le_trans (Nat.mul_le_mul_right _ bI) (by decide)) (H2:=fun bV bW=>[_,_,_,_,.own 159 5 Qq (.slice bV ((z ++ ([(⟨(((aU:Nat):Int)),aV,aW,aX,aR⟩ : Qe)])).length) bW) (z ++ ([(⟨(((aU:Nat):Int)),aV,aW,aX,aR⟩ : Qe)])),_]) (fun _ _=>Z) (fun bV bW=>(Q3R 0 Z (H':=V5 ..) Z (Q4 (QJ [] [] Z Z (Q8 hok 6 Z Z Z Zq Z Z Z Q1B (xS hok 7 Z (wS 2 4 Z Q28 (all':=V5 ..) Z (H':=V5 ..) Z (Q4 (QJ [0,1] [] Z Z (QS hok Z (Qf ?_)))))))))))))
 have hE:=(Zi hm).symm
 replace hE:=QF hLu2 hE
 refine QE [2,3,4,0,1] Z (H':=V5 ..) Z ?_
 refine QU (_,(z ++ ([(⟨(((aU:Nat):Int)),aV,aW,aX,aR⟩ : Qe)])),bU,bV,bW,((z ++ ([(⟨(((aU:Nat):Int)),aV,aW,aX,aR⟩ : Qe)])).length)) (Nat.lt_succ_self _) hE [3,2,0] Z (asK [] Z) Z
 replace hm:=QH hm bB
 refine Q2 [3,2,0] (S':=V3 ..) Z (Q1g (Qj (Qj (QD ?_))))
 have hE:=(Zi hm).symm
 replace hE:=Qx hLu2 hE
 refine QE [2,3,4,0,1] Z (H':=V5 ..) Z ?_
 refine Qh (z,aI,aE,aF,aG) hE [3,2,0] Z (asK [] Z) Z
 rintro ⟨aK,aP,aB,aC,aD⟩ hE
 try dsimp only
 have hm:=hLj_2
 try rw [hE] at hm
 try dsimp only at hm
 refine Q5 (Q1 (wP Z ?_))
 obtain ⟨_,cD,hm⟩:=Q6 hm
 try dsimp only at hm
 refine wC [3,4] [0,1,2] Z QaM Z (Q1y N aO aL aM aN l0 aP a2 (⟨#[125]⟩ : ByteArray) cD) (asK [] Z) Z (H':=V3 ..) Z ?_
 rintro _ _ _ ⟨rfl,rfl,rfl⟩
 refine Q4 (Q3 (Q2 [3,2] (S':=[_,_]) Z (Q5 (Q1 (QO 2 0 Z Z Z Zq Z Z Z (cs:=V5 ..) Z Q13 Q1V Z Z (wS 4 0 Z Q13 (all':=V5 ..) Z (H':=V5 ..) Z (Q4 (Q3 (Q2 [2] (S':=[_]) Z (Qo ?_))))))))))
 have hE:=(Zi hm).symm
 obtain ⟨hE0,hF1⟩:=Prod.mk.inj hE
 obtain ⟨hE1,hF2⟩:=Prod.mk.inj hF1
 obtain ⟨hE2,hF3⟩:=Prod.mk.inj hF2
 obtain ⟨hE3,hE4⟩:=Prod.mk.inj hF3
 clear hE hF1 hF2 hF3
 replace hE0:=hE0.symm
 subst hE0
 replace hE1:=hE1.symm
 subst hE1
 replace hE2:=hE2.symm
 subst hE2
 replace hE3:=hE3.symm
 subst hE3
 replace hE4:=hE4.symm
 subst hE4
 refine Qp (Hr:=V3 ..) [3,0,1] Tryz.results125 (Q1e 4 Z Z Q13 Q1V Z Z) ⟨aB,aC,aD,Z,Z,Z⟩ (asK [] Z) Z Z (.inl Z)
theorem QaX (N:Nat) (rc:Int → ByteArray → Int → Int → (List Qe) → Int → Option (Unit)) (ih : ∀ (a0:Int) (a1:ByteArray) (a2:Int) (a3:Int) (z:OA) (a6:Nat) (l4:List Qe) (a5:Int),rc a0 a1 a2 a3 l4 a5 = some () → Q17 Tryz.prog 126 [.agg #[.int .u8 a0,.string a1,.int .i64 a2,.int .i64 a3,.slice z l4.length a6],.int .i64 a5] [.sli 5 Qq z a6 l4] [] (fun v Φr Hr=>v = .int .i64 (-1) ∧ Φr = [] ∧ Hr = [])) (a0:Int) (a1:ByteArray) (a2:Int) (a3:Int) (z:OA) (a6:Nat) (l4:List Qe) (a5:Int)  (hm:Q6T N rc a0 a1 a2 a3 l4 a5 = some ()):Q17 Tryz.prog 126 [.agg #[.int .u8 a0,.string a1,.int .i64 a2,.int .i64 a3,.slice z l4.length a6],.int .i64 a5] [.sli 5 Qq z a6 l4] [] (fun v Φr Hr=>v = .int .i64 (-1) ∧ Φr = [] ∧ Hr = []):=by
 unfold Q6T at hm
 refine QC Tryz.func126 Z Tryz.ntmps126 Z (S:=[_,_]) Z (fun C=>(Q5 (Q1 (wB Z (fun g2=>(wP Z (Q4 (Q3 (Q2 [2,1] (S':=[_,_]) Z (Q5 (Q5 (Q1 (wP Z (wP Z ?_))))))))))))))
 obtain ⟨aF,hm⟩:=Qd hm
 refine Qs (d:=8) (v':=.bool false) (S':=V3 ..) Z Z (Qy aF) (Q4 (Q3 (Q2 [8,2,1] (S':=V3 ..) Z (Q1l Z (Q2 [2,1] (S':=[_,_]) Z (Qr (Q3 (Q5 ?_))))))))
 obtain ⟨aC,hm,hLj_1⟩:=Q6 hm
 refine QM (σ:=Unit) (fun _=>aC = ()) (fun _=>[]) (fun _=>[]) (fun _=>[]) ?_ ?_
 refine Q5 (Q1 (wP Z (Q4 (Q3 (Qw (Q1j (σ:=Nat × Nat) (fun (a7,s)=>Q1h (Q6s N l4 a5 rc) a7 s = some aC) (fun (a7,s)=>a7) (fun (a7,s)=>[(5,.int .i64 ((s:Nat):Int)),(2,.pointer (some ⟨g2,0,none⟩)),(1,.int .i64 a5)]) (fun (a7,s)=>[.sli 5 Qq z a6 l4]) (fun (a7,s)=>[.blk g2 [.int .u8 a0,.string a1,.int .i64 a2,.int .i64 a3,.slice z l4.length a6] 159]) (N,0) hm [5,2,1] Z (asK [0] Z) Z (fun s_ hm=>?_)))))))
 obtain ⟨a7,s⟩:=s_
 try dsimp only at hm ⊢
 obtain ⟨aQ,aR,aG,hq,hLu1⟩:=QV hm
 clear hm
 subst aG
 replace hm:=hq
 clear hq
 unfold Q6s at hm
 try dsimp only at hm
 refine Q5 (Q5 (Q1 (wP Z (wF Z Q1B (wD 0 4 Z Q28 Q2w Z (wN Z Q1S (wP Z (Qs (d:=15) (v':=.bool (decide (s < l4.length))) (S':=V7 ..) Z Z (Q2l (a:=s) (b:=l4.length)) (Q4 (Q3 (Q2 [15,5,2,1] (S':=V4 ..) Z ?_)))))))))))
 refine Qt Z (fun a9=>?_) (fun a9=>?_)
 replace hm:=QI hm a9
 refine Q2 [5,2,1] (S':=V3 ..) Z (Qr (Q3 (Q5 (Qw (Q5 (Q1 (wF Z Q1B (wD 0 4 Z Q28 Q2w Z (wP Z ?_)))))))))
 obtain ⟨aA,aH,hm⟩:=Q6 hm
 refine Q1a 0 s Z Z Z Zq Z Z Z Z Z aH Q1S Q13 (fun aS aT aP aN=>(Q1G Q1q 1 Z (fun aI aJ _=>?_)))
 subst aJ
 refine Q1F 1 0 Z Z Z Zq Z Z Z (cs:=V5 ..) Z Q13 Q1V Z Z (wP Z (wP Z ?_))
 obtain ⟨aK,hm⟩:=Qd hm
 refine Qs (d:=24) (v':=.int .i64 (a5 + 1)) (S':=V9 ..) Z Z (i64_in aK) ?_
 obtain ⟨_,aL,hm⟩:=Q6 hm
 try dsimp only at hm
 refine wC [] [0] Z fn_126 Z (ih aA.kind aA.text aA.num aA.at_ aI.1 aI.2 aA.kids (a5 + 1) aL) (asK [0] Z) Z (H':=[_]) Z ?_
 rintro _ _ _ ⟨rfl,rfl,rfl⟩
 refine wP Z (Q4 (Q3 (Q2 [6,5,2,1] (S':=V4 ..) Z (Q5 (Q1 (wP Z (wP Z (Qs (d:=27) (v':=.bool false) (S':=V5 ..) Z Z Z (Q4 (Q3 (Q2 [27,6,5,2,1] (S':=V5 ..) Z (Q1l Z (Q2 [5,2,1] (S':=V3 ..) Z ?_)))))))))))))
 refine Qr (Qf (Q3 (Q1 (wP Z (wP Z ?_)))))
 obtain ⟨aM,hm⟩:=Qd hm
 refine Qs (d:=17) (v':=.int .i64 ((s + 1:Nat):Int)) (S':=V4 ..) Z Z (Q1r (a:=s) (b:=1) aM) (QT (S':=V4 ..) Z Z Z Z Z (Q4 ?_))
 have hE:=(Zi hm).symm
 replace hE:=QF hLu1 hE
 refine QU (_,s + 1) (Nat.lt_succ_self _) hE [5,2,1] Z (asK [3] Z) Z
 replace hm:=QH hm a9
 refine Q2 [] (S':=[]) Z (Q1g (Qj (Qj (QD ?_))))
 have hE:=(Zi hm).symm
 replace hE:=Qx hLu1 hE
 refine QE [] Z (H':=[]) Z ?_
 refine Qh () hE [] Z (asK [] Z) Z
 rintro _ hE
 try dsimp only
 have hm:=hLj_1
 try rw [hE] at hm
 try dsimp only at hm
 refine Q5 (Q1 (wP Z (Q4 (Q3 (Qo ?_)))))
 have hE:=(Zi hm).symm
 refine Qp (Hr:=[]) [] Tryz.results126 (Qg Z) ⟨Z,Z,Z⟩ (asK [] Z) Z Z (.inl Z)
theorem QbT : ∀ (N:Nat),∀ (a0:Int) (a1:ByteArray) (a2:Int) (a3:Int) (qp0:OA) (qc1:Nat) (l4:List Qe) (a5:Int),Q5R N a0 a1 a2 a3 l4 a5 = some () → Q17 Tryz.prog 126 [.agg #[.int .u8 a0,.string a1,.int .i64 a2,.int .i64 a3,.slice qp0 l4.length qc1],.int .i64 a5] [.sli 5 Qq qp0 qc1 l4] [] (fun v Φr Hr=>v = .int .i64 (-1) ∧ Φr = [] ∧ Hr = []):=by
 intro N
 induction N with
 | zero=>intro a0 a1 a2 a3 qp0 qc1 l4 a5 hm; cases hm
 | succ N ih=>intro a0 a1 a2 a3 qp0 qc1 l4 a5 hm; exact QaX N (Q5R N) ih a0 a1 a2 a3 qp0 qc1 l4 a5 hm
theorem Qas (N:Nat) (rc:Int → ByteArray → Int → Int → (List Qe) → Option (Nat)) (ih : ∀ (a0:Int) (a1:ByteArray) (a2:Int) (a3:Int) (a6:OA) (a7:Nat) (l4:List Qe) (o0:Nat),rc a0 a1 a2 a3 l4 = some o0 → Q17 Tryz.prog 127 [.agg #[.int .u8 a0,.string a1,.int .i64 a2,.int .i64 a3,.slice a6 l4.length a7]] [.sli 5 Qq a6 a7 l4] [] (fun v Φr Hr=>v = .int .i64 ((o0:Nat):Int) ∧ Φr = [] ∧ Hr = [])) (a0:Int) (a1:ByteArray) (a2:Int) (a3:Int) (a6:OA) (a7:Nat) (l4:List Qe) (o0:Nat) (hm:Q6r N rc a0 a1 a2 a3 l4 = some o0):Q17 Tryz.prog 127 [.agg #[.int .u8 a0,.string a1,.int .i64 a2,.int .i64 a3,.slice a6 l4.length a7]] [.sli 5 Qq a6 a7 l4] [] (fun v Φr Hr=>v = .int .i64 ((o0:Nat):Int) ∧ Φr = [] ∧ Hr = []):=by
 unfold Q6r at hm
 refine QC Tryz.func127 Z Tryz.ntmps127 Z (S:=[_]) Z (fun C=>(Q5 (Q1 (wB Z (fun g1=>(wP Z (Q4 (Q3 (Q2 [1] (S':=[_]) Z (Q5 (Q1 (wP Z (Q4 (Q3 (Q5 ?_)))))))))))))))
 obtain ⟨aB,hm,hLj_1⟩:=Q6 hm
 refine QM (σ:=Nat) (fun a5=>aB = a5) (fun a5=>[(3,.int .i64 ((a5:Nat):Int))]) (fun a5=>[]) (fun a5=>[]) ?_ ?_
 refine Q5 (Q1 (wP Z (Q4 (Q3 (Qw (Q1j (σ:=Nat × Nat × Nat) (fun (a8,s,z)=>Q1h (Q63 N l4 rc) a8 (s,z) = some aB) (fun (a8,s,z)=>a8) (fun (a8,s,z)=>[(4,.int .i64 ((s:Nat):Int)),(3,.int .i64 ((z:Nat):Int)),(1,.pointer (some ⟨g1,0,none⟩))]) (fun (a8,s,z)=>[.sli 5 Qq a6 a7 l4]) (fun (a8,s,z)=>[.blk g1 [.int .u8 a0,.string a1,.int .i64 a2,.int .i64 a3,.slice a6 l4.length a7] 159]) (N,0,1) hm [4,3,1] Z (asK [0] Z) Z (fun s_ hm=>?_)))))))
 obtain ⟨a8,s,z⟩:=s_
 try dsimp only at hm ⊢
 obtain ⟨aR,aS,aH,hq,hLu1⟩:=QV hm
 clear hm
 subst aH
 replace hm:=hq
 clear hq
 unfold Q63 at hm
 try dsimp only at hm
 refine Q5 (Q5 (Q1 (wP Z (wF Z Q1B (wD 0 4 Z Q28 Q2w Z (wN Z Q1S (wP Z (Qs (d:=9) (v':=.bool (decide (s < l4.length))) (S':=V7 ..) Z Z (Q2l (a:=s) (b:=l4.length)) (Q4 (Q3 (Q2 [9,4,3,1] (S':=V4 ..) Z ?_)))))))))))
 refine Qt Z (fun aC=>?_) (fun aC=>?_)
 replace hm:=QI hm aC
 refine Q2 [4,3,1] (S':=V3 ..) Z (Qr (Q3 (Q5 (Qw (Q1 (wP Z (wF Z Q1B (wD 0 4 Z Q28 Q2w Z (wP Z ?_)))))))))
 obtain ⟨aA,aI,hm⟩:=Q6 hm
 refine Q1a 0 s Z Z Z Zq Z Z Z Z Z aI Q1S Q13 (fun aT aU aQ aO=>(Q1G Q1q 1 Z (fun aJ aK _=>?_)))
 subst aK
 refine Q1F 1 0 Z Z Z Zq Z Z Z (cs:=V5 ..) Z Q13 Q1V Z Z ?_
 obtain ⟨aD,aL,hm⟩:=Q6 hm
 refine wC [] [0] Z fn_127 Z (ih aA.kind aA.text aA.num aA.at_ aJ.1 aJ.2 aA.kids _ aL) (asK [0] Z) Z (H':=[_]) Z ?_
 rintro _ _ _ ⟨rfl,rfl,rfl⟩
 refine wP Z ?_
 obtain ⟨aM,hm⟩:=Qd hm
 refine Qs (d:=19) (v':=.int .i64 ((z + aD:Nat):Int)) (S':=V10 ..) Z Z (Q1r (a:=z) (b:=aD) aM) (QT (S':=V10 ..) Z Z Z Z Z (Q4 (Qf (Q3 (Q2 [3,4,1] (S':=V3 ..) Z (Q1 (wP Z (wP Z ?_))))))))
 obtain ⟨aN,hm⟩:=Qd hm
 refine Qs (d:=11) (v':=.int .i64 ((s + 1:Nat):Int)) (S':=V4 ..) Z Z (Q1r (a:=s) (b:=1) aN) (QT (S':=V4 ..) Z Z Z Z Z (Q4 ?_))
 have hE:=(Zi hm).symm
 replace hE:=QF hLu1 hE
 refine QU (_,s + 1,z + aD) (Nat.lt_succ_self _) hE [4,3,1] Z (asK [3] Z) Z
 replace hm:=QH hm aC
 refine Q2 [3] (S':=[_]) Z (Q1g (Qj (Qj (QD ?_))))
 have hE:=(Zi hm).symm
 replace hE:=Qx hLu1 hE
 refine QE [] Z (H':=[]) Z ?_
 refine Qh z hE [3] Z (asK [] Z) Z
 rintro a5 hE
 try dsimp only
 have hm:=hLj_1
 try rw [hE] at hm
 refine Q5 (Q1 (wP Z (wP Z (Q4 (Q3 (Q2 [2] (S':=[_]) Z (Qo ?_)))))))
 have hE:=(Zi hm).symm
 replace hE:=hE.symm
 subst hE
 refine Qp (Hr:=[]) [] Tryz.results127 (Qg Z) ⟨Z,Z,Z⟩ (asK [] Z) Z Z (.inl Z)
theorem Qbk : ∀ (N:Nat),∀ (a0:Int) (a1:ByteArray) (a2:Int) (a3:Int) (qp0:OA) (qc1:Nat) (l4:List Qe) (o0:Nat),Q5x N a0 a1 a2 a3 l4 = some o0 → Q17 Tryz.prog 127 [.agg #[.int .u8 a0,.string a1,.int .i64 a2,.int .i64 a3,.slice qp0 l4.length qc1]] [.sli 5 Qq qp0 qc1 l4] [] (fun v Φr Hr=>v = .int .i64 ((o0:Nat):Int) ∧ Φr = [] ∧ Hr = []):=by
 intro N
 induction N with
 | zero=>intro a0 a1 a2 a3 qp0 qc1 l4 o0 hm; cases hm
 | succ N ih=>intro a0 a1 a2 a3 qp0 qc1 l4 o0 hm; exact Qas N (Q5x N) ih a0 a1 a2 a3 qp0 qc1 l4 o0 hm
theorem Qar (N:Nat) (a0:ByteArray) (o2:List Qe) (hm:Q6q N a0 = some o2):Q17 Tryz.prog 93 [.string a0] [] [] (fun v Φr Hr=>∃ (o0:OA) (o1:Nat) (o3:Nat),v = .tuple #[.agg #[.int .u8 1,.string ((⟨#[]⟩ : ByteArray)),.int .i64 0,.int .i64 0,.slice o0 o3 o1],.agg #[.int .i64 0,.int .i64 0]] ∧ Φr = [] ∧ Hr = [.own 159 5 Qq (.slice o0 o3 o1) o2]):=by
 unfold Q6q at hm
 refine QC Tryz.func93 Z Tryz.ntmps93 Z (S:=[_]) Z (fun C=>(Q5 (Q1 (QK Z Z Z Zq Z Q3P Z (fun g2=>(QK Z Z Z Zq Z QaP Z (fun g3=>(Q4 (Q3 (Q5 (Q1 (wP Z ?_))))))))))))
 obtain ⟨aO,aZ,hm⟩:=Q6 hm
 refine wC [] [0,1] Z fn_123 Z (QaT N a0 _ aZ) (asK [] Z) Z (H':=[_,_]) Z ?_
 rintro _ _ _ ⟨aD,aE,aF,rfl,rfl,rfl⟩
 refine wP Z (wP Z (wP Z (QK Z Z Z Zq Z QaP Z (fun g5=>(wP Z (wS 0 0 Z Qag (all':=[_,_]) Z (H':=V4 ..) Z (Q4 (Q3 (Q2 [4,5,3,2] (S':=V4 ..) Z (Q5 (Q5 (Q1 (wF Z Qb8 (wD 0 0 Z tS_32 tA_32 Z ?_))))))))))))))
 refine wP Z (Qs (d:=16) (v':=.bool false) (S':=V6 ..) Z Z Z (Q4 (Q3 (Q2 [16,4,5,3,2] (S':=V5 ..) Z (Q1l Z (Q2 [4,3,2] (S':=V3 ..) Z (Qr (Q3 (Q5 (Q1 (wP Z (Q1v Z Z Z Zq Z tZ_194 tP_194 Z (out:=V3 ..) Z (wB Z (fun aN=>?_))))))))))))))
 refine wP Z (Q4 (Q3 (Q2 [6,3,2] (S':=V3 ..) Z (Q5 (Q1 (Q1v Z Z Z Zq Z Q3P tP_159 Z (out:=V5 ..) Z (QK Z Z Z Zq Z Q3P Z (fun g7=>(wS 0 0 Z Q13 (all':=V5 ..) Z (H':=V6 ..) Z (Q4 (Q3 (Q2 [7,6,3,2] (S':=V4 ..) Z (Q5 ?_)))))))))))))
 obtain ⟨aR,hm,hLj_1⟩:=Q6 hm
 refine QM (σ:=(List Qe) × Int × OA × Nat × Nat) (fun (z,aB,a1,a5,aA)=>aR = (z,aB)) (fun (z,aB,a1,a5,aA)=>[(7,.pointer (some ⟨g7,0,none⟩)),(6,.pointer (some ⟨aN,0,none⟩)),(3,.pointer (some ⟨g3,0,none⟩)),(2,.pointer (some ⟨g2,0,none⟩))]) (fun (z,aB,a1,a5,aA)=>[]) (fun (z,aB,a1,a5,aA)=>[.blk g7 [.int .u8 1,.string ((⟨#[]⟩ : ByteArray)),.int .i64 0,.int .i64 0,.slice a1 aA a5] 159,.own 159 5 Qq (.slice a1 aA a5) z,.blk aN [.slice aD aF aE,.int .i64 aB,.bool false] 194,.own 197 3 Q10 (.slice aD aF aE) aO,.blk g3 [.int .i64 0,.int .i64 0] 113,.blk g2 [.int .u8 0,.string ((⟨#[]⟩ : ByteArray)),.int .i64 0,.int .i64 0,V1] 159]) ?_ ?_
 refine Qw (Q5b 159 5 Qq (Q7M [1,0,2,4,5,6] Z (H':=V6 ..) Z (Q1j (σ:=Nat × (List Qe) × Int × OA × Nat × Nat) (fun (aK,s,a9,a6,a7,a8)=>Q1h (Q5l N aO) aK (s,a9) = some aR) (fun (aK,s,a9,a6,a7,a8)=>aK) (fun (aK,s,a9,a6,a7,a8)=>[(7,.pointer (some ⟨g7,0,none⟩)),(6,.pointer (some ⟨aN,0,none⟩)),(3,.pointer (some ⟨g3,0,none⟩)),(2,.pointer (some ⟨g2,0,none⟩))]) (fun (aK,s,a9,a6,a7,a8)=>[]) (fun (aK,s,a9,a6,a7,a8)=>[.blk g7 [.int .u8 1,.string ((⟨#[]⟩ : ByteArray)),.int .i64 0,.int .i64 0,.slice a6 a8 a7] 159,.own 159 5 Qq (.slice a6 a8 a7) s,.blk aN [.slice aD aF aE,.int .i64 a9,.bool false] 194,.own 197 3 Q10 (.slice aD aF aE) aO,.blk g3 [.int .i64 0,.int .i64 0] 113,.blk g2 [.int .u8 0,.string ((⟨#[]⟩ : ByteArray)),.int .i64 0,.int .i64 0,V1] 159]) (N,[],0,none,0,0) hm [7,6,3,2] Z (asK [] Z) Z (fun s_ hm=>?_))))
 obtain ⟨aK,s,a9,a6,a7,a8⟩:=s_
 try dsimp only at hm ⊢
 obtain ⟨bH,bI,b0,hq,hLu1⟩:=QV hm
 clear hm
 subst b0
 replace hm:=hq
 clear hq
 unfold Q5l at hm
 try dsimp only at hm
 refine Q5 (Q5 (Q1 (wP Z (wP Z (wF Z Q8y (wD 2 2 Z tS_4 tA_4 Z (wP Z (wP Z (wP Z ?_)))))))))
 obtain ⟨⟨aT,bA,bB⟩,b1,hm⟩:=Q6 hm
 try dsimp only at hm
 refine wC [2,3] [0,1,4,5] Z Q8T Z (Q1f N aN aD aF aE aO a9 false _ _ _ b1) (asK [] Z) Z (H':=V4 ..) Z ?_
 rintro _ _ _ ⟨rfl,rfl,rfl⟩
 refine Q1w Z Z Z Zq (Q6w Z Z tFT_197_0 QbC QaO (v:=.int .u8 aT) Z) (wP Z (wP Z (Q4 (Q3 (Q2 [33,7,6,3,2] (S':=V5 ..) Z ?_)))))
 refine Qt Z (fun aP=>?_) (fun aP=>?_)
 replace hm:=QI hm aP
 refine Q2 [7,6,3,2] (S':=V4 ..) Z (Qr (Q3 (Qw ?_)))
 obtain ⟨⟨aG,aH,aI,aC,aU⟩,b2,hm⟩:=Q6 hm
 try dsimp only at hm
 obtain ⟨aS,hm⟩:=Qd hm
 refine QW [0,1,2,6] Z Z (fun hok=>(Q8 hok 0 Z Z Z Zq Z Z Z Q1B (Qn hok 1 2 4 Z Z Z Zq Z Z Z Z (cs:=[_]) Z Q28 Q2w Z Z (xP hok 2 Z (xS hok 3 Z (wC [0,1] [2,3,4,5] Z fn_125 Z (Q9t N aN aD aF aE aO a9 false _ _ _ _ _ b2) (asK [] Z) Z (H':=V4 ..) Z ?_))))))
 rintro _ _ _ ⟨aL,aM,bC,rfl,rfl,rfl⟩
 refine Q4 (QJ [] [3] Z Z (xS hok 4 Z (QB Z Z Z Zq Z Q1S Q13 Q3P Z (zs:=[.int .u8 0,.string ((⟨#[]⟩ : ByteArray)),.int .i64 0,.int .i64 0,V1]) (by kernel_rfl) Z (out:=V5 ..) Z (fun bJ=>(Q4 (QJ [] [4] Z Z (xS hok 5 Z (QQ 1 Z (fun aQ _=>?_)))))))))
 subst aQ
 refine Q1P 1 Z (H':=V7 ..) Z (Q2n (.sli 5 Qq aL aM aC) (fun F w hφ=>Q1A (hφ _ (Q12 (k:=0) Z))) (Q2p ([(⟨(((aG:Nat):Int)),aH,0,aI,aC⟩ : Qe)]) 4 0 Z Z Z Zq Z Z Z Z Z (fun F w hφ=>⟨[.int .u8 ((aG:Nat):Int),.string aH,.int .i64 0,.int .i64 aI,.slice aL aC.length aM],[],Z,Z,(Q7B (aL,aM) Z (Q14 (hφ _ (Q12 (k:=0) Z)) Qu)),Z⟩) Q1S tR_159 Z Z (Nat.le_trans aS (by decide)) (Nat.le_trans (Nat.mul_le_mul_right _ aS) (by decide)) (H2:=fun aV aW=>[_,_,_,_,.own 159 5 Qq (.slice aV ((s ++ ([(⟨(((aG:Nat):Int)),aH,0,aI,aC⟩ : Qe)])).length) aW) (s ++ ([(⟨(((aG:Nat):Int)),aH,0,aI,aC⟩ : Qe)])),_,_]) (fun _ _=>Z) (fun aV aW=>(Q3R 0 Z (H':=V6 ..) Z (Q4 (QJ [] [] Z Z (Q8 hok 6 Z Z Z Zq Z Z Z Q1B (xS hok 7 Z (wS 2 4 Z Q28 (all':=V5 ..) Z (H':=V6 ..) Z (Q4 (QJ [0,1] [] Z Z (QS hok Z (Qf ?_)))))))))))))
 have hE:=(Zi hm).symm
 replace hE:=QF hLu1 hE
 refine QE [2,3,0,1,4,5] Z (H':=V6 ..) Z ?_
 refine QU (_,(s ++ ([(⟨(((aG:Nat):Int)),aH,0,aI,aC⟩ : Qe)])),aU,aV,aW,((s ++ ([(⟨(((aG:Nat):Int)),aH,0,aI,aC⟩ : Qe)])).length)) (Nat.lt_succ_self _) hE [7,6,3,2] Z (asK [] Z) Z
 replace hm:=QH hm aP
 refine Q2 [7,6,3,2] (S':=V4 ..) Z (Q1g (Qj (Qj (QD ?_))))
 have hE:=(Zi hm).symm
 replace hE:=Qx hLu1 hE
 refine QE [2,3,0,1,4,5] Z (H':=V6 ..) Z ?_
 refine Qh (s,a9,a6,a7,a8) hE [7,6,3,2] Z (asK [] Z) Z
 rintro ⟨z,aB,a1,a5,aA⟩ hE
 try dsimp only
 have hm:=hLj_1
 try rw [hE] at hm
 try dsimp only at hm
 refine Q5 (Q5 (Q1 (wP Z (wP Z (wF Z Q8y (wD 2 2 Z tS_4 tA_4 Z ?_))))))
 obtain ⟨aX,hm⟩:=Qd hm
 refine Qs (d:=44) (v':=.bool false) (S':=V7 ..) Z Z (Qy aX) (Q4 (Q3 (Q2 [44,7,6,3,2] (S':=V5 ..) Z (Q1l Z (Q2 [7,3,2] (S':=V3 ..) Z (Qr (Q3 (Q5 (Q1 (QO 0 0 Z Z Z Zq Z Z Z (cs:=V5 ..) Z Q13 Q1V Z Z (QQ 1 Z (fun aJ _=>?_))))))))))))
 subst aJ
 obtain ⟨_,b3,hm⟩:=Q6 hm
 try dsimp only at hm
 refine Q53 [] [0,1,2,3,4,5] [1] Z Z Z Zq Z Z fn_126 Z (QbT N 1 (⟨#[]⟩ : ByteArray) 0 0 a1 a5 z 0 b3) (fun F w hφ hh=>(Q14 (Q1A (hh _ (Q12 (k:=0) Z))) Qu)) (fun _ _ _ hR=>by obtain ⟨rfl,rfl,rfl⟩:=hR; exact ⟨Z,(fun _ h=>Q3G h)⟩) Z Z (H':=V6 ..) Z ?_
 rintro _ _ _ ⟨rfl,rfl,rfl⟩
 refine wP Z (Q4 (Q3 (Q2 [8,7,3,2] (S':=V4 ..) Z (Q5 (Q5 (Q1 (wP Z (wP Z (Qs (d:=53) (v':=.bool false) (S':=V5 ..) Z Z Z (Q4 (Q3 (Q2 [53,8,7,3,2] (S':=V5 ..) Z (Q1l Z ?_)))))))))))))
 refine Q2 [7,3,2] (S':=V3 ..) Z (Qr (Q3 (Q5 (Q5 (Q1 (QO 0 0 Z Z Z Zq Z Z Z (cs:=V5 ..) Z Q13 Q1V Z Z ?_))))))
 obtain ⟨b4,b5,hm⟩:=Q6 hm
 refine Q53 [] [0,1,2,3,4,5] [1] Z Z Z Zq Z Z fn_127 Z (Qbk N 1 (⟨#[]⟩ : ByteArray) 0 0 a1 a5 z _ b5) (fun F w hφ hh=>(Q14 (Q1A (hh _ (Q12 (k:=0) Z))) Qu)) (fun _ _ _ hR=>by obtain ⟨rfl,rfl,rfl⟩:=hR; exact ⟨Z,(fun _ h=>Q3G h)⟩) Z Z (H':=V6 ..) Z ?_
 rintro _ _ _ ⟨rfl,rfl,rfl⟩
 refine wP Z (Qs (d:=59) (v':=.bool (decide (4096 < b4))) (S':=V5 ..) Z Z (natgt (a:=b4) (b:=4096)) ?_)
 obtain ⟨aY,hm⟩:=Qd hm
 refine Qs (d:=59) (v':=.bool false) (S':=V5 ..) Z Z (Qy aY) (Q4 (Q3 (Q2 [59,7,3,2] (S':=V4 ..) Z (Q1l Z (Q2 [7,3,2] (S':=V3 ..) Z (Qr (Q3 (Q5 (Q1 (QO 0 0 Z Z Z Zq Z Z Z (cs:=V5 ..) Z Q13 Q1V Z Z (Q1v Z Z Z Zq Z QaP tP_113 Z (out:=[_,_]) Z (wS 5 0 Z Q13 (all':=V5 ..) Z (H':=V6 ..) Z (wS 4 0 Z Qag (all':=[_,_]) Z (H':=V6 ..) Z ?_)))))))))))))
 refine Q4 (Q3 (Q2 [3,2] (S':=[_,_]) Z (Qo ?_)))
 have hE:=(Zi hm).symm
 replace hE:=hE.symm
 subst hE
 refine Q1D (Hr:=[_]) [1] Tryz.results93 (Q1e 5 Z Z Q13 Q1V Z Z) (Q1e 4 Z Z Qag tA_113 Z Z) ⟨a1,a5,z.length,Z,Z,Z⟩ (asK [] Z) Z Z (.inl Z)
theorem Q8i (N:Nat) (a0:ByteArray) (a5:OA) (a6:Nat) (l1:List ByteArray) (o0:Bool) (hm:Q5w N a0 l1 = some o0):Q17 Tryz.prog 235 [.string a0,.slice a5 l1.length a6] [.sli 1 Q1u a5 a6 l1] [] (fun v Φr Hr=>v = .bool o0 ∧ Φr = [] ∧ Hr = []):=by
 unfold Q5w at hm
 refine QC Tryz.func235 Z Tryz.ntmps235 Z (S:=[_,_]) Z (fun C=>(Q5 (Q1 (wP Z (Q4 (Q3 (Q2 [0,1] (S':=[_,_]) Z (Q5 ?_))))))))
 obtain ⟨a8,hm,hLj_1⟩:=Q1o hm
 refine QM (σ:=Unit) (fun _=>a8 = .inl ()) (fun _=>[]) (fun _=>[]) (fun _=>[]) ?_ ?_
 refine Q5 (Q1 (wP Z (Q4 (Q3 (Qw (Q1j (σ:=Nat × Nat) (fun (z,s)=>Q1h (Q61 N l1 a0) z s = some a8) (fun (z,s)=>z) (fun (z,s)=>[(5,.int .i64 ((s:Nat):Int)),(0,.string a0),(1,.slice a5 l1.length a6)]) (fun (z,s)=>[.sli 1 Q1u a5 a6 l1]) (fun (z,s)=>[]) (N,0) hm [5,0,1] Z (asK [0] Z) Z (fun s_ hm=>?_)))))))
 obtain ⟨z,s⟩:=s_
 try dsimp only at hm ⊢
 obtain ⟨aI,aJ,aA,hq,hLu1⟩:=QV hm
 clear hm
 subst aA
 replace hm:=hq
 clear hq
 unfold Q61 at hm
 try dsimp only at hm
 refine Q5 (Q5 (Q1 (wP Z (wP Z (wN Z Q22 (wP Z (Qs (d:=9) (v':=.bool (decide (s < l1.length))) (S':=V6 ..) Z Z (Q2l (a:=s) (b:=l1.length)) (Q4 (Q3 (Q2 [9,5,0,1] (S':=V4 ..) Z ?_))))))))))
 refine Qt Z (fun a9=>?_) (fun a9=>?_)
 replace hm:=QI hm a9
 refine Q2 [5,0,1] (S':=V3 ..) Z (Qr (Q3 (Q5 (Qw (Q5 (Q1 (wP Z (wP Z ?_))))))))
 obtain ⟨aK,aB,hm⟩:=Q6 hm
 refine Q1a 0 s Z Z Z Zq Z Z Z Z Z aB Q22 Q2e (fun aL aM aH aF=>(Q1G Q6A 1 Z (fun aN aC _=>?_)))
 subst aC
 refine Q1F 0 0 Z Z Z Zq Z Z Z (cs:=[_]) Z Q2e Q3O Z Z (wP Z (wP Z (Q4 (Q3 (Q2 [17,5,0,1] (S':=V4 ..) Z ?_)))))
 refine Qt Z (fun a1=>?_) (fun a1=>?_)
 replace hm:=QI hm a1
 refine Q2 [] (S':=[]) Z (Q5 (Q1 (wP Z (Q4 (Q3 (Qo (Qk (Q9 (Q9 (Qk (Q9 ?_)))))))))))
 have hE:=(Zi hm).symm
 replace hE:=Qx hLu1 hE
 replace hE:=Qx hLj_1 hE
 replace hE:=hE.symm
 subst hE
 refine Qp (Hr:=[]) [] Tryz.results235 (Qg Z) ⟨Z,Z,Z⟩ (asK [] Z) Z Z (.inl Z)
 replace hm:=QH hm a1
 refine Q2 [5,0,1] (S':=V3 ..) Z (Qr (Qf (Q3 (Q1 (wP Z (wP Z ?_))))))
 obtain ⟨aD,hm⟩:=Qd hm
 refine Qs (d:=11) (v':=.int .i64 ((s + 1:Nat):Int)) (S':=V4 ..) Z Z (Q1r (a:=s) (b:=1) aD) (QT (S':=V4 ..) Z Z Z Z Z (Q4 ?_))
 have hE:=(Zi hm).symm
 replace hE:=QF hLu1 hE
 refine QU (_,s + 1) (Nat.lt_succ_self _) hE [5,0,1] Z (asK [2] Z) Z
 replace hm:=QH hm a9
 refine Q2 [] (S':=[]) Z (Q1g (Qj (Qj (QD ?_))))
 have hE:=(Zi hm).symm
 replace hE:=Qx hLu1 hE
 refine Qh () hE [] Z (asK [] Z) Z
 rintro _ hE
 try dsimp only
 have hm:=QF hLj_1 hE
 try dsimp only at hm
 refine Q5 (Q1 (wP Z (Q4 (Q3 (Qo ?_)))))
 have hE:=(Zi hm).symm
 replace hE:=hE.symm
 subst hE
 refine Qp (Hr:=[]) [] Tryz.results235 (Qg Z) ⟨Z,Z,Z⟩ (asK [] Z) Z Z (.inl Z)
theorem Q3Q (N:Nat) (a0:ByteArray) (o0:Bool) (hm:Q2R N a0 = some o0):Q17 Tryz.prog 223 [.string a0] [] [] (fun v Φr Hr=>v = .bool o0 ∧ Φr = [] ∧ Hr = []):=by
 unfold Q2R at hm
 refine QC Tryz.func223 Z Tryz.ntmps223 Z (S:=[_]) Z (fun C=>(Q5 (Q1 (wP Z (Q4 (Q3 (Q2 [0] (S':=[_]) Z (Q5 (Q1 (wP Z ?_))))))))))
 obtain ⟨v4,a5,hm⟩:=Q6 hm
 refine wC [] [] Z fn_70 Z (Q6z N a0 _ a5) (asK [] Z) Z (H':=[]) Z ?_
 rintro _ _ _ ⟨rfl,rfl,rfl⟩
 refine wP Z ?_
 obtain ⟨s,hm⟩:=Qd hm
 refine Qs (d:=5) (v':=.bool true) (S':=V3 ..) Z Z (Qy s) (wP Z ?_)
 obtain ⟨_,a6,hm⟩:=Q6 hm
 try dsimp only at hm
 refine wC [] [] Z fn_220 Z (Q8h N  a6) (asK [] Z) Z (H':=[]) Z ?_
 rintro _ _ _ ⟨z,rfl,rfl,rfl⟩
 refine Q1Z (sz:=1) (m:=11) Q1u ([(⟨#[102,97,99,116]⟩ : ByteArray),(⟨#[114,117,108,101]⟩ : ByteArray),(⟨#[115,97,108,105,101,110,99,101]⟩ : ByteArray),(⟨#[110,111,116]⟩ : ByteArray),(⟨#[116,101,115,116]⟩ : ByteArray),(⟨#[97,115,115,101,114,116]⟩ : ByteArray),(⟨#[114,101,116,114,97,99,116]⟩ : ByteArray),(⟨#[115,97,121]⟩ : ByteArray),(⟨#[104,97,108,116]⟩ : ByteArray),(⟨#[97,110,100]⟩ : ByteArray),(⟨#[111,114]⟩ : ByteArray)]) 0 Z (fun F w hφ=>⟨[.string ((⟨#[102,97,99,116]⟩ : ByteArray))],[.string ((⟨#[114,117,108,101]⟩ : ByteArray)),.string ((⟨#[115,97,108,105,101,110,99,101]⟩ : ByteArray)),.string ((⟨#[110,111,116]⟩ : ByteArray)),.string ((⟨#[116,101,115,116]⟩ : ByteArray)),.string ((⟨#[97,115,115,101,114,116]⟩ : ByteArray)),.string ((⟨#[114,101,116,114,97,99,116]⟩ : ByteArray)),.string ((⟨#[115,97,121]⟩ : ByteArray)),.string ((⟨#[104,97,108,116]⟩ : ByteArray)),.string ((⟨#[97,110,100]⟩ : ByteArray)),.string ((⟨#[111,114]⟩ : ByteArray))],Z,Z,⟨(),Z,Qu⟩,⟨[.string ((⟨#[114,117,108,101]⟩ : ByteArray))],[.string ((⟨#[115,97,108,105,101,110,99,101]⟩ : ByteArray)),.string ((⟨#[110,111,116]⟩ : ByteArray)),.string ((⟨#[116,101,115,116]⟩ : ByteArray)),.string ((⟨#[97,115,115,101,114,116]⟩ : ByteArray)),.string ((⟨#[114,101,116,114,97,99,116]⟩ : ByteArray)),.string ((⟨#[115,97,121]⟩ : ByteArray)),.string ((⟨#[104,97,108,116]⟩ : ByteArray)),.string ((⟨#[97,110,100]⟩ : ByteArray)),.string ((⟨#[111,114]⟩ : ByteArray))],Z,Z,⟨(),Z,Qu⟩,⟨[.string ((⟨#[115,97,108,105,101,110,99,101]⟩ : ByteArray))],[.string ((⟨#[110,111,116]⟩ : ByteArray)),.string ((⟨#[116,101,115,116]⟩ : ByteArray)),.string ((⟨#[97,115,115,101,114,116]⟩ : ByteArray)),.string ((⟨#[114,101,116,114,97,99,116]⟩ : ByteArray)),.string ((⟨#[115,97,121]⟩ : ByteArray)),.string ((⟨#[104,97,108,116]⟩ : ByteArray)),.string ((⟨#[97,110,100]⟩ : ByteArray)),.string ((⟨#[111,114]⟩ : ByteArray))],Z,Z,⟨(),Z,Qu⟩,⟨[.string ((⟨#[110,111,116]⟩ : ByteArray))],[.string ((⟨#[116,101,115,116]⟩ : ByteArray)),.string ((⟨#[97,115,115,101,114,116]⟩ : ByteArray)),.string ((⟨#[114,101,116,114,97,99,116]⟩ : ByteArray)),.string ((⟨#[115,97,121]⟩ : ByteArray)),.string ((⟨#[104,97,108,116]⟩ : ByteArray)),.string ((⟨#[97,110,100]⟩ : ByteArray)),.string ((⟨#[111,114]⟩ : ByteArray))],Z,Z,⟨(),Z,Qu⟩,⟨[.string ((⟨#[116,101,115,116]⟩ : ByteArray))],[.string ((⟨#[97,115,115,101,114,116]⟩ : ByteArray)),.string ((⟨#[114,101,116,114,97,99,116]⟩ : ByteArray)),.string ((⟨#[115,97,121]⟩ : ByteArray)),.string ((⟨#[104,97,108,116]⟩ : ByteArray)),.string ((⟨#[97,110,100]⟩ : ByteArray)),.string ((⟨#[111,114]⟩ : ByteArray))],Z,Z,⟨(),Z,Qu⟩,⟨[.string ((⟨#[97,115,115,101,114,116]⟩ : ByteArray))],[.string ((⟨#[114,101,116,114,97,99,116]⟩ : ByteArray)),.string ((⟨#[115,97,121]⟩ : ByteArray)),.string ((⟨#[104,97,108,116]⟩ : ByteArray)),.string ((⟨#[97,110,100]⟩ : ByteArray)),.string ((⟨#[111,114]⟩ : ByteArray))],Z,Z,⟨(),Z,Qu⟩,⟨[.string ((⟨#[114,101,116,114,97,99,116]⟩ : ByteArray))],[.string ((⟨#[115,97,121]⟩ : ByteArray)),.string ((⟨#[104,97,108,116]⟩ : ByteArray)),.string ((⟨#[97,110,100]⟩ : ByteArray)),.string ((⟨#[111,114]⟩ : ByteArray))],Z,Z,⟨(),Z,Qu⟩,⟨[.string ((⟨#[115,97,121]⟩ : ByteArray))],[.string ((⟨#[104,97,108,116]⟩ : ByteArray)),.string ((⟨#[97,110,100]⟩ : ByteArray)),.string ((⟨#[111,114]⟩ : ByteArray))],Z,Z,⟨(),Z,Qu⟩,⟨[.string ((⟨#[104,97,108,116]⟩ : ByteArray))],[.string ((⟨#[97,110,100]⟩ : ByteArray)),.string ((⟨#[111,114]⟩ : ByteArray))],Z,Z,⟨(),Z,Qu⟩,⟨[.string ((⟨#[97,110,100]⟩ : ByteArray))],[.string ((⟨#[111,114]⟩ : ByteArray))],Z,Z,⟨(),Z,Qu⟩,⟨[.string ((⟨#[111,114]⟩ : ByteArray))],[],Z,Z,⟨(),Z,Qu⟩,Z⟩⟩⟩⟩⟩⟩⟩⟩⟩⟩⟩) Z (by decide) (H':=[_]) Z ?_
 obtain ⟨v8,a7,hm⟩:=Q6 hm
 refine Q53 [] [0] [0] Z Z Z Zq Z Z fn_235 Z (Q8i N a0 (some ⟨z,0,none⟩) 11 [(⟨#[102,97,99,116]⟩ : ByteArray),(⟨#[114,117,108,101]⟩ : ByteArray),(⟨#[115,97,108,105,101,110,99,101]⟩ : ByteArray),(⟨#[110,111,116]⟩ : ByteArray),(⟨#[116,101,115,116]⟩ : ByteArray),(⟨#[97,115,115,101,114,116]⟩ : ByteArray),(⟨#[114,101,116,114,97,99,116]⟩ : ByteArray),(⟨#[115,97,121]⟩ : ByteArray),(⟨#[104,97,108,116]⟩ : ByteArray),(⟨#[97,110,100]⟩ : ByteArray),(⟨#[111,114]⟩ : ByteArray)] _ a7) (fun F w hφ hh=>(Q14 (Q1A (hh _ (Q12 (k:=0) Z))) Qu)) (fun _ _ _ hR=>by obtain ⟨rfl,rfl,rfl⟩:=hR; exact ⟨Z,(fun _ h=>Q3G h)⟩) Z Z (H':=[_]) Z ?_
 rintro _ _ _ ⟨rfl,rfl,rfl⟩
 refine wP Z (wP Z (wP Z (Q4 (Q3 (Q2 [2] (S':=[_]) Z (Qo ?_))))))
 have hE:=(Zi hm).symm
 replace hE:=hE.symm
 subst hE
 refine Qp (Hr:=[]) [] Tryz.results223 (Qg Z) ⟨Z,Z,Z⟩ (asK [] Z) Z Z (.inl Z)
theorem QbS (N:Nat) (a0:Int) (o0:Bool) (hm:Q7v N a0 = some o0):Q17 Tryz.prog 236 [.int .u8 a0] [] [] (fun v Φr Hr=>v = .bool o0 ∧ Φr = [] ∧ Hr = []):=by
 unfold Q7v at hm
 refine QC Tryz.func236 Z Tryz.ntmps236 Z (S:=[_]) Z (fun C=>(Q5 (Q1 (wP Z (Q4 (Q3 (Q2 [0] (S':=[_]) Z (Q5 (Q1 (wP Z (wP Z (wP Z ?_))))))))))))
 refine QG (d:=5) (S':=V3 ..) Z Z (fun hs5=>?_) (fun hs5=>?_)
 replace hm:=QI hm hs5
 refine wO Z (wO Z (wP Z (wP Z (wO Z (wO Z (wP Z (wP Z (Q4 (Q3 (Q2 [2] (S':=[_]) Z (Qo ?_)))))))))))
 have hE:=(Zi hm).symm
 replace hE:=hE.symm
 subst hE
 refine Qp (Hr:=[]) [] Tryz.results236 (Qg Z) ⟨Z,Z,Z⟩ (asK [] Z) Z Z (.inl Z)
 replace hm:=QH hm hs5
 refine wP Z (wP Z (wP Z (wP Z ?_)))
 obtain ⟨hpr9,hm⟩:=Qd hm
 refine Qs (d:=9) (v':=.bool false) (S':=V7 ..) Z Z (Qy hpr9) (wP Z (wP Z (wP Z (wP Z (Q4 (Q3 (Q2 [2] (S':=[_]) Z (Qo ?_))))))))
 have hE:=(Zi hm).symm
 replace hE:=hE.symm
 subst hE
 refine Qp (Hr:=[]) [] Tryz.results236 (Qg Z) ⟨Z,Z,Z⟩ (asK [] Z) Z Z (.inl Z)
theorem QaW (N:Nat) (a0:ByteArray)  (hm:Q6S N a0 = some ()):Q17 Tryz.prog 226 [.string a0] [] [] (fun v Φr Hr=>v = .bool (!(a0.toList == (⟨#[]⟩ : ByteArray).toList)) ∧ Φr = [] ∧ Hr = []):=by
 unfold Q6S at hm
 refine QC Tryz.func226 Z Tryz.ntmps226 Z (S:=[_]) Z (fun C=>(Q5 (Q1 (wP Z (Q4 (Q3 (Q2 [0] (S':=[_]) Z (Q5 (Q5 (Q1 (wP Z (wP Z (wP Z ?_)))))))))))))
 obtain ⟨hpr7,hm⟩:=Qd hm
 refine Qs (d:=7) (v':=.bool true) (S':=V3 ..) Z Z (Qy hpr7) (wP Z ?_)
 obtain ⟨x9,hx9,hm⟩:=Q6 hm
 refine Q1w Z Z Z Zq (Q4V 0 Z Z Z Z hx9 Q7r) (wP Z (Qs (d:=10) (v':=.bool (x9.toNat == 45)) (S':=V6 ..) Z Z (Q4J (a:=x9.toNat) (b:=45)) (wP Z ?_)))
 obtain ⟨hpr11,hm⟩:=Qd hm
 refine Qs (d:=11) (v':=.bool false) (S':=V7 ..) Z Z (Qy hpr11) (Q4 (Q3 (Q2 [11,0] (S':=[_,_]) Z (Q1l Z (Q2 [0] (S':=[_]) Z (Qr (Q3 (Q5 (Q1 (wP Z ?_))))))))))
 obtain ⟨v16,hc16,hm⟩:=Q6 hm
 refine wC [] [] Z fn_202 Z (Q4p N a0 _ hc16) (asK [] Z) Z (H':=[]) Z ?_
 rintro _ _ _ ⟨rfl,rfl,rfl⟩
 refine wP Z (wP Z (wP Z (wP Z (wP Z (Q4 (Q3 (Q2 [4] (S':=[_]) Z (Q5 (Q1 (wP Z (wP Z (Q4 (Q3 ?_)))))))))))))
 refine Q2 [2] (S':=[_]) Z (Qo ?_)
 have hE:=(Zi hm).symm
 refine Qp (Hr:=[]) [] Tryz.results226 (Qg Z) ⟨Z,Z,Z⟩ (asK [] Z) Z Z (.inl Z)
theorem Qc3 (N:Nat) (s:ByteArray) (o0:Bool) (hm:Q7T N s = some o0):Q17 Tryz.prog 227 [.string s] [] [] (fun v Φr Hr=>v = .bool o0 ∧ Φr = [] ∧ Hr = []):=by
 unfold Q7T at hm
 refine QC Tryz.func227 Z Tryz.ntmps227 Z (S:=[_]) Z (fun C=>(Q5 (Q1 (wP Z (Q4 (Q3 (Q2 [0] (S':=[_]) Z (Q5 (Q1 (wP Z (QB Z Z Z Zq Z Q22 Q2e tZ_9 Z (zs:=[.string ((⟨#[]⟩ : ByteArray)),.string ((⟨#[]⟩ : ByteArray)),.string ((⟨#[]⟩ : ByteArray)),.string ((⟨#[]⟩ : ByteArray)),.string ((⟨#[]⟩ : ByteArray)),.string ((⟨#[]⟩ : ByteArray)),.string ((⟨#[]⟩ : ByteArray)),.string ((⟨#[]⟩ : ByteArray)),.string ((⟨#[]⟩ : ByteArray)),.string ((⟨#[]⟩ : ByteArray)),.string ((⟨#[]⟩ : ByteArray))]) (by kernel_rfl) Z (out:=[.string ((⟨#[111,114]⟩ : ByteArray)),.string ((⟨#[97,110,100]⟩ : ByteArray)),.string ((⟨#[61]⟩ : ByteArray)),.string ((⟨#[33,61]⟩ : ByteArray)),.string ((⟨#[60]⟩ : ByteArray)),.string ((⟨#[60,61]⟩ : ByteArray)),.string ((⟨#[62]⟩ : ByteArray)),.string ((⟨#[62,61]⟩ : ByteArray)),.string ((⟨#[43]⟩ : ByteArray)),.string ((⟨#[45]⟩ : ByteArray)),.string ((⟨#[42]⟩ : ByteArray))]) (by kernel_rfl) (fun g4=>(Q1Z (sz:=1) (m:=11) Q1u ([(⟨#[111,114]⟩ : ByteArray),(⟨#[97,110,100]⟩ : ByteArray),(⟨#[61]⟩ : ByteArray),(⟨#[33,61]⟩ : ByteArray),(⟨#[60]⟩ : ByteArray),(⟨#[60,61]⟩ : ByteArray),(⟨#[62]⟩ : ByteArray),(⟨#[62,61]⟩ : ByteArray),(⟨#[43]⟩ : ByteArray),(⟨#[45]⟩ : ByteArray),(⟨#[42]⟩ : ByteArray)]) 0 Z (fun F w hφ=>⟨[.string ((⟨#[111,114]⟩ : ByteArray))],[.string ((⟨#[97,110,100]⟩ : ByteArray)),.string ((⟨#[61]⟩ : ByteArray)),.string ((⟨#[33,61]⟩ : ByteArray)),.string ((⟨#[60]⟩ : ByteArray)),.string ((⟨#[60,61]⟩ : ByteArray)),.string ((⟨#[62]⟩ : ByteArray)),.string ((⟨#[62,61]⟩ : ByteArray)),.string ((⟨#[43]⟩ : ByteArray)),.string ((⟨#[45]⟩ : ByteArray)),.string ((⟨#[42]⟩ : ByteArray))],Z,Z,⟨(),Z,Qu⟩,⟨[.string ((⟨#[97,110,100]⟩ : ByteArray))],[.string ((⟨#[61]⟩ : ByteArray)),.string ((⟨#[33,61]⟩ : ByteArray)),.string ((⟨#[60]⟩ : ByteArray)),.string ((⟨#[60,61]⟩ : ByteArray)),.string ((⟨#[62]⟩ : ByteArray)),.string ((⟨#[62,61]⟩ : ByteArray)),.string ((⟨#[43]⟩ : ByteArray)),.string ((⟨#[45]⟩ : ByteArray)),.string ((⟨#[42]⟩ : ByteArray))],Z,Z,⟨(),Z,Qu⟩,⟨[.string ((⟨#[61]⟩ : ByteArray))],[.string ((⟨#[33,61]⟩ : ByteArray)),.string ((⟨#[60]⟩ : ByteArray)),.string ((⟨#[60,61]⟩ : ByteArray)),.string ((⟨#[62]⟩ : ByteArray)),.string ((⟨#[62,61]⟩ : ByteArray)),.string ((⟨#[43]⟩ : ByteArray)),.string ((⟨#[45]⟩ : ByteArray)),.string ((⟨#[42]⟩ : ByteArray))],Z,Z,⟨(),Z,Qu⟩,⟨[.string ((⟨#[33,61]⟩ : ByteArray))],[.string ((⟨#[60]⟩ : ByteArray)),.string ((⟨#[60,61]⟩ : ByteArray)),.string ((⟨#[62]⟩ : ByteArray)),.string ((⟨#[62,61]⟩ : ByteArray)),.string ((⟨#[43]⟩ : ByteArray)),.string ((⟨#[45]⟩ : ByteArray)),.string ((⟨#[42]⟩ : ByteArray))],Z,Z,⟨(),Z,Qu⟩,⟨[.string ((⟨#[60]⟩ : ByteArray))],[.string ((⟨#[60,61]⟩ : ByteArray)),.string ((⟨#[62]⟩ : ByteArray)),.string ((⟨#[62,61]⟩ : ByteArray)),.string ((⟨#[43]⟩ : ByteArray)),.string ((⟨#[45]⟩ : ByteArray)),.string ((⟨#[42]⟩ : ByteArray))],Z,Z,⟨(),Z,Qu⟩,⟨[.string ((⟨#[60,61]⟩ : ByteArray))],[.string ((⟨#[62]⟩ : ByteArray)),.string ((⟨#[62,61]⟩ : ByteArray)),.string ((⟨#[43]⟩ : ByteArray)),.string ((⟨#[45]⟩ : ByteArray)),.string ((⟨#[42]⟩ : ByteArray))],Z,Z,⟨(),Z,Qu⟩,⟨[.string ((⟨#[62]⟩ : ByteArray))],[.string ((⟨#[62,61]⟩ : ByteArray)),.string ((⟨#[43]⟩ : ByteArray)),.string ((⟨#[45]⟩ : ByteArray)),.string ((⟨#[42]⟩ : ByteArray))],Z,Z,⟨(),Z,Qu⟩,⟨[.string ((⟨#[62,61]⟩ : ByteArray))],[.string ((⟨#[43]⟩ : ByteArray)),.string ((⟨#[45]⟩ : ByteArray)),.string ((⟨#[42]⟩ : ByteArray))],Z,Z,⟨(),Z,Qu⟩,⟨[.string ((⟨#[43]⟩ : ByteArray))],[.string ((⟨#[45]⟩ : ByteArray)),.string ((⟨#[42]⟩ : ByteArray))],Z,Z,⟨(),Z,Qu⟩,⟨[.string ((⟨#[45]⟩ : ByteArray))],[.string ((⟨#[42]⟩ : ByteArray))],Z,Z,⟨(),Z,Qu⟩,⟨[.string ((⟨#[42]⟩ : ByteArray))],[],Z,Z,⟨(),Z,Qu⟩,Z⟩⟩⟩⟩⟩⟩⟩⟩⟩⟩⟩) Z (by decide) (H':=[_]) Z ?_)))))))))))))
 obtain ⟨v5,z,hm⟩:=Q6 hm
 refine Q53 [] [0] [0] Z Z Z Zq Z Z fn_235 Z (Q8i N s (some ⟨g4,0,none⟩) 11 [(⟨#[111,114]⟩ : ByteArray),(⟨#[97,110,100]⟩ : ByteArray),(⟨#[61]⟩ : ByteArray),(⟨#[33,61]⟩ : ByteArray),(⟨#[60]⟩ : ByteArray),(⟨#[60,61]⟩ : ByteArray),(⟨#[62]⟩ : ByteArray),(⟨#[62,61]⟩ : ByteArray),(⟨#[43]⟩ : ByteArray),(⟨#[45]⟩ : ByteArray),(⟨#[42]⟩ : ByteArray)] _ z) (fun F w hφ hh=>(Q14 (Q1A (hh _ (Q12 (k:=0) Z))) Qu)) (fun _ _ _ hR=>by obtain ⟨rfl,rfl,rfl⟩:=hR; exact ⟨Z,(fun _ h=>Q3G h)⟩) Z Z (H':=[_]) Z ?_
 rintro _ _ _ ⟨rfl,rfl,rfl⟩
 refine wP Z (Q4 (Q3 (Q2 [2] (S':=[_]) Z (Qo ?_))))
 have hE:=(Zi hm).symm
 replace hE:=hE.symm
 subst hE
 refine Qp (Hr:=[]) [] Tryz.results227 (Qg Z) ⟨Z,Z,Z⟩ (asK [] Z) Z Z (.inl Z)
theorem Qaq (N:Nat) (rc:(List Qe) → Int → Int → (List Int) → Option (Unit)) (ih : ∀ (a0:OA) (a5:Nat) (l0:List Qe) (a1:Int) (a2:Int) (aA:OA) (aB:Nat) (l3:List Int),rc l0 a1 a2 l3 = some () → Q17 Tryz.prog 169 [.slice a0 l0.length a5,.int .i64 a1,.int .i64 a2,.slice aA l3.length aB] [.sli 5 Qq a0 a5 l0,.sli 1 R_u8 aA aB l3] [] (fun v Φr Hr=>v = .bool true ∧ Φr = [] ∧ Hr = [])) (a0:OA) (a5:Nat) (l0:List Qe)  (hm:Q6p N rc l0 = some ()):Q17 Tryz.prog 224 [.slice a0 l0.length a5] [.sli 5 Qq a0 a5 l0] [] (fun v Φr Hr=>v = .bool true ∧ Φr = [] ∧ Hr = []):=by
 unfold Q6p at hm
 refine QC Tryz.func224 Z Tryz.ntmps224 Z (S:=[_]) Z (fun C=>(Q5 (Q1 (wP Z (Q4 (Q3 (Q2 [0] (S':=[_]) Z (Q5 (Q1 (wP Z (Q4 (Q3 (Q5 ?_)))))))))))))
 obtain ⟨a9,hm,hLj_1⟩:=Q6 hm
 refine QM (σ:=Nat) (fun z=>a9 = z) (fun z=>[(0,.slice a0 l0.length a5),(3,.int .i64 ((z:Nat):Int))]) (fun z=>[.sli 5 Qq a0 a5 l0]) (fun z=>[]) ?_ ?_
 refine Qw (Q1j (σ:=Nat × Nat) (fun (a7,s)=>Q1h (Q5k N l0) a7 s = some a9) (fun (a7,s)=>a7) (fun (a7,s)=>[(3,.int .i64 ((s:Nat):Int)),(0,.slice a0 l0.length a5)]) (fun (a7,s)=>[.sli 5 Qq a0 a5 l0]) (fun (a7,s)=>[]) (N,0) hm [3,0] Z (asK [0] Z) Z (fun s_ hm=>?_))
 obtain ⟨a7,s⟩:=s_
 try dsimp only at hm ⊢
 obtain ⟨aR,aS,aC,hq,hLu1⟩:=QV hm
 clear hm
 subst aC
 replace hm:=hq
 clear hq
 unfold Q5k at hm
 try dsimp only at hm
 refine Q5 (Q5 (Q1 (wP Z (wP Z (wN Z Q1S (wP Z (Qs (d:=7) (v':=.bool (decide (s < l0.length))) (S':=V5 ..) Z Z (Q2l (a:=s) (b:=l0.length)) (wP Z ?_))))))))
 obtain ⟨aD,hm⟩:=Qd hm
 refine Qs (d:=8) (v':=.bool true) (S':=V6 ..) Z Z (Qy aD) (wP Z (wP Z ?_))
 obtain ⟨aL,aE,hm⟩:=Q6 hm
 refine Q1a 0 s Z Z Z Zq Z Z Z Z Z aE Q1S Q13 (fun aT aU aQ aM=>(Q1G Q1q 1 Z (fun aV aF _=>?_)))
 subst aF
 refine wF Z Q3q (Q1F 1 0 Z Z Z Zq Z Z Z (cs:=[_]) Z Q3X Q7C Z Z ?_)
 obtain ⟨aW,aG,hm⟩:=Q6 hm
 refine wC [] [] Z fn_236 Z (QbS N aL.kind _ aG) (asK [] Z) Z (H':=[]) Z ?_
 rintro _ _ _ ⟨rfl,rfl,rfl⟩
 refine wP Z (Q4 (Q3 (Q2 [15,3,0] (S':=V3 ..) Z ?_)))
 refine Qt Z (fun a8=>?_) (fun a8=>?_)
 replace hm:=QI hm a8
 refine Q2 [3,0] (S':=[_,_]) Z (Qr (Q3 (Qw (Q1 (wP Z (wP Z ?_))))))
 obtain ⟨aH,hm⟩:=Qd hm
 refine Qs (d:=17) (v':=.int .i64 ((s + 1:Nat):Int)) (S':=V3 ..) Z Z (Q1r (a:=s) (b:=1) aH) (QT (S':=V3 ..) Z Z Z Z Z (Q4 (Qf ?_)))
 have hE:=(Zi hm).symm
 replace hE:=QF hLu1 hE
 refine QU (_,s + 1) (Nat.lt_succ_self _) hE [3,0] Z (asK [3] Z) Z
 replace hm:=QH hm a8
 refine Q2 [3,0] (S':=[_,_]) Z (Q1g (Qj (Qj (QD ?_))))
 have hE:=(Zi hm).symm
 replace hE:=Qx hLu1 hE
 refine Qh s hE [0,3] Z (asK [3] Z) Z
 rintro z hE
 try dsimp only
 have hm:=hLj_1
 try rw [hE] at hm
 refine Q5 (Q1 (wP Z (wP Z (QB Z Z Z Zq Z tE_254 Q3X tZ_156 Z (zs:=[.int .u8 0,.int .u8 0,.int .u8 0]) (by kernel_rfl) Z (out:=V3 ..) Z (fun aN=>(Q1Z (sz:=1) (m:=3) R_u8 ([5,6,7]) 0 Z (fun F w hφ=>⟨[.int .u8 5],[.int .u8 6,.int .u8 7],Z,Z,⟨(),Z,Qu⟩,⟨[.int .u8 6],[.int .u8 7],Z,Z,⟨(),Z,Qu⟩,⟨[.int .u8 7],[],Z,Z,⟨(),Z,Qu⟩,Z⟩⟩⟩) Z (by decide) (H':=[_]) Z ?_))))))
 obtain ⟨_,aI,hm⟩:=Q6 hm
 try dsimp only at hm
 refine Q53 [] [0] [0] Z Z Z Zq Z Z fn_169 Z (ih a0 a5 l0 0 ((z:Nat):Int) (some ⟨aN,0,none⟩) 3 [5,6,7] aI) (fun F w hφ hh=>(Q14 (hφ _ (Q12 (k:=0) Z)) (Q14 (Q1A (hh _ (Q12 (k:=0) Z))) Qu))) (fun _ _ _ hR=>by obtain ⟨rfl,rfl,rfl⟩:=hR; exact ⟨Z,(fun _ h=>Q3G h)⟩) Z Z (H':=[_]) Z ?_
 rintro _ _ _ ⟨rfl,rfl,rfl⟩
 refine wP Z (wP Z (wP Z (wP Z (wN Z Q1S (QB Z Z Z Zq Z tE_254 Q3X tZ_156 Z (zs:=[.int .u8 0,.int .u8 0,.int .u8 0,.int .u8 0]) (by kernel_rfl) Z (out:=V4 ..) Z (fun aO=>(Q1Z (sz:=1) (m:=4) R_u8 ([8,9,10,11]) 0 Z (fun F w hφ=>⟨[.int .u8 8],[.int .u8 9,.int .u8 10,.int .u8 11],Z,Z,⟨(),Z,Qu⟩,⟨[.int .u8 9],[.int .u8 10,.int .u8 11],Z,Z,⟨(),Z,Qu⟩,⟨[.int .u8 10],[.int .u8 11],Z,Z,⟨(),Z,Qu⟩,⟨[.int .u8 11],[],Z,Z,⟨(),Z,Qu⟩,Z⟩⟩⟩⟩) Z (by decide) (H':=[_,_]) Z ?_)))))))
 obtain ⟨_,aJ,hm⟩:=Q6 hm
 try dsimp only at hm
 refine Q53 [] [0,1] [0] Z Z Z Zq Z Z fn_169 Z (ih a0 a5 l0 ((z:Nat):Int) ((l0.length:Nat):Int) (some ⟨aO,0,none⟩) 4 [8,9,10,11] aJ) (fun F w hφ hh=>(Q14 (hφ _ (Q12 (k:=0) Z)) (Q14 (Q1A (hh _ (Q12 (k:=0) Z))) Qu))) (fun _ _ _ hR=>by obtain ⟨rfl,rfl,rfl⟩:=hR; exact ⟨Z,(fun _ h=>Q3G h)⟩) Z Z (H':=[_,_]) Z ?_
 rintro _ _ _ ⟨rfl,rfl,rfl⟩
 refine wP Z (wP Z (Q4 (Q3 (Q2 [2] (S':=[_]) Z (Qo ?_)))))
 have hE:=(Zi hm).symm
 refine Qp (Hr:=[]) [] Tryz.results224 (Qg Z) ⟨Z,Z,Z⟩ (asK [] Z) Z Z (.inl Z)
theorem Q7G (N:Nat) (rc:(List Qe) → Int → Int → (List Int) → Option (Unit)) (ih : ∀ (z:OA) (a0:Nat) (l0:List Qe) (a1:Int) (a2:Int) (aC:OA) (aD:Nat) (l3:List Int),rc l0 a1 a2 l3 = some () → Q17 Tryz.prog 169 [.slice z l0.length a0,.int .i64 a1,.int .i64 a2,.slice aC l3.length aD] [.sli 5 Qq z a0 l0,.sli 1 R_u8 aC aD l3] [] (fun v Φr Hr=>v = .bool true ∧ Φr = [] ∧ Hr = [])) (z:OA) (a0:Nat) (l0:List Qe)  (hm:Q4m N rc l0 = some ()):Q17 Tryz.prog 225 [.slice z l0.length a0] [.sli 5 Qq z a0 l0] [] (fun v Φr Hr=>v = .bool true ∧ Φr = [] ∧ Hr = []):=by
 unfold Q4m at hm
 refine QC Tryz.func225 Z Tryz.ntmps225 Z (S:=[_]) Z (fun C=>(Q5 (Q1 (wP Z (Q4 (Q3 (Q2 [0] (S':=[_]) Z (Q5 ?_))))))))
 obtain ⟨a8,hm,hLj_1⟩:=Q6 hm
 refine QM (σ:=Unit) (fun _=>a8 = ()) (fun _=>[(0,.slice z l0.length a0)]) (fun _=>[.sli 5 Qq z a0 l0]) (fun _=>[]) ?_ ?_
 refine Q5 (Q1 (wP Z (Q4 (Q3 (Qw (Q1j (σ:=Nat × Nat) (fun (a6,s)=>Q1h (Q4X N l0) a6 s = some a8) (fun (a6,s)=>a6) (fun (a6,s)=>[(3,.int .i64 ((s:Nat):Int)),(0,.slice z l0.length a0)]) (fun (a6,s)=>[.sli 5 Qq z a0 l0]) (fun (a6,s)=>[]) (N,0) hm [3,0] Z (asK [0] Z) Z (fun s_ hm=>?_)))))))
 obtain ⟨a6,s⟩:=s_
 try dsimp only at hm ⊢
 obtain ⟨aZ,b0,aE,hq,hLu1⟩:=QV hm
 clear hm
 subst aE
 replace hm:=hq
 clear hq
 unfold Q4X at hm
 try dsimp only at hm
 refine Q5 (Q5 (Q1 (wP Z (wP Z (wN Z Q1S (wP Z (Qs (d:=7) (v':=.bool (decide (s < l0.length))) (S':=V5 ..) Z Z (Q2l (a:=s) (b:=l0.length)) (Q4 (Q3 (Q2 [7,3,0] (S':=V3 ..) Z ?_))))))))))
 refine Qt Z (fun a9=>?_) (fun a9=>?_)
 replace hm:=QI hm a9
 refine Q2 [3,0] (S':=[_,_]) Z (Qr (Q3 (Q5 (Qw (Q5 ?_)))))
 obtain ⟨aF,hm,hLj_2⟩:=Q6 hm
 unfold Q7l at hm
 refine QM (σ:=Unit) (fun _=>aF = ()) (fun _=>[(3,.int .i64 ((s:Nat):Int)),(0,.slice z l0.length a0),(32,.bool false)]) (fun _=>[.sli 5 Qq z a0 l0]) (fun _=>[]) ?_ ?_
 refine Q1 (wP Z (wP Z ?_))
 obtain ⟨b1,aG,hm⟩:=Q6 hm
 refine Q1a 0 s Z Z Z Zq Z Z Z Z Z aG Q1S Q13 (fun b2 b3 aW aQ=>(Q1G Q1q 1 Z (fun b4 aH _=>?_)))
 subst aH
 refine wF Z Q3q (Q1F 1 0 Z Z Z Zq Z Z Z (cs:=[_]) Z Q3X Q7C Z Z (wP Z (wP Z ?_)))
 refine QG (d:=16) (S':=V8 ..) Z Z (fun a7=>?_) (fun a7=>?_)
 replace hm:=QI hm a7
 refine wP Z (wP Z ?_)
 obtain ⟨b5,aI,hm⟩:=Q6 hm
 refine Q1a 3 s Z Z Z Zq Z Z Z Z Z aI Q1S Q13 (fun b6 b7 aX aR=>(Q1G Q1q 1 Z (fun b8 aJ _=>?_)))
 subst aJ
 refine wF Z Q2x (Q1F 1 1 Z Z Z Zq Z Z Z (cs:=[_]) Z Q2e Q3O Z Z (wP Z (wP Z (wP Z ?_))))
 obtain ⟨aA,hm⟩:=Qd hm
 refine Qs (d:=24) (v':=.bool true) (S':=V16 ..) Z Z (Qy aA) (wP Z (wP Z ?_))
 obtain ⟨b9,aK,hm⟩:=Q6 hm
 refine Q1a 6 s Z Z Z Zq Z Z Z Z Z aK Q1S Q13 (fun bA bB aY aS=>(Q1G Q1q 1 Z (fun bC aL _=>?_)))
 subst aL
 refine wF Z Q2x (Q1F 1 1 Z Z Z Zq Z Z Z (cs:=[_]) Z Q2e Q3O Z Z ?_)
 obtain ⟨aM,aN,hm⟩:=Q6 hm
 refine Q1w Z Z Z Zq (Q4V 0 Z Z Z Z aN Q7r) (wP Z (Qs (d:=31) (v':=.bool (aM.toNat == 45)) (S':=V23 ..) Z Z (Q4J (a:=aM.toNat) (b:=45)) (wP Z ?_)))
 obtain ⟨aB,hm⟩:=Qd hm
 refine Qs (d:=32) (v':=.bool false) (S':=V24 ..) Z Z (Qy aB) (Q4 ?_)
 have hE:=(Zi hm).symm
 refine Qh () hE [3,0,32] Z (asK [9] Z) Z
 replace hm:=QH hm a7
 refine wO Z (wO Z (wO Z (wO Z (wO Z (wO Z (wP Z (wP Z (wO Z (wO Z (wO Z (wO Z (wO Z (wO Z ?_)))))))))))))
 refine wO Z (wP Z (Q4 ?_))
 have hE:=(Zi hm).symm
 refine Qh () hE [3,0,32] Z (asK [3] Z) Z
 rintro _ hE
 try dsimp only
 have hm:=hLj_2
 try rw [hE] at hm
 try dsimp only at hm
 refine Q1l Z (Q2 [3,0] (S':=[_,_]) Z (Qr (Qf (Q3 (Q1 (wP Z (wP Z ?_)))))))
 obtain ⟨aT,hm⟩:=Qd hm
 refine Qs (d:=9) (v':=.int .i64 ((s + 1:Nat):Int)) (S':=V3 ..) Z Z (Q1r (a:=s) (b:=1) aT) (QT (S':=V3 ..) Z Z Z Z Z (Q4 ?_))
 have hE:=(Zi hm).symm
 replace hE:=QF hLu1 hE
 refine QU (_,s + 1) (Nat.lt_succ_self _) hE [3,0] Z (asK [0] Z) Z
 replace hm:=QH hm a9
 refine Q2 [0] (S':=[_]) Z (Q1g (Qj (Qj (QD ?_))))
 have hE:=(Zi hm).symm
 replace hE:=Qx hLu1 hE
 refine Qh () hE [0] Z (asK [0] Z) Z
 rintro _ hE
 try dsimp only
 have hm:=hLj_1
 try rw [hE] at hm
 try dsimp only at hm
 refine Q5 (Q1 (wP Z (wP Z (wN Z Q1S (QB Z Z Z Zq Z tE_254 Q3X tZ_156 Z (zs:=[.int .u8 0,.int .u8 0,.int .u8 0,.int .u8 0]) (by kernel_rfl) Z (out:=V4 ..) Z (fun aU=>(Q1Z (sz:=1) (m:=4) R_u8 ([13,14,15,16]) 0 Z (fun F w hφ=>⟨[.int .u8 13],[.int .u8 14,.int .u8 15,.int .u8 16],Z,Z,⟨(),Z,Qu⟩,⟨[.int .u8 14],[.int .u8 15,.int .u8 16],Z,Z,⟨(),Z,Qu⟩,⟨[.int .u8 15],[.int .u8 16],Z,Z,⟨(),Z,Qu⟩,⟨[.int .u8 16],[],Z,Z,⟨(),Z,Qu⟩,Z⟩⟩⟩⟩) Z (by decide) (H':=[_]) Z ?_)))))))
 obtain ⟨_,aO,hm⟩:=Q6 hm
 try dsimp only at hm
 refine Q53 [] [0] [0] Z Z Z Zq Z Z fn_169 Z (ih z a0 l0 0 ((l0.length:Nat):Int) (some ⟨aU,0,none⟩) 4 [13,14,15,16] aO) (fun F w hφ hh=>(Q14 (hφ _ (Q12 (k:=0) Z)) (Q14 (Q1A (hh _ (Q12 (k:=0) Z))) Qu))) (fun _ _ _ hR=>by obtain ⟨rfl,rfl,rfl⟩:=hR; exact ⟨Z,(fun _ h=>Q3G h)⟩) Z Z (H':=[_]) Z ?_
 rintro _ _ _ ⟨rfl,rfl,rfl⟩
 refine wP Z (Q4 (Q3 (Q2 [2] (S':=[_]) Z (Qo ?_))))
 have hE:=(Zi hm).symm
 refine Qp (Hr:=[]) [] Tryz.results225 (Qg Z) ⟨Z,Z,Z⟩ (asK [] Z) Z Z (.inl Z)
theorem Qap (N:Nat) (rc:(List Qe) → Int → Int → (List Int) → Option (Unit)) (ih : ∀ (a5:OA) (a6:Nat) (l0:List Qe) (a1:Int) (a2:Int) (bB:OA) (bC:Nat) (l3:List Int),rc l0 a1 a2 l3 = some () → Q17 Tryz.prog 169 [.slice a5 l0.length a6,.int .i64 a1,.int .i64 a2,.slice bB l3.length bC] [.sli 5 Qq a5 a6 l0,.sli 1 R_u8 bB bC l3] [] (fun v Φr Hr=>v = .bool true ∧ Φr = [] ∧ Hr = [])) (a0:Int) (a1:ByteArray) (a2:Int) (a3:Int) (a5:OA) (a6:Nat) (l4:List Qe) (o0:Bool) (hm:Q6o N rc a0 a1 a2 a3 l4 = some o0):Q17 Tryz.prog 207 [.agg #[.int .u8 a0,.string a1,.int .i64 a2,.int .i64 a3,.slice a5 l4.length a6]] [.sli 5 Qq a5 a6 l4] [] (fun v Φr Hr=>v = .bool o0 ∧ Φr = [] ∧ Hr = []):=by
 unfold Q6o at hm
 refine QC Tryz.func207 Z Tryz.ntmps207 Z (S:=[_]) Z (fun C=>(Q5 (Q1 (wB Z (fun g1=>(wP Z (Q4 (Q3 (Q2 [1] (S':=[_]) Z (Q5 (Q1 (wF Z Q1B (wD 0 4 Z Q28 Q2w Z (wN Z Q1S (wP Z ?_)))))))))))))))
 refine Q4 (Q3 (Q2 [3,1] (S':=[_,_]) Z (Q5 (Q5 ?_))))
 obtain ⟨bD,hm,hLj_1⟩:=Q6 hm
 refine QM (σ:=Unit) (fun _=>bD = ()) (fun _=>[(3,.int .i64 ((l4.length:Nat):Int)),(1,.pointer (some ⟨g1,0,none⟩)),(24,.bool false)]) (fun _=>[.sli 5 Qq a5 a6 l4]) (fun _=>[.blk g1 [.int .u8 a0,.string a1,.int .i64 a2,.int .i64 a3,.slice a5 l4.length a6] 159]) ?_ ?_
 refine Q1 (wF Z tF_159_3 (wD 0 3 Z Q1m Q1H Z (wP Z (wP Z ?_))))
 obtain ⟨aV,hm⟩:=Qd hm
 refine Qs (d:=10) (v':=.bool false) (S':=V5 ..) Z Z (Qy aV) (wF Z Q6y (wD 0 2 Z Q1m Q1H Z (wP Z (wP Z ?_))))
 refine QG (d:=14) (S':=V9 ..) Z Z (fun aF=>?_) (fun aF=>?_)
 replace hm:=QI hm aF
 refine wF Z Q3q (wD 0 0 Z Q3X Q7C Z (wP Z (wP Z (wP Z ?_))))
 obtain ⟨aW,hm⟩:=Qd hm
 refine Qs (d:=19) (v':=.bool true) (S':=V14 ..) Z Z (Qy aW) (wF Z Q3q (wD 0 0 Z Q3X Q7C Z (wP Z (wP Z (wP Z ?_)))))
 obtain ⟨aX,hm⟩:=Qd hm
 refine Qs (d:=24) (v':=.bool false) (S':=V19 ..) Z Z (Qy aX) (Q4 ?_)
 have hE:=(Zi hm).symm
 refine Qh () hE [3,1,24] Z (asK [0] Z) Z
 replace hm:=QH hm aF
 refine wO Z (wO Z (wO Z (wP Z (wP Z (wO Z (wO Z (wO Z (wP Z (wP Z (Q4 ?_))))))))))
 have hE:=(Zi hm).symm
 refine Qh () hE [3,1,24] Z (asK [0] Z) Z
 rintro _ hE
 try dsimp only
 have hm:=hLj_1
 try rw [hE] at hm
 try dsimp only at hm
 refine Q1l Z (Q2 [3,1] (S':=[_,_]) Z (Qr (Q3 (Q5 (Q5 (Q1 (wF Z Q3q (wD 0 0 Z Q3X Q7C Z (Q4 (Q3 (Q2 [26,3,1] (S':=V3 ..) Z (Qw (Q5 ?_)))))))))))))
 refine Q1 (wP Z (wP Z (Q4 (Q3 (Q2 [27,26,3,1] (S':=V4 ..) Z ?_)))))
 refine Qt Z (fun aG=>?_) (fun aG=>?_)
 replace hm:=QI hm aG
 refine Q2 [3,1] (S':=[_,_]) Z (Q5 (Q1 (wF Z Q2x (wD 0 1 Z Q2e Q3O Z ?_))))
 obtain ⟨bV,bE,hm⟩:=Q6 hm
 refine wC [] [0] Z fn_223 Z (Q3Q N a1 _ bE) (asK [] Z) Z (H':=[_]) Z ?_
 rintro _ _ _ ⟨rfl,rfl,rfl⟩
 refine wP Z ?_
 obtain ⟨aY,hm⟩:=Qd hm
 refine Qs (d:=32) (v':=.bool true) (S':=V5 ..) Z Z (Qy aY) (wF Z Q1B (wD 0 4 Z Q28 Q2w Z (wP Z (QB Z Z Z Zq Z tE_254 Q3X tZ_156 Z (zs:=[.int .u8 0]) (by kernel_rfl) Z (out:=[_]) Z (fun bQ=>(Q1Z (sz:=1) (m:=1) R_u8 [3] 0 Z (fun F w hφ=>⟨[.int .u8 3],[],Z,Z,⟨(),Z,Qu⟩,Z⟩) Z (by decide) (H':=[_,_]) Z ?_))))))
 obtain ⟨_,bF,hm⟩:=Q6 hm
 try dsimp only at hm
 refine Q53 [] [0,1] [0] Z Z Z Zq Z Z fn_169 Z (ih a5 a6 l4 0 ((l4.length:Nat):Int) (some ⟨bQ,0,none⟩) 1 [3] bF) (fun F w hφ hh=>(Q14 (hφ _ (Q12 (k:=0) Z)) (Q14 (Q1A (hh _ (Q12 (k:=0) Z))) Qu))) (fun _ _ _ hR=>by obtain ⟨rfl,rfl,rfl⟩:=hR; exact ⟨Z,(fun _ h=>Q3G h)⟩) Z Z (H':=[_,_]) Z ?_
 rintro _ _ _ ⟨rfl,rfl,rfl⟩
 refine wP Z (wP Z (Q4 (Q3 (Q2 [2] (S':=[_]) Z (Qo (Qk (Q9 ?_)))))))
 have hE:=(Zi hm).symm
 replace hE:=hE.symm
 subst hE
 refine Qp (Hr:=[]) [] Tryz.results207 (Qg Z) ⟨Z,Z,Z⟩ (asK [] Z) Z Z (.inl Z)
 replace hm:=QH hm aG
 refine Q2 [26,3,1] (S':=V3 ..) Z (Q5 (Q1 (wP Z (wP Z (Q4 (Q3 (Q2 [39,26,3,1] (S':=V4 ..) Z ?_)))))))
 refine Qt Z (fun aH=>?_) (fun aH=>?_)
 replace hm:=QI hm aH
 refine Q2 [3,1] (S':=[_,_]) Z (Q5 (Q1 (wF Z Q2x (wD 0 1 Z Q2e Q3O Z ?_))))
 obtain ⟨bW,bG,hm⟩:=Q6 hm
 refine wC [] [0] Z fn_223 Z (Q3Q N a1 _ bG) (asK [] Z) Z (H':=[_]) Z ?_
 rintro _ _ _ ⟨rfl,rfl,rfl⟩
 refine wP Z ?_
 obtain ⟨aZ,hm⟩:=Qd hm
 refine Qs (d:=44) (v':=.bool true) (S':=V5 ..) Z Z (Qy aZ) (wP Z (wP Z (Qs (d:=46) (v':=.bool (l4.length == 0)) (S':=V7 ..) Z Z (Q4J (a:=l4.length) (b:=0)) (wP Z (wP Z (Q4 (Q3 (Q2 [2] (S':=[_]) Z (Qo (Qk (Q9 ?_)))))))))))
 have hE:=(Zi hm).symm
 replace hE:=hE.symm
 subst hE
 refine Qp (Hr:=[]) [] Tryz.results207 (Qg Z) ⟨Z,Z,Z⟩ (asK [] Z) Z Z (.inl Z)
 replace hm:=QH hm aH
 refine Q2 [26,3,1] (S':=V3 ..) Z (Q5 (Q1 (wP Z (wP Z (Q4 (Q3 (Q2 [48,26,3,1] (S':=V4 ..) Z ?_)))))))
 refine Qt Z (fun aI=>?_) (fun aI=>?_)
 replace hm:=QI hm aI
 refine Q2 [1] (S':=[_]) Z (Q5 (Q1 (wF Z Q2x (wD 0 1 Z Q2e Q3O Z ?_))))
 obtain ⟨bX,bH,hm⟩:=Q6 hm
 refine wC [] [0] Z fn_223 Z (Q3Q N a1 _ bH) (asK [] Z) Z (H':=[_]) Z ?_
 rintro _ _ _ ⟨rfl,rfl,rfl⟩
 refine wP Z ?_
 obtain ⟨b0,hm⟩:=Qd hm
 refine Qs (d:=53) (v':=.bool true) (S':=V4 ..) Z Z (Qy b0) (wF Z Q6y (wD 0 2 Z Q1m Q1H Z (wP Z (wP Z (wP Z ?_)))))
 obtain ⟨b1,hm⟩:=Qd hm
 refine Qs (d:=58) (v':=.bool true) (S':=V9 ..) Z Z (Qy b1) (wF Z Q6y (wD 0 2 Z Q1m Q1H Z (wP Z (wP Z (wP Z ?_)))))
 obtain ⟨b2,hm⟩:=Qd hm
 refine Qs (d:=63) (v':=.bool true) (S':=V14 ..) Z Z (Qy b2) (wF Z Q1B (wD 0 4 Z Q28 Q2w Z ?_))
 obtain ⟨_,bI,hm⟩:=Q6 hm
 try dsimp only at hm
 refine wC [] [0] Z fn_224 Z (Qaq N rc ih a5 a6 l4 bI) (asK [0] Z) Z (H':=[_]) Z ?_
 rintro _ _ _ ⟨rfl,rfl,rfl⟩
 refine wP Z (wP Z (Q4 (Q3 (Q2 [2] (S':=[_]) Z (Qo (Qk (Q9 ?_)))))))
 have hE:=(Zi hm).symm
 replace hE:=hE.symm
 subst hE
 refine Qp (Hr:=[]) [] Tryz.results207 (Qg Z) ⟨Z,Z,Z⟩ (asK [] Z) Z Z (.inl Z)
 replace hm:=QH hm aI
 refine Q2 [26,3,1] (S':=V3 ..) Z (Q5 ?_)
 obtain ⟨bJ,hm,hLj_2⟩:=Q6 hm
 refine QM (σ:=Bool) (fun z=>bJ = z) (fun z=>[(26,.int .u8 a0),(3,.int .i64 ((l4.length:Nat):Int)),(1,.pointer (some ⟨g1,0,none⟩)),(68,.bool z)]) (fun z=>[.sli 5 Qq a5 a6 l4]) (fun z=>[.blk g1 [.int .u8 a0,.string a1,.int .i64 a2,.int .i64 a3,.slice a5 l4.length a6] 159]) ?_ ?_
 refine Q5 (Q1 (wP Z (wP Z (Q4 (Q3 (Q2 [68,26,3,1] (S':=V4 ..) Z ?_))))))
 refine Qt Z (fun a9=>?_) (fun a9=>?_)
 replace hm:=QI hm a9
 refine Qr ?_
 have hE:=(Zi hm).symm
 refine Qh (a0 == 5) hE [26,3,1,68] Z (asK [0] Z) Z
 replace hm:=QH hm a9
 refine Q2 [26,3,1] (S':=V3 ..) Z (Q1 (wP Z (wP Z (Q4 ?_))))
 have hE:=(Zi hm).symm
 refine Qh (a0 == 6) hE [26,3,1,68] Z (asK [0] Z) Z
 rintro z hE
 try dsimp only
 have hm:=hLj_2
 try rw [hE] at hm
 refine Qt Z (fun a9=>?_) (fun a9=>?_)
 replace hm:=QI hm a9
 refine Q2 [3,1] (S':=[_,_]) Z (Q5 (Q1 (wF Z Q2x (wD 0 1 Z Q2e Q3O Z ?_))))
 obtain ⟨bY,bK,hm⟩:=Q6 hm
 refine wC [] [0] Z fn_223 Z (Q3Q N a1 _ bK) (asK [] Z) Z (H':=[_]) Z ?_
 rintro _ _ _ ⟨rfl,rfl,rfl⟩
 refine wP Z ?_
 obtain ⟨b3,hm⟩:=Qd hm
 refine Qs (d:=74) (v':=.bool true) (S':=V5 ..) Z Z (Qy b3) (wF Z Q1B (wD 0 4 Z Q28 Q2w Z (wP Z (QB Z Z Z Zq Z tE_254 Q3X tZ_156 Z (zs:=[.int .u8 0,.int .u8 0,.int .u8 0,.int .u8 0]) (by kernel_rfl) Z (out:=V4 ..) Z (fun bR=>(Q1Z (sz:=1) (m:=4) R_u8 ([12,13,14,15]) 0 Z (fun F w hφ=>⟨[.int .u8 12],[.int .u8 13,.int .u8 14,.int .u8 15],Z,Z,⟨(),Z,Qu⟩,⟨[.int .u8 13],[.int .u8 14,.int .u8 15],Z,Z,⟨(),Z,Qu⟩,⟨[.int .u8 14],[.int .u8 15],Z,Z,⟨(),Z,Qu⟩,⟨[.int .u8 15],[],Z,Z,⟨(),Z,Qu⟩,Z⟩⟩⟩⟩) Z (by decide) (H':=[_,_]) Z ?_))))))
 obtain ⟨_,bL,hm⟩:=Q6 hm
 try dsimp only at hm
 refine Q53 [] [0,1] [0] Z Z Z Zq Z Z fn_169 Z (ih a5 a6 l4 0 ((l4.length:Nat):Int) (some ⟨bR,0,none⟩) 4 [12,13,14,15] bL) (fun F w hφ hh=>(Q14 (hφ _ (Q12 (k:=0) Z)) (Q14 (Q1A (hh _ (Q12 (k:=0) Z))) Qu))) (fun _ _ _ hR=>by obtain ⟨rfl,rfl,rfl⟩:=hR; exact ⟨Z,(fun _ h=>Q3G h)⟩) Z Z (H':=[_,_]) Z ?_
 rintro _ _ _ ⟨rfl,rfl,rfl⟩
 refine wP Z (wP Z (Q4 (Q3 (Q2 [2] (S':=[_]) Z (Qo (Qk (Q9 ?_)))))))
 have hE:=(Zi hm).symm
 replace hE:=hE.symm
 subst hE
 refine Qp (Hr:=[]) [] Tryz.results207 (Qg Z) ⟨Z,Z,Z⟩ (asK [] Z) Z Z (.inl Z)
 replace hm:=QH hm a9
 refine Q2 [26,3,1] (S':=V3 ..) Z (Q5 (Q1 (wP Z (wP Z ?_))))
 obtain ⟨b4,hm⟩:=Qd hm
 refine Qs (d:=81) (v':=.bool false) (S':=V4 ..) Z Z (Qy b4) (Q4 (Q3 (Q2 [81,26,3,1] (S':=V4 ..) Z (Q1l Z (Q2 [26,3,1] (S':=V3 ..) Z (Q5 (Q1 (wP Z (wP Z (Q4 (Q3 (Q2 [95,26,3,1] (S':=V4 ..) Z ?_))))))))))))
 refine Qt Z (fun aJ=>?_) (fun aJ=>?_)
 replace hm:=QI hm aJ
 refine Q2 [1] (S':=[_]) Z (Q5 (Q1 (wF Z Q2x (wD 0 1 Z Q2e Q3O Z ?_))))
 obtain ⟨bZ,bM,hm⟩:=Q6 hm
 refine wC [] [0] Z fn_223 Z (Q3Q N a1 _ bM) (asK [] Z) Z (H':=[_]) Z ?_
 rintro _ _ _ ⟨rfl,rfl,rfl⟩
 refine wP Z ?_
 obtain ⟨aK,hm⟩:=Qd hm
 refine Qs (d:=100) (v':=.bool true) (S':=V4 ..) Z Z (Qy aK) (wF Z Q1B (wD 0 4 Z Q28 Q2w Z ?_))
 obtain ⟨_,b5,hm⟩:=Q6 hm
 try dsimp only at hm
 refine wC [] [0] Z fn_225 Z (Q7G N rc ih a5 a6 l4 b5) (asK [0] Z) Z (H':=[_]) Z ?_
 rintro _ _ _ ⟨rfl,rfl,rfl⟩
 refine wP Z (wP Z (Q4 (Q3 (Q2 [2] (S':=[_]) Z (Qo (Qk (Q9 ?_)))))))
 have hE:=(Zi hm).symm
 replace hE:=hE.symm
 subst hE
 refine Qp (Hr:=[]) [] Tryz.results207 (Qg Z) ⟨Z,Z,Z⟩ (asK [] Z) Z Z (.inl Z)
 replace hm:=QH hm aJ
 refine Q2 [26,3,1] (S':=V3 ..) Z (Q5 (Q1 (wP Z (wP Z (Q4 (Q3 (Q2 [105,26,3,1] (S':=V4 ..) Z ?_)))))))
 refine Qt Z (fun aC=>?_) (fun aC=>?_)
 replace hm:=QI hm aC
 refine Q2 [3,1] (S':=[_,_]) Z (Q5 (Q1 (wF Z Q2x (wD 0 1 Z Q2e Q3O Z (wP Z (wP Z ?_))))))
 obtain ⟨aL,hm⟩:=Qd hm
 refine Qs (d:=110) (v':=.bool true) (S':=V5 ..) Z Z (Qy aL) (wF Z Q6y (wD 0 2 Z Q1m Q1H Z (wP Z (wP Z (wP Z ?_)))))
 obtain ⟨aM,hm⟩:=Qd hm
 refine Qs (d:=115) (v':=.bool true) (S':=V10 ..) Z Z (Qy aM) (wF Z Q6y (wD 0 2 Z Q1m Q1H Z (wP Z (wP Z (wP Z ?_)))))
 obtain ⟨aN,hm⟩:=Qd hm
 refine Qs (d:=120) (v':=.bool true) (S':=V15 ..) Z Z (Qy aN) (wP Z (wP Z (Qs (d:=122) (v':=.bool (l4.length == 0)) (S':=V17 ..) Z Z (Q4J (a:=l4.length) (b:=0)) (wP Z (wP Z (Q4 (Q3 (Q2 [2] (S':=[_]) Z (Qo (Qk (Q9 ?_)))))))))))
 have hE:=(Zi hm).symm
 replace hE:=hE.symm
 subst hE
 refine Qp (Hr:=[]) [] Tryz.results207 (Qg Z) ⟨Z,Z,Z⟩ (asK [] Z) Z Z (.inl Z)
 replace hm:=QH hm aC
 refine Q2 [26,3,1] (S':=V3 ..) Z (Q5 (Q1 (wP Z (wP Z ?_))))
 obtain ⟨aO,hm⟩:=Qd hm
 refine Qs (d:=124) (v':=.bool false) (S':=V4 ..) Z Z (Qy aO) (Q4 (Q3 (Q2 [124,26,3,1] (S':=V4 ..) Z (Q1l Z (Q2 [26,3,1] (S':=V3 ..) Z (Q5 (Q5 (Q1 (wP Z (wP Z ?_))))))))))
 obtain ⟨aA,hm⟩:=Qd hm
 refine Qs (d:=138) (v':=.bool false) (S':=V4 ..) Z Z (Qy aA) (Q4 (Q3 (Q2 [138,26,3,1] (S':=V4 ..) Z (Q1l Z (Q2 [26,3,1] (S':=V3 ..) Z (Q1 (wP Z (wP Z ?_))))))))
 obtain ⟨aA,hm⟩:=Qd hm
 refine Qs (d:=138) (v':=.bool false) (S':=V4 ..) Z Z (Qy aA) (Q4 (Q3 (Q2 [138,26,3,1] (S':=V4 ..) Z (Q1l Z (Q2 [26,3,1] (S':=V3 ..) Z (Q5 ?_))))))
 obtain ⟨bN,hm,hLj_3⟩:=Q6 hm
 refine QM (σ:=Bool) (fun s=>bN = s) (fun s=>[(26,.int .u8 a0),(3,.int .i64 ((l4.length:Nat):Int)),(1,.pointer (some ⟨g1,0,none⟩)),(148,.bool s)]) (fun s=>[.sli 5 Qq a5 a6 l4]) (fun s=>[.blk g1 [.int .u8 a0,.string a1,.int .i64 a2,.int .i64 a3,.slice a5 l4.length a6] 159]) ?_ ?_
 refine Q5 (Q1 (wP Z (wP Z (Q4 (Q3 (Q2 [148,26,3,1] (S':=V4 ..) Z ?_))))))
 refine Qt Z (fun a8=>?_) (fun a8=>?_)
 replace hm:=QI hm a8
 refine Qr ?_
 have hE:=(Zi hm).symm
 refine Qh (a0 == 13) hE [26,3,1,148] Z (asK [0] Z) Z
 replace hm:=QH hm a8
 refine Q2 [26,3,1] (S':=V3 ..) Z (Q1 (wP Z (wP Z (Q4 ?_))))
 have hE:=(Zi hm).symm
 refine Qh (a0 == 15) hE [26,3,1,148] Z (asK [0] Z) Z
 rintro s hE
 try dsimp only
 have hm:=hLj_3
 try rw [hE] at hm
 refine Qt Z (fun a8=>?_) (fun a8=>?_)
 replace hm:=QI hm a8
 refine Q2 [3,1] (S':=[_,_]) Z (Q5 (Q1 (wF Z Q2x (wD 0 1 Z Q2e Q3O Z ?_))))
 obtain ⟨bT,b6,hm⟩:=Q6 hm
 refine wC [] [0] Z fn_70 Z (Q6z N a1 _ b6) (asK [] Z) Z (H':=[_]) Z ?_
 rintro _ _ _ ⟨rfl,rfl,rfl⟩
 refine wP Z ?_
 obtain ⟨aP,hm⟩:=Qd hm
 refine Qs (d:=154) (v':=.bool true) (S':=V5 ..) Z Z (Qy aP) (wP Z (wP Z (Qs (d:=156) (v':=.bool (l4.length == 0)) (S':=V7 ..) Z Z (Q4J (a:=l4.length) (b:=0)) (wP Z (wP Z (Q4 (Q3 (Q2 [2] (S':=[_]) Z (Qo (Qk (Q9 ?_)))))))))))
 have hE:=(Zi hm).symm
 replace hE:=hE.symm
 subst hE
 refine Qp (Hr:=[]) [] Tryz.results207 (Qg Z) ⟨Z,Z,Z⟩ (asK [] Z) Z Z (.inl Z)
 replace hm:=QH hm a8
 refine Q2 [26,3,1] (S':=V3 ..) Z (Q5 (Q1 (wP Z (wP Z (Q4 (Q3 (Q2 [158,26,3,1] (S':=V4 ..) Z ?_)))))))
 refine Qt Z (fun aD=>?_) (fun aD=>?_)
 replace hm:=QI hm aD
 refine Q2 [3,1] (S':=[_,_]) Z (Q5 (Q1 (wF Z Q2x (wD 0 1 Z Q2e Q3O Z ?_))))
 obtain ⟨_,b7,hm⟩:=Q6 hm
 try dsimp only at hm
 refine wC [] [0] Z fn_226 Z (QaW N a1 b7) (asK [] Z) Z (H':=[_]) Z ?_
 rintro _ _ _ ⟨rfl,rfl,rfl⟩
 refine wP Z ?_
 obtain ⟨aQ,hm⟩:=Qd hm
 refine Qs (d:=163) (v':=.bool true) (S':=V5 ..) Z Z (Qy aQ) (wP Z (wP Z (Qs (d:=165) (v':=.bool (l4.length == 0)) (S':=V7 ..) Z Z (Q4J (a:=l4.length) (b:=0)) (wP Z (wP Z (Q4 (Q3 (Q2 [2] (S':=[_]) Z (Qo (Qk (Q9 ?_)))))))))))
 have hE:=(Zi hm).symm
 replace hE:=hE.symm
 subst hE
 refine Qp (Hr:=[]) [] Tryz.results207 (Qg Z) ⟨Z,Z,Z⟩ (asK [] Z) Z Z (.inl Z)
 replace hm:=QH hm aD
 refine Q2 [26,3,1] (S':=V3 ..) Z (Q5 (Q1 (wP Z (wP Z ?_))))
 obtain ⟨aR,hm⟩:=Qd hm
 refine Qs (d:=167) (v':=.bool true) (S':=V4 ..) Z Z (Qy aR) (Q4 (Q3 (Q2 [167,3,1] (S':=V3 ..) Z (Q8D Z (Q2 [3,1] (S':=[_,_]) Z (Q5 (Q1 (wP Z (wP Z (Qs (d:=170) (v':=.bool (l4.length == 1)) (S':=V3 ..) Z Z (Q4J (a:=l4.length) (b:=1)) (wP Z ?_)))))))))))
 obtain ⟨aS,hm⟩:=Qd hm
 refine Qs (d:=171) (v':=.bool false) (S':=V4 ..) Z Z (Qy aS) (wO Z (wO Z (wO Z (wO Z (wO Z (wO Z (wO Z (wO Z (wP Z (wP Z (wP Z (wP Z (Qs (d:=183) (v':=.bool (l4.length == 2)) (S':=V16 ..) Z Z (Q4J (a:=l4.length) (b:=2)) ?_)))))))))))))
 refine wP Z ?_
 obtain ⟨aT,hm⟩:=Qd hm
 refine Qs (d:=184) (v':=.bool true) (S':=V17 ..) Z Z (Qy aT) (wF Z Q2x (wD 0 1 Z Q2e Q3O Z ?_))
 obtain ⟨bU,b8,hm⟩:=Q6 hm
 refine wC [] [0] Z fn_227 Z (Qc3 N a1 _ b8) (asK [] Z) Z (H':=[_]) Z ?_
 rintro _ _ _ ⟨rfl,rfl,rfl⟩
 refine wP Z (wP Z (wP Z ?_))
 obtain ⟨aU,hm⟩:=Qd hm
 refine Qs (d:=190) (v':=.bool true) (S':=V23 ..) Z Z (Qy aU) (wF Z Q1B (wD 0 4 Z Q28 Q2w Z ?_))
 obtain ⟨_,b9,hm⟩:=Q6 hm
 try dsimp only at hm
 refine wC [] [0] Z fn_225 Z (Q7G N rc ih a5 a6 l4 b9) (asK [0] Z) Z (H':=[_]) Z ?_
 rintro _ _ _ ⟨rfl,rfl,rfl⟩
 refine wP Z (wP Z (Q4 (Q3 (Q2 [2] (S':=[_]) Z (Qo (Qk (Q9 ?_)))))))
 have hE:=(Zi hm).symm
 replace hE:=hE.symm
 subst hE
 refine Qp (Hr:=[]) [] Tryz.results207 (Qg Z) ⟨Z,Z,Z⟩ (asK [] Z) Z Z (.inl Z)
theorem Qbi (N:Nat) (rc:(List Qe) → Int → Int → (List Int) → Option (Unit)) (ih : ∀ (a7:OA) (a8:Nat) (l0:List Qe) (a1:Int) (a2:Int) (a9:OA) (aA:Nat) (l3:List Int),rc l0 a1 a2 l3 = some () → Q17 Tryz.prog 169 [.slice a7 l0.length a8,.int .i64 a1,.int .i64 a2,.slice a9 l3.length aA] [.sli 5 Qq a7 a8 l0,.sli 1 R_u8 a9 aA l3] [] (fun v Φr Hr=>v = .bool true ∧ Φr = [] ∧ Hr = [])) (a7:OA) (a8:Nat) (l0:List Qe) (a1:Int) (a2:Int) (a9:OA) (aA:Nat) (l3:List Int)  (hm:Q7h N rc l0 a1 a2 l3 = some ()):Q17 Tryz.prog 169 [.slice a7 l0.length a8,.int .i64 a1,.int .i64 a2,.slice a9 l3.length aA] [.sli 5 Qq a7 a8 l0,.sli 1 R_u8 a9 aA l3] [] (fun v Φr Hr=>v = .bool true ∧ Φr = [] ∧ Hr = []):=by
 unfold Q7h at hm
 refine QC Tryz.func169 Z Tryz.ntmps169 Z (S:=V4 ..) Z (fun C=>(Q5 (Q1 (wP Z (Q4 (Q3 (Q2 [0,1,2,3] (S':=V4 ..) Z (Q5 ?_))))))))
 obtain ⟨aJ,hm,hLj_1⟩:=Q6 hm
 refine QM (σ:=Unit) (fun _=>aJ = ()) (fun _=>[]) (fun _=>[]) (fun _=>[]) ?_ ?_
 refine Q5 (Q1 (wP Z (wP Z (Q4 (Q3 (Q2 [9,0,2,3] (S':=V4 ..) Z (Qw (Q1j (σ:=Nat × Int) (fun (aD,z)=>Q1h (Q6Q N a2 l3 l0 rc) aD z = some aJ) (fun (aD,z)=>aD) (fun (aD,z)=>[(9,.int .i64 z),(0,.slice a7 l0.length a8),(2,.int .i64 a2),(3,.slice a9 l3.length aA)]) (fun (aD,z)=>[.sli 5 Qq a7 a8 l0,.sli 1 R_u8 a9 aA l3]) (fun (aD,z)=>[]) (N,a1) hm [9,0,2,3] Z (asK [0,1] Z) Z (fun s_ hm=>?_)))))))))
 obtain ⟨aD,z⟩:=s_
 try dsimp only at hm ⊢
 obtain ⟨bB,bC,aO,hq,hLu1⟩:=QV hm
 clear hm
 subst aO
 replace hm:=hq
 clear hq
 unfold Q6Q at hm
 try dsimp only at hm
 refine Q5 (Q5 (Q1 (wP Z (wP Z (wP Z (Q4 (Q3 (Q2 [15,9,0,2,3] (S':=V5 ..) Z ?_))))))))
 refine Qt Z (fun aF=>?_) (fun aF=>?_)
 replace hm:=QI hm aF
 refine Q2 [9,0,2,3] (S':=V4 ..) Z (Qr (Q3 (Q5 (Qw (Q5 (Q1 (wP Z (Q4 (Q3 (Q5 ?_))))))))))
 obtain ⟨aK,hm,hLj_2⟩:=Q6 hm
 refine QM (σ:=Bool) (fun a6=>aK = a6) (fun a6=>[(9,.int .i64 z),(0,.slice a7 l0.length a8),(2,.int .i64 a2),(3,.slice a9 l3.length aA),(10,.bool a6)]) (fun a6=>[.sli 5 Qq a7 a8 l0,.sli 1 R_u8 a9 aA l3]) (fun a6=>[]) ?_ ?_
 refine Q5 (Q1 (wP Z (Q4 (Q3 (Qw (Q1j (σ:=Nat × Nat × Bool) (fun (aE,s,a5)=>Q1h (Q6R N l3 z l0) aE (s,a5) = some aK) (fun (aE,s,a5)=>aE) (fun (aE,s,a5)=>[(11,.int .i64 ((s:Nat):Int)),(10,.bool a5),(9,.int .i64 z),(0,.slice a7 l0.length a8),(2,.int .i64 a2),(3,.slice a9 l3.length aA)]) (fun (aE,s,a5)=>[.sli 5 Qq a7 a8 l0,.sli 1 R_u8 a9 aA l3]) (fun (aE,s,a5)=>[]) (N,0,false) hm [11,10,9,0,2,3] Z (asK [0,1] Z) Z (fun s_ hm=>?_)))))))
 obtain ⟨aE,s,a5⟩:=s_
 try dsimp only at hm ⊢
 obtain ⟨bD,bE,aP,hq,hLu2⟩:=QV hm
 clear hm
 subst aP
 replace hm:=hq
 clear hq
 unfold Q6R at hm
 try dsimp only at hm
 refine Q5 (Q5 (Q1 (wP Z (wP Z (wN Z tE_254 (wP Z (Qs (d:=21) (v':=.bool (decide (s < l3.length))) (S':=V9 ..) Z Z (Q2l (a:=s) (b:=l3.length)) (Q4 (Q3 (Q2 [21,11,10,9,0,2,3] (S':=V7 ..) Z ?_))))))))))
 refine Qt Z (fun aG=>?_) (fun aG=>?_)
 replace hm:=QI hm aG
 refine Q2 [11,10,9,0,2,3] (S':=V6 ..) Z (Qr (Q3 (Q5 ?_)))
 obtain ⟨aQ,hm,hLj_3⟩:=Q6 hm
 refine QM (σ:=Bool) (fun a0=>aQ = a0) (fun a0=>[(11,.int .i64 ((s:Nat):Int)),(10,.bool a0),(9,.int .i64 z),(0,.slice a7 l0.length a8),(2,.int .i64 a2),(3,.slice a9 l3.length aA)]) (fun a0=>[.sli 5 Qq a7 a8 l0,.sli 1 R_u8 a9 aA l3]) (fun a0=>[]) ?_ ?_
 refine Qw ?_
 rcases Q1E hm with ⟨aH,hm⟩ | ⟨aH,hm⟩
 refine QW [0,1,2,3,4,5,6,7,8,9,10,11,12] Z Z (fun hok=>(xP hok 0 Z (xP hok 1 Z (Q1z (d:=25) (v':=.bool true) (S':=V7 ..) Z Z (Qy aH) (xO hok 2 Z (xO hok 3 Z (xO hok 4 Z (xO hok 5 Z (xO hok 6 Z (xO hok 7 Z (xO hok 8 Z (xO hok 9 Z (xO hok 10 Z (xO hok 11 Z ?_))))))))))))))
 refine xP hok 12 Z (xS hok 13 Z (QT (S':=V18 ..) Z Z Z Z Z (Q4 (QJ [0,1] [] Z Z (QS hok Z (Qf ?_))))))
 have hE:=(Zi hm).symm
 refine Qh true hE [11,10,9,0,2,3] Z (asK [0,1] Z) Z
 obtain ⟨aR,hm⟩:=Qd hm
 obtain ⟨b3,aS,hm⟩:=Q6 hm
 obtain ⟨b4,aT,hm⟩:=Q6 hm
 refine QW [0,1,2,3,4,5,6,7,8,9,10,11,12] Z Z (fun hok=>(xP hok 0 Z (xP hok 1 Z (Q1z (d:=25) (v':=.bool false) (S':=V7 ..) Z Z (Qy aH) (xP hok 2 Z (xP hok 3 Z (Q2P hok 4 0 z.toNat Z Z Z Zq Z Z Z Z Z (Q1d aR) aS Q1S Q13 (fun bF bG b8 b5=>(Q3s Q1q 1 Z (fun bH aU _=>?_))))))))))
 subst aU
 refine Q8 hok 5 Z Z Z Zq Z Z Z Q3q (Q4N hok 6 1 0 Z Z Z Zq Z Z Z Z (cs:=[_]) Z Q3X Q7C Z Z (xP hok 7 Z (xP hok 8 Z (Q2P hok 9 4 s Z Z Z Zq Z Z Z Z Z Z aT tE_254 Q3X (fun bI bJ b9 b6=>(Q3s R_u8_opens 1 Z (fun bK aV _=>?_)))))))
 subst aV
 refine Q4N hok 10 0 0 Z Z Z Zq Z Z Z Z (cs:=[_]) Z Q3X Q7C Z Z (xP hok 11 Z (xP hok 12 Z (xS hok 13 Z (QT (S':=V18 ..) Z Z Z Z Z (Q4 (QJ [0,1,2,3,4,5,6] [] Z Z (QS hok Z (Qf ?_))))))))
 have hE:=(Zi hm).symm
 refine Qh (b3.kind == b4) hE [11,10,9,0,2,3] Z (asK [5,6] Z) Z
 rintro a0 hE
 try dsimp only
 have hm:=hLj_3
 try rw [hE] at hm
 refine Q1 (wP Z (wP Z ?_))
 obtain ⟨aW,hm⟩:=Qd hm
 refine Qs (d:=23) (v':=.int .i64 ((s + 1:Nat):Int)) (S':=V7 ..) Z Z (Q1r (a:=s) (b:=1) aW) (QT (S':=V7 ..) Z Z Z Z Z (Q4 ?_))
 have hE:=(Zi hm).symm
 replace hE:=QF hLu2 hE
 refine QU (_,s + 1,a0) (Nat.lt_succ_self _) hE [11,10,9,0,2,3] Z (asK [0,1] Z) Z
 replace hm:=QH hm aG
 refine Q2 [10,9,0,2,3] (S':=V5 ..) Z (Q1g (Qj (Qj (QD ?_))))
 have hE:=(Zi hm).symm
 replace hE:=Qx hLu2 hE
 refine Qh a5 hE [9,0,2,3,10] Z (asK [0,1] Z) Z
 rintro a6 hE
 try dsimp only
 have hm:=hLj_2
 try rw [hE] at hm
 refine Q5 (Q1 (wP Z (wP Z (wP Z ?_))))
 obtain ⟨aL,hm⟩:=Qd hm
 refine Qs (d:=39) (v':=.bool false) (S':=V7 ..) Z Z (Qy aL) (wP Z (wP Z ?_))
 obtain ⟨aX,hm⟩:=Qd hm
 obtain ⟨aI,aY,hm⟩:=Q6 hm
 refine Q1a 0 z.toNat Z Z Z Zq Z Z Z Z (Q1d aX) aY Q1S Q13 (fun bL bM bA b7=>(Q1G Q1q 1 Z (fun aZ b0 _=>?_)))
 subst b0
 refine Q1F 1 0 Z Z Z Zq Z Z Z (cs:=V5 ..) Z Q13 Q1V Z Z ?_
 obtain ⟨bN,b1,hm⟩:=Q6 hm
 refine wC [] [] Z fn_207 Z (Qap N rc ih aI.kind aI.text aI.num aI.at_ aZ.1 aZ.2 aI.kids _ b1) (asK [0] Z) Z (H':=[]) Z ?_
 rintro _ _ _ ⟨rfl,rfl,rfl⟩
 refine wP Z (wP Z ?_)
 obtain ⟨aM,hm⟩:=Qd hm
 refine Qs (d:=46) (v':=.bool false) (S':=V14 ..) Z Z (Qy aM) (Q4 (Q3 (Q2 [46,9,0,2,3] (S':=V5 ..) Z (Q1l Z (Q2 [9,0,2,3] (S':=V4 ..) Z (Qr (Qf (Q3 (Q1 (wP Z (wP Z ?_)))))))))))
 obtain ⟨b2,hm⟩:=Qd hm
 refine Qs (d:=17) (v':=.int .i64 (z + 1)) (S':=V5 ..) Z Z (i64_in b2) (QT (S':=V5 ..) Z Z Z Z Z (Q4 ?_))
 have hE:=(Zi hm).symm
 replace hE:=QF hLu1 hE
 refine QU (_,z + 1) (Nat.lt_succ_self _) hE [9,0,2,3] Z (asK [3,4] Z) Z
 replace hm:=QH hm aF
 refine Q2 [] (S':=[]) Z (Q1g (Qj (Qj (QD ?_))))
 have hE:=(Zi hm).symm
 replace hE:=Qx hLu1 hE
 refine Qh () hE [] Z (asK [] Z) Z
 rintro _ hE
 try dsimp only
 have hm:=hLj_1
 try rw [hE] at hm
 try dsimp only at hm
 refine Q5 (Q1 (wP Z (Q4 (Q3 (Qo ?_)))))
 have hE:=(Zi hm).symm
 refine Qp (Hr:=[]) [] Tryz.results169 (Qg Z) ⟨Z,Z,Z⟩ (asK [] Z) Z Z (.inl Z)
theorem Qc4 : ∀ (N:Nat),∀ (qp0:OA) (qc1:Nat) (l0:List Qe) (a1:Int) (a2:Int) (qp2:OA) (qc3:Nat) (l3:List Int),Q6b N l0 a1 a2 l3 = some () → Q17 Tryz.prog 169 [.slice qp0 l0.length qc1,.int .i64 a1,.int .i64 a2,.slice qp2 l3.length qc3] [.sli 5 Qq qp0 qc1 l0,.sli 1 R_u8 qp2 qc3 l3] [] (fun v Φr Hr=>v = .bool true ∧ Φr = [] ∧ Hr = []):=by
 intro N
 induction N with
 | zero=>intro qp0 qc1 l0 a1 a2 qp2 qc3 l3 hm; cases hm
 | succ N ih=>intro qp0 qc1 l0 a1 a2 qp2 qc3 l3 hm; exact Qbi N (Q6b N) ih qp0 qc1 l0 a1 a2 qp2 qc3 l3 hm
theorem QaU (N:Nat) (rc:Int → ByteArray → Int → Int → (List Qe) → Option (Nat)) (ih : ∀ (a0:Int) (a1:ByteArray) (a2:Int) (a3:Int) (a6:OA) (a7:Nat) (l4:List Qe) (o0:Nat),rc a0 a1 a2 a3 l4 = some o0 → Q17 Tryz.prog 170 [.agg #[.int .u8 a0,.string a1,.int .i64 a2,.int .i64 a3,.slice a6 l4.length a7]] [.sli 5 Qq a6 a7 l4] [] (fun v Φr Hr=>v = .int .i64 ((o0:Nat):Int) ∧ Φr = [] ∧ Hr = [])) (a0:Int) (a1:ByteArray) (a2:Int) (a3:Int) (a6:OA) (a7:Nat) (l4:List Qe) (o0:Nat) (hm:Q6O N rc a0 a1 a2 a3 l4 = some o0):Q17 Tryz.prog 170 [.agg #[.int .u8 a0,.string a1,.int .i64 a2,.int .i64 a3,.slice a6 l4.length a7]] [.sli 5 Qq a6 a7 l4] [] (fun v Φr Hr=>v = .int .i64 ((o0:Nat):Int) ∧ Φr = [] ∧ Hr = []):=by
 unfold Q6O at hm
 refine QC Tryz.func170 Z Tryz.ntmps170 Z (S:=[_]) Z (fun C=>(Q5 (Q1 (wB Z (fun g1=>(wP Z (Q4 (Q3 (Q2 [1] (S':=[_]) Z (Q5 (Q1 (wP Z (Q4 (Q3 (Q5 ?_)))))))))))))))
 obtain ⟨aB,hm,hLj_1⟩:=Q6 hm
 refine QM (σ:=Nat) (fun z=>aB = z) (fun z=>[(3,.int .i64 ((z:Nat):Int))]) (fun z=>[]) (fun z=>[]) ?_ ?_
 refine Q5 (Q1 (wP Z (Q4 (Q3 (Qw (Q1j (σ:=Nat × Nat × Nat) (fun (a8,s,a5)=>Q1h (Q6m N l4 rc) a8 (s,a5) = some aB) (fun (a8,s,a5)=>a8) (fun (a8,s,a5)=>[(4,.int .i64 ((s:Nat):Int)),(3,.int .i64 ((a5:Nat):Int)),(1,.pointer (some ⟨g1,0,none⟩))]) (fun (a8,s,a5)=>[.sli 5 Qq a6 a7 l4]) (fun (a8,s,a5)=>[.blk g1 [.int .u8 a0,.string a1,.int .i64 a2,.int .i64 a3,.slice a6 l4.length a7] 159]) (N,0,0) hm [4,3,1] Z (asK [0] Z) Z (fun s_ hm=>?_)))))))
 obtain ⟨a8,s,a5⟩:=s_
 try dsimp only at hm ⊢
 obtain ⟨aR,aS,aH,hq,hLu1⟩:=QV hm
 clear hm
 subst aH
 replace hm:=hq
 clear hq
 unfold Q6m at hm
 try dsimp only at hm
 refine Q5 (Q5 (Q1 (wP Z (wF Z Q1B (wD 0 4 Z Q28 Q2w Z (wN Z Q1S (wP Z (Qs (d:=9) (v':=.bool (decide (s < l4.length))) (S':=V7 ..) Z Z (Q2l (a:=s) (b:=l4.length)) (Q4 (Q3 (Q2 [9,4,3,1] (S':=V4 ..) Z ?_)))))))))))
 refine Qt Z (fun aC=>?_) (fun aC=>?_)
 replace hm:=QI hm aC
 refine Q2 [4,3,1] (S':=V3 ..) Z (Qr (Q3 (Q5 (Qw (Q1 (wP Z (wF Z Q1B (wD 0 4 Z Q28 Q2w Z (wP Z ?_)))))))))
 obtain ⟨aA,aI,hm⟩:=Q6 hm
 refine Q1a 0 s Z Z Z Zq Z Z Z Z Z aI Q1S Q13 (fun aT aU aQ aO=>(Q1G Q1q 1 Z (fun aJ aK _=>?_)))
 subst aK
 refine Q1F 1 0 Z Z Z Zq Z Z Z (cs:=V5 ..) Z Q13 Q1V Z Z ?_
 obtain ⟨aD,aL,hm⟩:=Q6 hm
 refine wC [] [0] Z fn_170 Z (ih aA.kind aA.text aA.num aA.at_ aJ.1 aJ.2 aA.kids _ aL) (asK [0] Z) Z (H':=[_]) Z ?_
 rintro _ _ _ ⟨rfl,rfl,rfl⟩
 refine Q1w Z Z Z Zq (rk_max Z Z Z) (Qs (d:=19) (v':=.int .i64 ((max a5 aD:Nat):Int)) (S':=V10 ..) Z Z (maxI_nat (a:=a5) (b:=aD)) (QT (S':=V10 ..) Z Z Z Z Z (Q4 (Qf (Q3 (Q2 [3,4,1] (S':=V3 ..) Z (Q1 (wP Z (wP Z ?_)))))))))
 obtain ⟨aM,hm⟩:=Qd hm
 refine Qs (d:=11) (v':=.int .i64 ((s + 1:Nat):Int)) (S':=V4 ..) Z Z (Q1r (a:=s) (b:=1) aM) (QT (S':=V4 ..) Z Z Z Z Z (Q4 ?_))
 have hE:=(Zi hm).symm
 replace hE:=QF hLu1 hE
 refine QU (_,s + 1,max a5 aD) (Nat.lt_succ_self _) hE [4,3,1] Z (asK [3] Z) Z
 replace hm:=QH hm aC
 refine Q2 [3] (S':=[_]) Z (Q1g (Qj (Qj (QD ?_))))
 have hE:=(Zi hm).symm
 replace hE:=Qx hLu1 hE
 refine QE [] Z (H':=[]) Z ?_
 refine Qh a5 hE [3] Z (asK [] Z) Z
 rintro z hE
 try dsimp only
 have hm:=hLj_1
 try rw [hE] at hm
 refine Q5 (Q1 (wP Z (wP Z ?_)))
 obtain ⟨aN,hm⟩:=Qd hm
 refine Qs (d:=21) (v':=.int .i64 ((z + 1:Nat):Int)) (S':=[_,_]) Z Z (Q1r (a:=z) (b:=1) aN) (wP Z (Q4 (Q3 (Q2 [2] (S':=[_]) Z (Qo ?_)))))
 have hE:=(Zi hm).symm
 replace hE:=hE.symm
 subst hE
 refine Qp (Hr:=[]) [] Tryz.results170 (Qg Z) ⟨Z,Z,Z⟩ (asK [] Z) Z Z (.inl Z)
theorem QbQ : ∀ (N:Nat),∀ (a0:Int) (a1:ByteArray) (a2:Int) (a3:Int) (qp0:OA) (qc1:Nat) (l4:List Qe) (o0:Nat),Q5P N a0 a1 a2 a3 l4 = some o0 → Q17 Tryz.prog 170 [.agg #[.int .u8 a0,.string a1,.int .i64 a2,.int .i64 a3,.slice qp0 l4.length qc1]] [.sli 5 Qq qp0 qc1 l4] [] (fun v Φr Hr=>v = .int .i64 ((o0:Nat):Int) ∧ Φr = [] ∧ Hr = []):=by
 intro N
 induction N with
 | zero=>intro a0 a1 a2 a3 qp0 qc1 l4 o0 hm; cases hm
 | succ N ih=>intro a0 a1 a2 a3 qp0 qc1 l4 o0 hm; exact QaU N (Q5P N) ih a0 a1 a2 a3 qp0 qc1 l4 o0 hm
theorem QaV (N:Nat) (rc:Int → ByteArray → Int → Int → (List Qe) → Option (Nat)) (ih : ∀ (a0:Int) (a1:ByteArray) (a2:Int) (a3:Int) (a6:OA) (a7:Nat) (l4:List Qe) (o0:Nat),rc a0 a1 a2 a3 l4 = some o0 → Q17 Tryz.prog 171 [.agg #[.int .u8 a0,.string a1,.int .i64 a2,.int .i64 a3,.slice a6 l4.length a7]] [.sli 5 Qq a6 a7 l4] [] (fun v Φr Hr=>v = .int .i64 ((o0:Nat):Int) ∧ Φr = [] ∧ Hr = [])) (a0:Int) (a1:ByteArray) (a2:Int) (a3:Int) (a6:OA) (a7:Nat) (l4:List Qe) (o0:Nat) (hm:Q6P N rc a0 a1 a2 a3 l4 = some o0):Q17 Tryz.prog 171 [.agg #[.int .u8 a0,.string a1,.int .i64 a2,.int .i64 a3,.slice a6 l4.length a7]] [.sli 5 Qq a6 a7 l4] [] (fun v Φr Hr=>v = .int .i64 ((o0:Nat):Int) ∧ Φr = [] ∧ Hr = []):=by
 unfold Q6P at hm
 refine QC Tryz.func171 Z Tryz.ntmps171 Z (S:=[_]) Z (fun C=>(Q5 (Q1 (wB Z (fun g1=>(wP Z (Q4 (Q3 (Q2 [1] (S':=[_]) Z (Q5 (Q1 (wP Z (Q4 (Q3 (Q5 ?_)))))))))))))))
 obtain ⟨aB,hm,hLj_1⟩:=Q6 hm
 refine QM (σ:=Nat) (fun a5=>aB = a5) (fun a5=>[(3,.int .i64 ((a5:Nat):Int))]) (fun a5=>[]) (fun a5=>[]) ?_ ?_
 refine Q5 (Q1 (wP Z (Q4 (Q3 (Qw (Q1j (σ:=Nat × Nat × Nat) (fun (a8,s,z)=>Q1h (Q6n N l4 rc) a8 (s,z) = some aB) (fun (a8,s,z)=>a8) (fun (a8,s,z)=>[(4,.int .i64 ((s:Nat):Int)),(3,.int .i64 ((z:Nat):Int)),(1,.pointer (some ⟨g1,0,none⟩))]) (fun (a8,s,z)=>[.sli 5 Qq a6 a7 l4]) (fun (a8,s,z)=>[.blk g1 [.int .u8 a0,.string a1,.int .i64 a2,.int .i64 a3,.slice a6 l4.length a7] 159]) (N,0,1) hm [4,3,1] Z (asK [0] Z) Z (fun s_ hm=>?_)))))))
 obtain ⟨a8,s,z⟩:=s_
 try dsimp only at hm ⊢
 obtain ⟨aR,aS,aH,hq,hLu1⟩:=QV hm
 clear hm
 subst aH
 replace hm:=hq
 clear hq
 unfold Q6n at hm
 try dsimp only at hm
 refine Q5 (Q5 (Q1 (wP Z (wF Z Q1B (wD 0 4 Z Q28 Q2w Z (wN Z Q1S (wP Z (Qs (d:=9) (v':=.bool (decide (s < l4.length))) (S':=V7 ..) Z Z (Q2l (a:=s) (b:=l4.length)) (Q4 (Q3 (Q2 [9,4,3,1] (S':=V4 ..) Z ?_)))))))))))
 refine Qt Z (fun aC=>?_) (fun aC=>?_)
 replace hm:=QI hm aC
 refine Q2 [4,3,1] (S':=V3 ..) Z (Qr (Q3 (Q5 (Qw (Q1 (wP Z (wF Z Q1B (wD 0 4 Z Q28 Q2w Z (wP Z ?_)))))))))
 obtain ⟨aA,aI,hm⟩:=Q6 hm
 refine Q1a 0 s Z Z Z Zq Z Z Z Z Z aI Q1S Q13 (fun aT aU aQ aO=>(Q1G Q1q 1 Z (fun aJ aK _=>?_)))
 subst aK
 refine Q1F 1 0 Z Z Z Zq Z Z Z (cs:=V5 ..) Z Q13 Q1V Z Z ?_
 obtain ⟨aD,aL,hm⟩:=Q6 hm
 refine wC [] [0] Z fn_171 Z (ih aA.kind aA.text aA.num aA.at_ aJ.1 aJ.2 aA.kids _ aL) (asK [0] Z) Z (H':=[_]) Z ?_
 rintro _ _ _ ⟨rfl,rfl,rfl⟩
 refine wP Z ?_
 obtain ⟨aM,hm⟩:=Qd hm
 refine Qs (d:=19) (v':=.int .i64 ((z + aD:Nat):Int)) (S':=V10 ..) Z Z (Q1r (a:=z) (b:=aD) aM) (QT (S':=V10 ..) Z Z Z Z Z (Q4 (Qf (Q3 (Q2 [3,4,1] (S':=V3 ..) Z (Q1 (wP Z (wP Z ?_))))))))
 obtain ⟨aN,hm⟩:=Qd hm
 refine Qs (d:=11) (v':=.int .i64 ((s + 1:Nat):Int)) (S':=V4 ..) Z Z (Q1r (a:=s) (b:=1) aN) (QT (S':=V4 ..) Z Z Z Z Z (Q4 ?_))
 have hE:=(Zi hm).symm
 replace hE:=QF hLu1 hE
 refine QU (_,s + 1,z + aD) (Nat.lt_succ_self _) hE [4,3,1] Z (asK [3] Z) Z
 replace hm:=QH hm aC
 refine Q2 [3] (S':=[_]) Z (Q1g (Qj (Qj (QD ?_))))
 have hE:=(Zi hm).symm
 replace hE:=Qx hLu1 hE
 refine QE [] Z (H':=[]) Z ?_
 refine Qh z hE [3] Z (asK [] Z) Z
 rintro a5 hE
 try dsimp only
 have hm:=hLj_1
 try rw [hE] at hm
 refine Q5 (Q1 (wP Z (wP Z (Q4 (Q3 (Q2 [2] (S':=[_]) Z (Qo ?_)))))))
 have hE:=(Zi hm).symm
 replace hE:=hE.symm
 subst hE
 refine Qp (Hr:=[]) [] Tryz.results171 (Qg Z) ⟨Z,Z,Z⟩ (asK [] Z) Z Z (.inl Z)
theorem QbR : ∀ (N:Nat),∀ (a0:Int) (a1:ByteArray) (a2:Int) (a3:Int) (qp0:OA) (qc1:Nat) (l4:List Qe) (o0:Nat),Q5Q N a0 a1 a2 a3 l4 = some o0 → Q17 Tryz.prog 171 [.agg #[.int .u8 a0,.string a1,.int .i64 a2,.int .i64 a3,.slice qp0 l4.length qc1]] [.sli 5 Qq qp0 qc1 l4] [] (fun v Φr Hr=>v = .int .i64 ((o0:Nat):Int) ∧ Φr = [] ∧ Hr = []):=by
 intro N
 induction N with
 | zero=>intro a0 a1 a2 a3 qp0 qc1 l4 o0 hm; cases hm
 | succ N ih=>intro a0 a1 a2 a3 qp0 qc1 l4 o0 hm; exact QaV N (Q5Q N) ih a0 a1 a2 a3 qp0 qc1 l4 o0 hm
theorem Qbh (N:Nat) (a0:Int) (a1:ByteArray) (a2:Int) (a3:Int) (s:OA) (z:Nat) (l4:List Qe) (o0:Bool) (hm:Q7g N a0 a1 a2 a3 l4 = some o0):Q17 Tryz.prog 128 [.agg #[.int .u8 a0,.string a1,.int .i64 a2,.int .i64 a3,.slice s l4.length z]] [.sli 5 Qq s z l4] [] (fun v Φr Hr=>v = .bool o0 ∧ Φr = [] ∧ Hr = []):=by
 unfold Q7g at hm
 refine QC Tryz.func128 Z Tryz.ntmps128 Z (S:=[_]) Z (fun C=>(Q5 (Q1 (wB Z (fun g1=>(wP Z (Q4 (Q3 (Q2 [1] (S':=[_]) Z (Q5 (Q5 (Q1 (wF Z Q3q (wD 0 0 Z Q3X Q7C Z (wP Z ?_)))))))))))))))
 refine wP Z ?_
 obtain ⟨aA,hm⟩:=Qd hm
 refine Qs (d:=6) (v':=.bool false) (S':=V4 ..) Z Z (Qy aA) (wF Z Q2x (wD 0 1 Z Q2e Q3O Z (wP Z (wP Z (wP Z ?_)))))
 obtain ⟨a6,hm⟩:=Qd hm
 refine Qs (d:=11) (v':=.bool false) (S':=V9 ..) Z Z (Qy a6) (wF Z Q6y (wD 0 2 Z Q1m Q1H Z (wP Z (wP Z (wP Z ?_)))))
 obtain ⟨a7,hm⟩:=Qd hm
 refine Qs (d:=16) (v':=.bool false) (S':=V14 ..) Z Z (Qy a7) (wF Z tF_159_3 (wD 0 3 Z Q1m Q1H Z (wP Z (wP Z ?_))))
 obtain ⟨a8,hm⟩:=Qd hm
 refine Qs (d:=20) (v':=.bool false) (S':=V18 ..) Z Z (Qy a8) (Q4 (Q3 (Q2 [20,1] (S':=[_,_]) Z (Q1l Z (Q2 [1] (S':=[_]) Z (Qr (Q3 (Q5 (Q1 (wF Z Q1B (wD 0 4 Z Q28 Q2w Z (wF Z Q1B (wD 0 4 Z Q28 Q2w Z ?_)))))))))))))
 refine wN Z Q1S (QB Z Z Z Zq Z tE_254 Q3X tZ_156 Z (zs:=[.int .u8 0,.int .u8 0]) (by kernel_rfl) Z (out:=[_,_]) Z (fun aI=>(Q1Z (sz:=1) (m:=2) R_u8 ([2,4]) 0 Z (fun F w hφ=>⟨[.int .u8 2],[.int .u8 4],Z,Z,⟨(),Z,Qu⟩,⟨[.int .u8 4],[],Z,Z,⟨(),Z,Qu⟩,Z⟩⟩) Z (by decide) (H':=[_,_]) Z ?_)))
 obtain ⟨_,aB,hm⟩:=Q6 hm
 try dsimp only at hm
 refine Q53 [] [0,1] [0] Z Z Z Zq Z Z fn_169 Z (Qc4 N s z l4 0 ((l4.length:Nat):Int) (some ⟨aI,0,none⟩) 2 [2,4] aB) (fun F w hφ hh=>(Q14 (hφ _ (Q12 (k:=0) Z)) (Q14 (Q1A (hh _ (Q12 (k:=0) Z))) Qu))) (fun _ _ _ hR=>by obtain ⟨rfl,rfl,rfl⟩:=hR; exact ⟨Z,(fun _ h=>Q3G h)⟩) Z Z (H':=[_,_]) Z ?_
 rintro _ _ _ ⟨rfl,rfl,rfl⟩
 refine wP Z (QO 1 0 Z Z Z Zq Z Z Z (cs:=V5 ..) Z Q13 Q1V Z Z ?_)
 obtain ⟨aC,aD,hm⟩:=Q6 hm
 refine wC [] [0,1] Z fn_170 Z (QbQ N a0 a1 a2 a3 s z l4 _ aD) (asK [0] Z) Z (H':=[_,_]) Z ?_
 rintro _ _ _ ⟨rfl,rfl,rfl⟩
 refine wP Z (Qs (d:=31) (v':=.bool (decide (aC ≤ 30))) (S':=V11 ..) Z Z (natle (a:=aC) (b:=30)) (wP Z (wP Z ?_)))
 obtain ⟨a9,hm⟩:=Qd hm
 refine Qs (d:=33) (v':=.bool true) (S':=V13 ..) Z Z (Qy a9) (QO 1 0 Z Z Z Zq Z Z Z (cs:=V5 ..) Z Q13 Q1V Z Z ?_)
 obtain ⟨aE,aF,hm⟩:=Q6 hm
 refine wC [] [0,1] Z fn_171 Z (QbR N a0 a1 a2 a3 s z l4 _ aF) (asK [0] Z) Z (H':=[_,_]) Z ?_
 rintro _ _ _ ⟨rfl,rfl,rfl⟩
 refine wP Z (Qs (d:=36) (v':=.bool (decide (aE ≤ 4096))) (S':=V16 ..) Z Z (natle (a:=aE) (b:=4096)) (wP Z (wP Z (Q4 (Q3 (Q2 [2] (S':=[_]) Z (Qo ?_)))))))
 have hE:=(Zi hm).symm
 replace hE:=hE.symm
 subst hE
 refine Qp (Hr:=[]) [] Tryz.results128 (Qg Z) ⟨Z,Z,Z⟩ (asK [] Z) Z Z (.inl Z)
theorem Q74 (N:Nat) (aC:Nat) (s:OA) (z:Nat) (a0:Nat) (l0:List Ql) (a1:OA) (a7:Nat) (a8:Nat) (l1:List Qi) (a9:OA) (aA:Nat) (aB:Nat) (l2:List ByteArray) (a3:Int) (a4:Int) (a5:Int) (a6:ByteArray) (o0:Int) (hm:Q3J N l0 l1 l2 a3 a4 a5 a6 = some o0):Q17 Tryz.prog 173 [.pointer (some ⟨aC,0,none⟩),.string a6] [] [.blk aC [.slice s z a0,.slice a1 a7 a8,.slice a9 aA aB,.int .i64 a3,.int .i64 a4,.int .i64 a5] 206,.own 69 2 Qb (.slice s z a0) l0,.own 52 5 Qa (.slice a1 a7 a8) l1,.own 9 1 Q1u (.slice a9 aA aB) l2] (fun v Φr Hr=>v = .int .i64 o0 ∧ Φr = [] ∧ Hr = [.blk aC [.slice s z a0,.slice a1 a7 a8,.slice a9 aA aB,.int .i64 a3,.int .i64 a4,.int .i64 a5] 206,.own 69 2 Qb (.slice s z a0) l0,.own 52 5 Qa (.slice a1 a7 a8) l1,.own 9 1 Q1u (.slice a9 aA aB) l2]):=by
 unfold Q3J at hm
 refine QC Tryz.func173 Z Tryz.ntmps173 Z (S:=[_,_]) Z (fun C=>(Q5 (Q1 (wP Z (Q4 (Q3 (Q2 [0,1] (S':=[_,_]) Z (Q5 (Q5 (Q1 (wP Z (Q4 (Q3 (Qw ?_))))))))))))))
 refine Q1j (σ:=Unit) (fun _=>True) (fun _=>0) (fun _=>[(5,.int .i64 0),(0,.pointer (some ⟨aC,0,none⟩)),(1,.string a6)]) (fun _=>[]) (fun _=>[.blk aC [.slice s z a0,.slice a1 a7 a8,.slice a9 aA aB,.int .i64 a3,.int .i64 a4,.int .i64 a5] 206,.own 69 2 Qb (.slice s z a0) l0,.own 52 5 Qa (.slice a1 a7 a8) l1,.own 9 1 Q1u (.slice a9 aA aB) l2]) () trivial [5,0,1] Z (asK [] Z) Z (fun _ _=>?_)
 try dsimp only
 refine Q5 (Q5 (Q1 (wP Z (wP Z (wP Z (wF Z Q7E (wF Z Q5W (wD 0 0 Z Q9m Q9L Z (QQ 1 Z (fun aH _=>(wN Z Q8w (Qs (d:=12) (v':=.int .i64 ((l0.length:Nat):Int)) (S':=V9 ..) Z Z (Q7a aH) (wP Z (Qs (d:=13) (v':=.bool (decide (0 < l0.length))) (S':=V10 ..) Z Z (Q2l (a:=0) (b:=l0.length)) ?_))))))))))))))
 refine Q4 (Q3 (Q2 [13,5,0,1] (S':=V4 ..) Z ?_))
 refine Qt Z (fun aD=>?_) (fun aD=>?_)
 replace hm:=QI hm aD
 refine Q2 [5,0,1] (S':=V3 ..) Z (Qr (Q3 (Q5 (Qw (Q5 (Q1 (wP Z (wP Z (wF Z Q7E (wF Z Q5W (wD 0 0 Z Q9m Q9L Z (wP Z ?_))))))))))))
 obtain ⟨aN,aE,hm⟩:=Q6 hm
 refine Q7N 1 0 Z Z Z Zq Z Z Z Z Z (Q2Y aE) Q8w tS_69 (fun aP aI=>?_)
 subst aI
 refine wF Z QbH (Q29 Q3E 1 0 0 Z Z Z Zq Z Z Z aE Q2e Q3O (v:=fun _=>.string aN.name) (fun _=>Z) (fun _=>Z) (fun _ _=>(wP Z (wP Z ?_))))
 obtain ⟨aG,hm⟩:=Qd hm
 refine Qs (d:=26) (v':=.bool true) (S':=V13 ..) Z Z (Qy aG) (Q4 (Q3 (Q2 [26,5,0,1] (S':=V4 ..) Z (Q8D Z (Q2 [5] (S':=[_]) Z (Q5 (Q1 (wP Z (wP Z (Q4 (Q3 (Q2 [4] (S':=[_]) Z (Qo ?_)))))))))))))
 refine Qk (Q9 (Q9 (Qk (Q9 ?_))))
 have hE:=(Zi hm).symm
 replace hE:=hE.symm
 subst hE
 refine Qp (Hr:=V4 ..) [0,1,2,3] Tryz.results173 (Qg Z) ⟨Z,Z,Z⟩ (asK [] Z) Z Z (.inl Z)
 replace hm:=QH hm aD
 refine Q2 [] (S':=[]) Z (Q1g (Qj (Qj (QD (Q3 (Q5 (Q1 (wP Z (Q4 (Q3 (Qo ?_)))))))))))
 have hE:=(Zi hm).symm
 replace hE:=hE.symm
 subst hE
 refine Qp (Hr:=V4 ..) [0,1,2,3] Tryz.results173 (Qg Z) ⟨Z,Z,Z⟩ (asK [] Z) Z Z (.inl Z)
theorem Q1s (N:Nat) (qg0:Nat) (qp1:OA) (qn2:Nat) (qc3:Nat) (l0:List Ql) (qp4:OA) (qn5:Nat) (qc6:Nat) (l1:List Qi) (qp7:OA) (qn8:Nat) (qc9:Nat) (l2:List ByteArray) (a3:Int) (a4:Int) (a5:Int) (a6:Bool) (a7:Int) (a8:Int) (a9:ByteArray) (a10:Int) (a11:Int) (qp10:OA) (qc11:Nat) (l12:List Qe)  (hm:Q1k N l0 l1 l2 a3 a4 a5 a6 a7 a8 a9 a10 a11 l12 = some ()):Q17 Tryz.prog 172 [.pointer (some ⟨qg0,0,none⟩),.bool a6,.int .i64 a7,.agg #[.int .u8 a8,.string a9,.int .i64 a10,.int .i64 a11,.slice qp10 l12.length qc11]] [.sli 5 Qq qp10 qc11 l12] [.blk qg0 [.slice qp1 qn2 qc3,.slice qp4 qn5 qc6,.slice qp7 qn8 qc9,.int .i64 a3,.int .i64 a4,.int .i64 a5] 206,.own 69 2 Qb (.slice qp1 qn2 qc3) l0,.own 52 5 Qa (.slice qp4 qn5 qc6) l1,.own 9 1 Q1u (.slice qp7 qn8 qc9) l2] (fun v Φr Hr=>v = .tuple #[] ∧ Φr = [] ∧ Hr = [.blk qg0 [.slice qp1 qn2 qc3,.slice qp4 qn5 qc6,.slice qp7 qn8 qc9,.int .i64 a3,.int .i64 a4,.int .i64 a5] 206,.own 69 2 Qb (.slice qp1 qn2 qc3) l0,.own 52 5 Qa (.slice qp4 qn5 qc6) l1,.own 9 1 Q1u (.slice qp7 qn8 qc9) l2]):=by
 unfold Q1k at hm
 refine QC Tryz.func172 Z Tryz.ntmps172 Z (S:=V4 ..) Z (fun C=>(Q5 (Q1 (wB Z (fun g7=>(Q4 (Q3 (Q2 [7,0,1,2] (S':=V4 ..) Z (Q5 (Q1 (wP Z (wP Z ?_))))))))))))
 obtain ⟨hpr9,hm⟩:=Qd hm
 refine Qs (d:=9) (v':=.bool false) (S':=V5 ..) Z Z (Qy hpr9) (wO Z (wO Z (wO Z (wO Z (wO Z (wO Z (wP Z (Q4 (Q3 (Q2 [16,7,0,2] (S':=V4 ..) Z (Q1l Z (Q2 [] (S':=[]) Z (Qr ?_)))))))))))))
 have hE:=(Zi hm).symm
 refine Q6v (Hr:=V4 ..) [1,2,3,4] Tryz.results172 ⟨Z,Z,Z⟩ (asK [] Z) Z Z (.inr Z)
end Go.Proofs.YtbgodclhmgmcgaaGreatDoor
