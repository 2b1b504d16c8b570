import Derived.Test.YtbgodclhmgmcgaaGreatDoorXW3
namespace Go.Proofs.YtbgodclhmgmcgaaGreatDoor
open Go.RowKit
set_option maxRecDepth 100000
set_option maxHeartbeats 4000000
theorem Q8C (N:Nat) (aR:Nat) (bG:OA) (bH:Nat) (bI:Nat) (l0:List Ql) (aK:OA) (aL:Nat) (aM:Nat) (l1:List Qi) (aN:OA) (aO:Nat) (aP:Nat) (l2:List ByteArray) (a3:Int) (a4:Int) (a5:Int) (a6:Int) (a7:ByteArray) (a8:Int) (a9:Int) (aT:OA) (aH:Nat) (aI:Nat) (aS:List Qe) (o2:List Ql) (hm:Q50 N l0 l1 l2 a3 a4 a5 a6 a7 a8 a9 aS = some o2):Q17 Tryz.prog 129 [.pointer (some ⟨aR,0,none⟩),.agg #[.int .u8 a6,.string a7,.int .i64 a8,.int .i64 a9,.slice aT aH aI]] [] [.blk aR [.slice bG bH bI,.slice aK aL aM,.slice aN aO aP,.int .i64 a3,.int .i64 a4,.int .i64 a5] 206,.own 69 2 Qb (.slice bG bH bI) l0,.own 52 5 Qa (.slice aK aL aM) l1,.own 9 1 Q1u (.slice aN aO aP) l2,.own 159 5 Qq (.slice aT aH aI) aS] (fun v Φr Hr=>∃ (o0:OA) (o1:Nat) (o3:Nat),v = .tuple #[] ∧ Φr = [] ∧ Hr = [.blk aR [.slice o0 o3 o1,.slice aK aL aM,.slice aN aO aP,.int .i64 a3,.int .i64 a4,.int .i64 a5] 206,.own 69 2 Qb (.slice o0 o3 o1) o2,.own 52 5 Qa (.slice aK aL aM) l1,.own 9 1 Q1u (.slice aN aO aP) l2,.own 159 5 Qq (.slice aT aH aI) aS]):=by
 unfold Q50 at hm
 refine QC Tryz.func129 Z Tryz.ntmps129 Z (S:=[_,_]) Z (fun C=>(Q5 (Q1 (wB Z (fun g3=>(Q4 (Q3 (Q2 [3,0] (S':=[_,_]) Z (Q5 (Q1 (wP Z (Q4 (Q3 (Qw (Q7M [0,5,1,2,3,4] Z (H':=V6 ..) Z ?_)))))))))))))))
 refine Q1j (σ:=Nat × Nat × (List Ql) × OA × Nat × Nat) (fun (aY,aF,s,z,a0,a1)=>Q1h (Q4d N aS l1 l2 a3 a4 a5) aY (aF,s) = some o2) (fun (aY,aF,s,z,a0,a1)=>aY) (fun (aY,aF,s,z,a0,a1)=>[(4,.int .i64 ((aF:Nat):Int)),(3,.pointer (some ⟨g3,0,none⟩)),(0,.pointer (some ⟨aR,0,none⟩))]) (fun (aY,aF,s,z,a0,a1)=>[]) (fun (aY,aF,s,z,a0,a1)=>[.blk g3 [.int .u8 a6,.string a7,.int .i64 a8,.int .i64 a9,.slice aT aH aI] 159,.own 159 5 Qq (.slice aT aH aI) aS,.blk aR [.slice z a1 a0,.slice aK aL aM,.slice aN aO aP,.int .i64 a3,.int .i64 a4,.int .i64 a5] 206,.own 69 2 Qb (.slice z a1 a0) s,.own 52 5 Qa (.slice aK aL aM) l1,.own 9 1 Q1u (.slice aN aO aP) l2]) (N,0,l0,bG,bI,bH) hm [4,3,0] Z (asK [] Z) Z (fun s_ hm=>?_)
 obtain ⟨aY,aF,s,z,a0,a1⟩:=s_
 try dsimp only at hm ⊢
 obtain ⟨cL,cM,bM,hq,hLu1⟩:=QV hm
 clear hm
 subst bM
 replace hm:=hq
 clear hq
 unfold Q4d at hm
 try dsimp only at hm
 refine Q5 (Q5 (Q1 (wP Z (wF Z Q1B (wD 0 4 Z Q28 Q2w Z (QQ 1 Z (fun bN _=>(wN Z Q1S (Qs (d:=11) (v':=.int .i64 ((aS.length:Nat):Int)) (S':=V6 ..) Z Z (Q7a bN) (wP Z (Qs (d:=12) (v':=.bool (decide (aF < aS.length))) (S':=V7 ..) Z Z (Q2l (a:=aF) (b:=aS.length)) (Q4 (Q3 (Q2 [12,4,3,0] (S':=V4 ..) Z ?_))))))))))))))
 refine Qt Z (fun b2=>?_) (fun b2=>?_)
 replace hm:=QI hm b2
 refine Q2 [4,3,0] (S':=V3 ..) Z (Qr (Q3 (Q5 ?_)))
 obtain ⟨bO,hm,hLj_1⟩:=Q6 hm
 unfold Q6u at hm
 refine QM (σ:=(List Ql) × OA × Nat × Nat) (fun (aB,aC,aD,aE)=>bO = aB) (fun (aB,aC,aD,aE)=>[(4,.int .i64 ((aF:Nat):Int)),(3,.pointer (some ⟨g3,0,none⟩)),(0,.pointer (some ⟨aR,0,none⟩))]) (fun (aB,aC,aD,aE)=>[]) (fun (aB,aC,aD,aE)=>[.blk g3 [.int .u8 a6,.string a7,.int .i64 a8,.int .i64 a9,.slice aT aH aI] 159,.own 159 5 Qq (.slice aT aH aI) aS,.blk aR [.slice aC aE aD,.slice aK aL aM,.slice aN aO aP,.int .i64 a3,.int .i64 a4,.int .i64 a5] 206,.own 69 2 Qb (.slice aC aE aD) aB,.own 52 5 Qa (.slice aK aL aM) l1,.own 9 1 Q1u (.slice aN aO aP) l2]) ?_ ?_
 refine Qw (Q5 (Q1 (wF Z Q1B (wD 0 4 Z Q28 Q2w Z (wP Z ?_)))))
 obtain ⟨aA,bB,hm⟩:=Q6 hm
 refine Q7N 1 aF Z Z Z Zq Z Z Z Z Z (Q2Y bB) Q1S Q13 (fun aU bP=>?_)
 subst bP
 refine Q29 Q1q 1 aF 0 Z Z Z Zq Z Z Z bB Q13 Q1V (v:=fun aJ=>.agg #[.int .u8 (aA.kind),.string aA.text,.int .i64 (aA.num),.int .i64 (aA.at_),.slice aJ.1 aA.kids.length aJ.2]) (fun _=>Z) (fun _=>Z) (fun aJ _=>(QK Z Z Z Zq Z Q3P Z (fun g5=>(wS 0 0 Z Q13 (all':=V5 ..) Z (H':=V7 ..) Z (Q4 (Q3 (Q2 [5,4,3,0] (S':=V4 ..) Z (Q5 (Q5 (Q1 (wF Z Q3q (wD 0 0 Z Q3X Q7C Z (wP Z (Q4 (Q3 ?_)))))))))))))))
 refine Q2 [22,5,4,3,0] (S':=V5 ..) Z ?_
 refine Qt Z (fun b3=>?_) (fun b3=>?_)
 replace hm:=QI hm b3
 refine Q2 [4,3,0] (S':=V3 ..) Z (Q1g (Qj (QD ?_)))
 have hE:=(Zi hm).symm
 refine QE [1,2,3,4,5,6] Z (H':=V6 ..) Z ?_
 refine Qh (s,z,a0,a1) hE [4,3,0] Z (asK [] Z) Z
 replace hm:=QH hm b3
 refine Q2 [5,4,3,0] (S':=V4 ..) Z (Qr (Q3 (Q5 ?_)))
 obtain ⟨c9,bQ,hm⟩:=Q6 hm
 obtain ⟨_,bR,hm⟩:=Q6 hm
 try dsimp only at hm
 refine QW [0,1,2,3,5,6] Z Z (fun hok=>(xP hok 0 Z (xP hok 1 Z (Q8 hok 2 Z Z Z Zq Z Z Z Q2x (Qn hok 3 0 1 Z Z Z Zq Z Z Z Z (cs:=[_]) Z Q2e Q3O Z Z (Qn hok 6 0 0 Z Z Z Zq Z Z Z Z (cs:=V5 ..) Z Q13 Q1V Z Z (xS hok 4 Z (wC [3,4,5,6] [0,1,2] Z fn_173 Z (Q74 N aR z a1 a0 s aK aL aM l1 aN aO aP l2 a3 a4 a5 aA.text _ bQ) (asK [] Z) Z (H':=V3 ..) Z ?_))))))))
 rintro _ _ _ ⟨rfl,rfl,rfl⟩
 refine Q4 (QJ [0] [4] Z Z (xP hok 5 Z (xS hok 7 Z (wC [0,1,2,3] [4,5,6] Z Qa2 Z (Q1s N aR z a1 a0 s aK aL aM l1 aN aO aP l2 a3 a4 a5 (decide (c9 ≥ 0)) 210 aA.kind aA.text aA.num aA.at_ aJ.1 aJ.2 aA.kids bR) (asK [0] Z) Z (H':=V3 ..) Z ?_))))
 rintro _ _ _ ⟨rfl,rfl,rfl⟩
 refine Q4 (QJ [0] [4] Z Z (QS hok Z (Q3 (Q2 [5,4,3,0] (S':=V4 ..) Z (Q5 ?_)))))
 obtain ⟨bJ,hm⟩:=Qd hm
 obtain ⟨_,bS,hm⟩:=Q6 hm
 try dsimp only at hm
 refine QW [0,1,2,3,4,5,6,7,8,9,10,11,12,13,14] Z Z (fun hok=>(xP hok 0 Z (xP hok 1 Z (xP hok 2 Z (Q8 hok 3 Z Z Z Zq Z Z Z Q7E (Q8 hok 4 Z Z Z Zq Z Z Z Q5W (Qn hok 5 0 0 Z Z Z Zq Z Z Z Z (cs:=[_]) Z Q9m Q9L Z Z (Qbm 1 Z (fun bT _=>(Q66 hok 6 Z Z Z Zq Z Z Z Q8w (Q1z (d:=37) (v':=.int .i64 ((s.length:Nat):Int)) (S':=V10 ..) Z Z (Q7a bT) (xP hok 7 Z (Q1z (d:=38) (v':=.bool (decide (32 ≤ s.length))) (S':=V11 ..) Z Z (natge (a:=s.length) (b:=32)) (xP hok 8 Z (Q1z (d:=39) (v':=.bool false) (S':=V12 ..) Z Z (Qy bJ) ?_)))))))))))))))
 refine Q8 hok 9 Z Z Z Zq Z Z Z Q1B (Qn hok 10 4 4 Z Z Z Zq Z Z Z Z (cs:=[_]) Z Q28 Q2w Z Z (Q66 hok 11 Z Z Z Zq Z Z Z Q1S (xP hok 12 Z (Q1z (d:=43) (v':=.bool (decide (6 < aA.kids.length))) (S':=V16 ..) Z Z (natgt (a:=aA.kids.length) (b:=6)) (xP hok 13 Z (Qn hok 14 4 0 Z Z Z Zq Z Z Z Z (cs:=V5 ..) Z Q13 Q1V Z Z (xS hok 15 Z (wC [0,1,2,3] [4,5,6] Z Qa2 Z (Q1s N aR z a1 a0 s aK aL aM l1 aN aO aP l2 a3 a4 a5 (decide (6 < aA.kids.length)) 204 aA.kind aA.text aA.num aA.at_ aJ.1 aJ.2 aA.kids bS) (asK [0] Z) Z (H':=V3 ..) Z ?_))))))))
 rintro _ _ _ ⟨rfl,rfl,rfl⟩
 refine Q4 (QJ [0] [4,0] Z Z (QS hok Z (Q3 (Q2 [5,4,3,0] (S':=V4 ..) Z (Q5 ?_)))))
 obtain ⟨bD,hm,hLj_2⟩:=Q6 hm
 refine QM (σ:=Unit) (fun _=>bD = ()) (fun _=>[(5,.pointer (some ⟨g5,0,none⟩)),(4,.int .i64 ((aF:Nat):Int)),(3,.pointer (some ⟨g3,0,none⟩)),(0,.pointer (some ⟨aR,0,none⟩))]) (fun _=>[.sli 5 Qq aJ.1 aJ.2 aA.kids]) (fun _=>[.blk g5 [.int .u8 (aA.kind),.string aA.text,.int .i64 (aA.num),.int .i64 (aA.at_),.slice aJ.1 aA.kids.length aJ.2] 159,.blk g3 [.int .u8 a6,.string a7,.int .i64 a8,.int .i64 a9,.slice (some ⟨aU,0,none⟩) aH aI] 159,.own 159 5 Qq (.slice (some ⟨aU,0,none⟩) aH aI) aS,.blk aR [.slice z a1 a0,.slice aK aL aM,.slice aN aO aP,.int .i64 a3,.int .i64 a4,.int .i64 a5] 206,.own 69 2 Qb (.slice z a1 a0) s,.own 52 5 Qa (.slice aK aL aM) l1,.own 9 1 Q1u (.slice aN aO aP) l2]) ?_ ?_
 refine Q5 (Q1 (wP Z (Q4 (Q3 (Qw (Q7M [4,5,6,0,1,2,3] Z (H':=V7 ..) Z (Q1j (σ:=Nat × Nat) (fun (aZ,aG)=>Q1h (Q4e N aA s l1 l2 a3 a4 a5) aZ aG = some bD) (fun (aZ,aG)=>aZ) (fun (aZ,aG)=>[(6,.int .i64 ((aG:Nat):Int)),(5,.pointer (some ⟨g5,0,none⟩)),(4,.int .i64 ((aF:Nat):Int)),(3,.pointer (some ⟨g3,0,none⟩)),(0,.pointer (some ⟨aR,0,none⟩))]) (fun (aZ,aG)=>[.sli 5 Qq aJ.1 aJ.2 aA.kids]) (fun (aZ,aG)=>[.blk g5 [.int .u8 (aA.kind),.string aA.text,.int .i64 (aA.num),.int .i64 (aA.at_),.slice aJ.1 aA.kids.length aJ.2] 159,.blk g3 [.int .u8 a6,.string a7,.int .i64 a8,.int .i64 a9,.slice (some ⟨aU,0,none⟩) aH aI] 159,.own 159 5 Qq (.slice (some ⟨aU,0,none⟩) aH aI) aS,.blk aR [.slice z a1 a0,.slice aK aL aM,.slice aN aO aP,.int .i64 a3,.int .i64 a4,.int .i64 a5] 206,.own 69 2 Qb (.slice z a1 a0) s,.own 52 5 Qa (.slice aK aL aM) l1,.own 9 1 Q1u (.slice aN aO aP) l2]) (N,0) hm [6,5,4,3,0] Z (asK [0] Z) Z (fun s_ hm=>?_))))))))
 obtain ⟨aZ,aG⟩:=s_
 try dsimp only at hm ⊢
 obtain ⟨cN,cO,bU,hq,hLu2⟩:=QV hm
 clear hm
 subst bU
 replace hm:=hq
 clear hq
 unfold Q4e at hm
 try dsimp only at hm
 refine Q5 (Q5 (Q1 (wP Z (wF Z Q1B (wD 0 4 Z Q28 Q2w Z (wN Z Q1S (wP Z (Qs (d:=51) (v':=.bool (decide (aG < aA.kids.length))) (S':=V9 ..) Z Z (Q2l (a:=aG) (b:=aA.kids.length)) (Q4 (Q3 (Q2 [51,6,5,4,3,0] (S':=V6 ..) Z ?_)))))))))))
 refine Qt Z (fun b4=>?_) (fun b4=>?_)
 replace hm:=QI hm b4
 refine Q2 [6,5,4,3,0] (S':=V5 ..) Z (Qr (Q3 (Q5 ?_)))
 obtain ⟨bE,hm,hLj_3⟩:=Q6 hm
 refine QM (σ:=Unit) (fun _=>bE = ()) (fun _=>[(6,.int .i64 ((aG:Nat):Int)),(5,.pointer (some ⟨g5,0,none⟩)),(4,.int .i64 ((aF:Nat):Int)),(3,.pointer (some ⟨g3,0,none⟩)),(0,.pointer (some ⟨aR,0,none⟩))]) (fun _=>[.sli 5 Qq aJ.1 aJ.2 aA.kids]) (fun _=>[.blk g5 [.int .u8 (aA.kind),.string aA.text,.int .i64 (aA.num),.int .i64 (aA.at_),.slice aJ.1 aA.kids.length aJ.2] 159,.blk g3 [.int .u8 a6,.string a7,.int .i64 a8,.int .i64 a9,.slice (some ⟨aU,0,none⟩) aH aI] 159,.own 159 5 Qq (.slice (some ⟨aU,0,none⟩) aH aI) aS,.blk aR [.slice z a1 a0,.slice aK aL aM,.slice aN aO aP,.int .i64 a3,.int .i64 a4,.int .i64 a5] 206,.own 69 2 Qb (.slice z a1 a0) s,.own 52 5 Qa (.slice aK aL aM) l1,.own 9 1 Q1u (.slice aN aO aP) l2]) ?_ ?_
 refine Qw (Q5 (Q1 (wP Z (Q4 (Q3 (Qw (Q1j (σ:=Nat × Nat) (fun (b0,aQ)=>Q1h (Q4f N aG aA s l1 l2 a3 a4 a5) b0 aQ = some bE) (fun (b0,aQ)=>b0) (fun (b0,aQ)=>[(7,.int .i64 ((aQ:Nat):Int)),(6,.int .i64 ((aG:Nat):Int)),(5,.pointer (some ⟨g5,0,none⟩)),(4,.int .i64 ((aF:Nat):Int)),(3,.pointer (some ⟨g3,0,none⟩)),(0,.pointer (some ⟨aR,0,none⟩))]) (fun (b0,aQ)=>[.sli 5 Qq aJ.1 aJ.2 aA.kids]) (fun (b0,aQ)=>[.blk g5 [.int .u8 (aA.kind),.string aA.text,.int .i64 (aA.num),.int .i64 (aA.at_),.slice aJ.1 aA.kids.length aJ.2] 159,.blk g3 [.int .u8 a6,.string a7,.int .i64 a8,.int .i64 a9,.slice (some ⟨aU,0,none⟩) aH aI] 159,.own 159 5 Qq (.slice (some ⟨aU,0,none⟩) aH aI) aS,.blk aR [.slice z a1 a0,.slice aK aL aM,.slice aN aO aP,.int .i64 a3,.int .i64 a4,.int .i64 a5] 206,.own 69 2 Qb (.slice z a1 a0) s,.own 52 5 Qa (.slice aK aL aM) l1,.own 9 1 Q1u (.slice aN aO aP) l2]) (N,0) hm [7,6,5,4,3,0] Z (asK [0] Z) Z (fun s_ hm=>?_))))))))
 obtain ⟨b0,aQ⟩:=s_
 try dsimp only at hm ⊢
 obtain ⟨cP,cQ,bV,hq,hLu3⟩:=QV hm
 clear hm
 subst bV
 replace hm:=hq
 clear hq
 unfold Q4f at hm
 try dsimp only at hm
 refine Q5 (Q5 (Q1 (wP Z (wP Z (wP Z (Qs (d:=56) (v':=.bool (decide (aQ < aG))) (S':=V8 ..) Z Z (Q2l (a:=aQ) (b:=aG)) (Q4 (Q3 (Q2 [56,7,6,5,4,3,0] (S':=V7 ..) Z ?_)))))))))
 refine Qt Z (fun b5=>?_) (fun b5=>?_)
 replace hm:=QI hm b5
 refine Q2 [7,6,5,4,3,0] (S':=V6 ..) Z (Qr (Q3 (Q5 (Qw ?_))))
 obtain ⟨cA,bW,hm⟩:=Q6 hm
 obtain ⟨cB,bX,hm⟩:=Q6 hm
 obtain ⟨b6,bY,hm⟩:=Q6 hm
 obtain ⟨_,bZ,hm⟩:=Q6 hm
 try dsimp only at hm
 refine QW [0,1,2,3,4,5,6,7,8,9,10,11,12,13,14,15,16,17,18] Z Z (fun hok=>(xP hok 0 Z (Q8 hok 1 Z Z Z Zq Z Z Z Q1B (Qn hok 2 0 4 Z Z Z Zq Z Z Z Z (cs:=[_]) Z Q28 Q2w Z Z (xP hok 3 Z (Q2P hok 4 0 aQ Z Z Z Zq Z Z Z Z Z Z bW Q1S Q13 (fun cR cS cI cC=>(Q3s Q1q 1 Z (fun cT c0 _=>?_)))))))))
 subst c0
 refine Q8 hok 5 Z Z Z Zq Z Z Z Q2x (Q4N hok 6 1 1 Z Z Z Zq Z Z Z Z (cs:=[_]) Z Q2e Q3O Z Z (Q8 hok 7 Z Z Z Zq Z Z Z Q1B (Qn hok 8 0 4 Z Z Z Zq Z Z Z Z (cs:=[_]) Z Q28 Q2w Z Z (xP hok 9 Z (Q2P hok 10 3 aG Z Z Z Zq Z Z Z Z Z Z bX Q1S Q13 (fun cU cV cJ cD=>(Q3s Q1q 1 Z (fun cW c1 _=>?_))))))))
 subst c1
 refine Q8 hok 11 Z Z Z Zq Z Z Z Q2x (Q4N hok 12 1 1 Z Z Z Zq Z Z Z Z (cs:=[_]) Z Q2e Q3O Z Z (xP hok 13 Z (Q8 hok 14 Z Z Z Zq Z Z Z Q1B (Qn hok 15 0 4 Z Z Z Zq Z Z Z Z (cs:=[_]) Z Q28 Q2w Z Z (xP hok 16 Z (Q2P hok 17 6 aG Z Z Z Zq Z Z Z Z Z Z bY Q1S Q13 (fun cX cY cK cE=>(Q3s Q1q 1 Z (fun c2 c3 _=>?_)))))))))
 subst c3
 refine Q4N hok 18 1 0 Z Z Z Zq Z Z Z Z (cs:=V5 ..) Z Q13 Q1V Z Z (xS hok 19 Z (wC [3,4,5,6] [0,1,2] Z Qa2 Z (Q1s N aR z a1 a0 s aK aL aM l1 aN aO aP l2 a3 a4 a5 (cA.text.toList == cB.text.toList) 210 b6.kind b6.text b6.num b6.at_ c2.1 c2.2 b6.kids bZ) (asK [0] Z) Z (H':=V3 ..) Z ?_))
 rintro _ _ _ ⟨rfl,rfl,rfl⟩
 refine Q4 (QJ [0,1,2,3,4,5,6,7,8,9] [4,4,4] Z Z (QS hok Z (Qf (Q3 (Q2 [7,6,5,4,3,0] (S':=V6 ..) Z (Q1 (wP Z (wP Z ?_))))))))
 obtain ⟨c4,hm⟩:=Qd hm
 refine Qs (d:=58) (v':=.int .i64 ((aQ + 1:Nat):Int)) (S':=V7 ..) Z Z (Q1r (a:=aQ) (b:=1) c4) (QT (S':=V7 ..) Z Z Z Z Z (Q4 ?_))
 have hE:=(Zi hm).symm
 replace hE:=QF hLu3 hE
 refine QE [4,5,6,0,1,2,3] Z (H':=V7 ..) Z ?_
 refine QU (_,aQ + 1) (Nat.lt_succ_self _) hE [7,6,5,4,3,0] Z (asK [9] Z) Z
 replace hm:=QH hm b5
 refine Q2 [6,5,4,3,0] (S':=V5 ..) Z (Q1g (Qj (Qj (QD (Qf ?_)))))
 have hE:=(Zi hm).symm
 replace hE:=Qx hLu3 hE
 refine Qh () hE [6,5,4,3,0] Z (asK [0] Z) Z
 rintro _ hE
 try dsimp only
 have hm:=hLj_3
 try rw [hE] at hm
 try dsimp only at hm
 refine Q1 (wP Z (wP Z ?_))
 obtain ⟨c5,hm⟩:=Qd hm
 refine Qs (d:=53) (v':=.int .i64 ((aG + 1:Nat):Int)) (S':=V6 ..) Z Z (Q1r (a:=aG) (b:=1) c5) (QT (S':=V6 ..) Z Z Z Z Z (Q4 ?_))
 have hE:=(Zi hm).symm
 replace hE:=QF hLu2 hE
 refine QU (_,aG + 1) (Nat.lt_succ_self _) hE [6,5,4,3,0] Z (asK [0] Z) Z
 replace hm:=QH hm b4
 refine Q2 [5,4,3,0] (S':=V4 ..) Z (Q1g (Qj (Qj (QD ?_))))
 have hE:=(Zi hm).symm
 replace hE:=Qx hLu2 hE
 refine Qh () hE [5,4,3,0] Z (asK [0] Z) Z
 rintro _ hE
 try dsimp only
 have hm:=hLj_2
 try rw [hE] at hm
 try dsimp only at hm
 obtain ⟨bF,hm⟩:=Qd hm
 refine QW [0,1,2,3,4,5,6,7,8,9,10,11,14,15,16] Z Z (fun hok=>(xP hok 0 Z (xP hok 1 Z (xP hok 2 Z (Q8 hok 3 Z Z Z Zq Z Z Z Q7E (Q8 hok 4 Z Z Z Zq Z Z Z Q5W (Qn hok 5 3 0 Z Z Z Zq Z Z Z Z (cs:=[_]) Z Q9m Q9L Z Z (Q8 hok 6 Z Z Z Zq Z Z Z Q2x (Qn hok 7 0 1 Z Z Z Zq Z Z Z Z (cs:=[_]) Z Q2e Q3O Z Z (Q8 hok 8 Z Z Z Zq Z Z Z Q1B (Qn hok 9 0 4 Z Z Z Zq Z Z Z Z (cs:=[_]) Z Q28 Q2w Z Z (Q66 hok 10 Z Z Z Zq Z Z Z Q1S (Q9y hok 11 Z Z Z Zq Z Z tZ_69 tP_69 Z (out:=[_,_]) Z (xS hok 12 Z ?_))))))))))))))
 refine QB Z Z Z Zq Z Q8w tS_69 tZ_69 Z (zs:=[.string ((⟨#[]⟩ : ByteArray)),.int .i64 0]) (by kernel_rfl) Z (out:=[_,_]) Z (fun cZ=>(Q4 (QJ [0] [1,1,4] Z Z (xS hok 13 Z (Q2p ([(⟨aA.text,(((aA.kids.length:Nat):Int))⟩ : Ql)]) 5 0 Z Z Z Zq Z Z Z Z Z (fun F w hφ=>⟨[.string aA.text,.int .i64 ((aA.kids.length:Nat):Int)],[],Z,Z,⟨(),Z,Qu⟩,Z⟩) Q8w tR_69 Z Z (Nat.le_trans bF (by decide)) (Nat.le_trans (Nat.mul_le_mul_right _ bF) (by decide)) (H2:=fun bK bL=>[_,_,_,_,_,.own 69 2 Qb (.slice bK ((s ++ ([(⟨aA.text,(((aA.kids.length:Nat):Int))⟩ : Ql)])).length) bL) (s ++ ([(⟨aA.text,(((aA.kids.length:Nat):Int))⟩ : Ql)])),_,_]) (fun _ _=>Z) (fun bK bL=>(Q3R 0 Z (H':=V7 ..) Z (Q4 (QJ [0] [0,0] Z Z (xP hok 14 Z (Q8 hok 15 Z Z Z Zq Z Z Z Q7E (Q8 hok 16 Z Z Z Zq Z Z Z Q5W (xS hok 17 Z (wS 3 0 Z Q9m (all':=V6 ..) Z (H':=V7 ..) Z (Q4 ?_)))))))))))))))
 refine QJ [0] [] Z Z (QS hok Z (Qf ?_))
 have hE:=(Zi hm).symm
 refine QE [1,2,3,4,5,6] Z (H':=V6 ..) Z ?_
 refine Qh ((s ++ ([(⟨aA.text,(((aA.kids.length:Nat):Int))⟩ : Ql)])),bK,bL,((s ++ ([(⟨aA.text,(((aA.kids.length:Nat):Int))⟩ : Ql)])).length)) hE [4,3,0] Z (asK [] Z) Z
 rintro ⟨aB,aC,aD,aE⟩ hE
 try dsimp only
 have hm:=hLj_1
 try rw [hE] at hm
 refine Q1 (wP Z (wP Z ?_))
 obtain ⟨c6,hm⟩:=Qd hm
 refine Qs (d:=14) (v':=.int .i64 ((aF + 1:Nat):Int)) (S':=V4 ..) Z Z (Q1r (a:=aF) (b:=1) c6) (QT (S':=V4 ..) Z Z Z Z Z (Q4 ?_))
 have hE:=(Zi hm).symm
 replace hE:=QF hLu1 hE
 refine QU (_,aF + 1,aB,aC,aD,aE) (Nat.lt_succ_self _) hE [4,3,0] Z (asK [] Z) Z
 replace hm:=QH hm b2
 refine Q2 [] (S':=[]) Z (Q1g (Qj (Qj (QD ?_))))
 have hE:=(Zi hm).symm
 replace hE:=Qx hLu1 hE
 replace hE:=hE.symm
 subst hE
 refine Q6v (Hr:=V5 ..) [2,3,4,5,1] Tryz.results129 ⟨z,a0,a1,Z,Z,Z⟩ (asK [] Z) Z Z (.inr Z)
theorem Qat (N:Nat) (a0:Int) (a1:ByteArray) (a2:Int) (a3:Int) (aZ:OA) (bH:Nat) (b0:Nat) (l4:List Qe) (o2:List Ql) (o6:List Qi) (hm:Q7w N a0 a1 a2 a3 l4 = some (o2,o6)):Q17 Tryz.prog 94 [.agg #[.int .u8 a0,.string a1,.int .i64 a2,.int .i64 a3,.slice aZ bH b0]] [] [.own 159 5 Qq (.slice aZ bH b0) l4] (fun v Φr Hr=>∃ (o0:OA) (o1:Nat) (o3:Nat) (o4:OA) (o5:Nat) (o7:Nat),v = .tuple #[.agg #[.slice o0 o3 o1,.slice o4 o7 o5],.agg #[.int .i64 0,.int .i64 0]] ∧ Φr = [] ∧ Hr = [.own 69 2 Qb (.slice o0 o3 o1) o2,.own 52 5 Qa (.slice o4 o7 o5) o6,.own 159 5 Qq (.slice aZ bH b0) l4]):=by
 unfold Q7w at hm
 refine QC Tryz.func94 Z Tryz.ntmps94 Z (S:=[_]) Z (fun C=>(Q5 (Q1 (wB Z (fun g1=>(QK Z Z Z Zq Z tZ_25 Z (fun g2=>(QK Z Z Z Zq Z QaP Z (fun g3=>(Q4 (Q3 (Q2 [3,2,1] (S':=V3 ..) Z (Q5 (Q5 (Q1 (QO 2 0 Z Z Z Zq Z Z Z (cs:=V5 ..) Z Q13 Q1V Z Z (QQ 3 Z (fun bI _=>?_))))))))))))))))))
 subst bI
 obtain ⟨v7,c1,hm⟩:=Q6 hm
 refine Q53 [] [0,1,2,3] [3] Z Z Z Zq Z Z fn_128 Z (Qbh N a0 a1 a2 a3 aZ b0 l4 _ c1) (fun F w hφ hh=>(Q14 (Q1A (hh _ (Q12 (k:=0) Z))) Qu)) (fun _ _ _ hR=>by obtain ⟨rfl,rfl,rfl⟩:=hR; exact ⟨Z,(fun _ h=>Q3G h)⟩) Z Z (H':=V4 ..) Z ?_
 rintro _ _ _ ⟨rfl,rfl,rfl⟩
 refine wP Z ?_
 obtain ⟨bT,hm⟩:=Qd hm
 refine Qs (d:=8) (v':=.bool false) (S':=V5 ..) Z Z (Qy bT) (Q4 (Q3 (Q2 [8,3,2,1] (S':=V4 ..) Z (Q1l Z (Q2 [3,2,1] (S':=V3 ..) Z (Qr (Q3 (Q5 (Q1 (Q1v Z Z Z Zq Z tZ_206 tP_206 Z (out:=V6 ..) Z (wB Z (fun b1=>(wP Z (Q4 ?_))))))))))))))
 refine Q3 (Q2 [4,3,2,1] (S':=V4 ..) Z (Q5 (Q1 (wP Z (QO 3 0 Z Z Z Zq Z Z Z (cs:=V5 ..) Z Q13 Q1V Z Z (wl_rowNil 69 2 Qb (wl_rowNil 52 5 Qa (wl_rowNil 9 1 Q1u ?_))))))))
 obtain ⟨b5,bU,hm⟩:=Q6 hm
 refine wC [3,2,1,0,7] [4,5,6] Z fn_129 Z (Q8C N b1 none 0 0 [] none 0 0 [] none 0 0 [] 0 0 0 a0 a1 a2 a3 aZ l4.length b0 l4 _ bU) (asK [] Z) Z (H':=V3 ..) Z ?_
 rintro _ _ _ ⟨aV,aW,aX,rfl,rfl,rfl⟩
 refine Q4 (Q3 (Q2 [4,3,2,1] (S':=V4 ..) Z (Q5 ?_)))
 obtain ⟨bC,hm,hLj_1⟩:=Q6 hm
 refine QM (σ:=(List Qi) × (List ByteArray) × Int × OA × Nat × Nat × OA × Nat × Nat) (fun (aN,aO,aU,aB,aC,aD,aP,aQ,aR)=>bC = (aN,aO,aU)) (fun (aN,aO,aU,aB,aC,aD,aP,aQ,aR)=>[(4,.pointer (some ⟨b1,0,none⟩)),(3,.pointer (some ⟨g3,0,none⟩)),(2,.pointer (some ⟨g2,0,none⟩))]) (fun (aN,aO,aU,aB,aC,aD,aP,aQ,aR)=>[]) (fun (aN,aO,aU,aB,aC,aD,aP,aQ,aR)=>[.blk b1 [.slice aV aX aW,.slice aB aD aC,.slice aP aR aQ,.int .i64 aU,.int .i64 0,.int .i64 0] 206,.own 69 2 Qb (.slice aV aX aW) b5,.own 52 5 Qa (.slice aB aD aC) aN,.own 9 1 Q1u (.slice aP aR aQ) aO,.blk g3 [.int .i64 0,.int .i64 0] 113,.blk g2 [V1,V1] 25,.own 159 5 Qq (.slice aZ l4.length b0) l4]) ?_ ?_
 refine Q5 (Q1 (wP Z (Q4 (Q3 (Qw (Q7M [0,1,2,3,5,6,7,4] Z (H':=V8 ..) Z (Q1j (σ:=Nat × Nat × (List Qi) × (List ByteArray) × Int × OA × Nat × Nat × OA × Nat × Nat) (fun (b4,aS,a9,aA,aE,s,z,a5,a6,a7,a8)=>Q1h (Q6t N l4 b5) b4 (aS,a9,aA,aE) = some bC) (fun (b4,aS,a9,aA,aE,s,z,a5,a6,a7,a8)=>b4) (fun (b4,aS,a9,aA,aE,s,z,a5,a6,a7,a8)=>[(5,.int .i64 ((aS:Nat):Int)),(4,.pointer (some ⟨b1,0,none⟩)),(3,.pointer (some ⟨g3,0,none⟩)),(2,.pointer (some ⟨g2,0,none⟩)),(1,.pointer (some ⟨g1,0,none⟩))]) (fun (b4,aS,a9,aA,aE,s,z,a5,a6,a7,a8)=>[]) (fun (b4,aS,a9,aA,aE,s,z,a5,a6,a7,a8)=>[.blk b1 [.slice aV aX aW,.slice s a5 z,.slice a6 a8 a7,.int .i64 aE,.int .i64 0,.int .i64 0] 206,.own 69 2 Qb (.slice aV aX aW) b5,.own 52 5 Qa (.slice s a5 z) a9,.own 9 1 Q1u (.slice a6 a8 a7) aA,.blk g3 [.int .i64 0,.int .i64 0] 113,.blk g2 [V1,V1] 25,.blk g1 [.int .u8 a0,.string a1,.int .i64 a2,.int .i64 a3,.slice aZ l4.length b0] 159,.own 159 5 Qq (.slice aZ l4.length b0) l4]) (N,0,[],[],0,none,0,0,none,0,0) hm [5,4,3,2,1] Z (asK [] Z) Z (fun s_ hm=>?_))))))))
 obtain ⟨b4,aS,a9,aA,aE,s,z,a5,a6,a7,a8⟩:=s_
 try dsimp only at hm ⊢
 obtain ⟨cC,cD,bV,hq,hLu1⟩:=QV hm
 clear hm
 subst bV
 replace hm:=hq
 clear hq
 unfold Q6t at hm
 try dsimp only at hm
 refine Q5 (Q5 ?_)
 obtain ⟨bW,hm,hLj_2⟩:=Q6 hm
 refine QM (σ:=Bool) (fun aY=>bW = aY) (fun aY=>[(5,.int .i64 ((aS:Nat):Int)),(4,.pointer (some ⟨b1,0,none⟩)),(3,.pointer (some ⟨g3,0,none⟩)),(2,.pointer (some ⟨g2,0,none⟩)),(1,.pointer (some ⟨g1,0,none⟩)),(28,.bool aY)]) (fun aY=>[]) (fun aY=>[.blk b1 [.slice aV aX aW,.slice s a5 z,.slice a6 a8 a7,.int .i64 aE,.int .i64 0,.int .i64 0] 206,.own 69 2 Qb (.slice aV aX aW) b5,.own 52 5 Qa (.slice s a5 z) a9,.own 9 1 Q1u (.slice a6 a8 a7) aA,.blk g3 [.int .i64 0,.int .i64 0] 113,.blk g2 [V1,V1] 25,.blk g1 [.int .u8 a0,.string a1,.int .i64 a2,.int .i64 a3,.slice aZ l4.length b0] 159,.own 159 5 Qq (.slice aZ l4.length b0) l4]) ?_ ?_
 refine Q1 (wP Z (wF Z Q1B (wD 6 4 Z Q28 Q2w Z (wN Z Q1S (wP Z (Qs (d:=20) (v':=.bool (decide (aS < l4.length))) (S':=V9 ..) Z Z (Q2l (a:=aS) (b:=l4.length)) (wP Z ?_)))))))
 refine QG (d:=21) (S':=V10 ..) Z Z (fun b6=>?_) (fun b6=>?_)
 replace hm:=QI hm b6
 refine wP Z (wP Z (wF Z tF_206_3 (wF Z Qb8 (wD 0 4 Z tS_32 tA_32 Z (wP Z (Qs (d:=27) (v':=.bool true) (S':=V16 ..) Z Z Z (wP Z (Q4 ?_))))))))
 have hE:=(Zi hm).symm
 refine Qh true hE [5,4,3,2,1,28] Z (asK [] Z) Z
 replace hm:=QH hm b6
 refine wO Z (wO Z (wO Z (wO Z (wO Z (wO Z (wP Z (Q4 ?_)))))))
 have hE:=(Zi hm).symm
 refine Qh false hE [5,4,3,2,1,28] Z (asK [] Z) Z
 rintro aY hE
 try dsimp only
 have hm:=hLj_2
 try rw [hE] at hm
 refine Qt Z (fun b7=>?_) (fun b7=>?_)
 replace hm:=QI hm b7
 refine Q2 [5,4,3,2,1] (S':=V5 ..) Z (Qr (Q3 (Q5 ?_)))
 obtain ⟨bX,hm,hLj_3⟩:=Q6 hm
 refine QM (σ:=(List Qi) × (List ByteArray) × Int × OA × Nat × Nat × OA × Nat × Nat) (fun (aF,aG,aT,aH,aI,aJ,aK,aL,aM)=>bX = (aF,aG,aT)) (fun (aF,aG,aT,aH,aI,aJ,aK,aL,aM)=>[(5,.int .i64 ((aS:Nat):Int)),(4,.pointer (some ⟨b1,0,none⟩)),(3,.pointer (some ⟨g3,0,none⟩)),(2,.pointer (some ⟨g2,0,none⟩)),(1,.pointer (some ⟨g1,0,none⟩))]) (fun (aF,aG,aT,aH,aI,aJ,aK,aL,aM)=>[]) (fun (aF,aG,aT,aH,aI,aJ,aK,aL,aM)=>[.blk b1 [.slice aV aX aW,.slice aH aJ aI,.slice aK aM aL,.int .i64 aT,.int .i64 0,.int .i64 0] 206,.own 69 2 Qb (.slice aV aX aW) b5,.own 52 5 Qa (.slice aH aJ aI) aF,.own 9 1 Q1u (.slice aK aM aL) aG,.blk g3 [.int .i64 0,.int .i64 0] 113,.blk g2 [V1,V1] 25,.blk g1 [.int .u8 a0,.string a1,.int .i64 a2,.int .i64 a3,.slice aZ l4.length b0] 159,.own 159 5 Qq (.slice aZ l4.length b0) l4]) ?_ ?_
 refine Qw (Q5 (Q1 (wF Z Q1B (wD 6 4 Z Q28 Q2w Z (wP Z ?_)))))
 obtain ⟨c2,bD,hm⟩:=Q6 hm
 refine Q7N 7 aS Z Z Z Zq Z Z Z Z Z (Q2Y bD) Q1S Q13 (fun cE bY=>?_)
 subst bY
 refine wF Z Q3q (Q29 Q1q 7 aS 0 Z Z Z Zq Z Z Z bD Q3X Q7C (v:=fun c3=>.int .u8 (c2.kind)) (fun _=>Z) (fun _=>Z) (fun c3 _=>(wP Z (Q4 (Q3 (Q2 [37,5,4,3,2,1] (S':=V6 ..) Z ?_))))))
 refine Qt Z (fun b8=>?_) (fun b8=>?_)
 replace hm:=QI hm b8
 refine Q2 [5,4,3,2,1] (S':=V5 ..) Z (Q1 (wP Z (wF Z Q1B (wD 6 4 Z Q28 Q2w Z (wP Z ?_)))))
 obtain ⟨b2,bE,hm⟩:=Q6 hm
 refine Q8j 7 aS Z Z Z Zq Z Z Z Z Z (Q2Y bE) Q1S Q13 (Q29 Q1q 7 aS 0 Z Z Z Zq Z Z Z bE Q13 Q1V (v:=fun b9=>.agg #[.int .u8 (b2.kind),.string b2.text,.int .i64 (b2.num),.int .i64 (b2.at_),.slice b9.1 b2.kids.length b9.2]) (fun _=>Z) (fun _=>Z) (fun b9 _=>?_))
 obtain ⟨⟨bJ,bK,bL⟩,bZ,hm⟩:=Q6 hm
 try dsimp only at hm
 refine wC [0,1,2,3] [4,5,6,7] Z fn_130 Z (Q9F N b1 aV aX aW b5 s a5 z a9 a6 a8 a7 aA aE 0 0 b2.kind b2.text b2.num b2.at_ b9.1 b9.2 b2.kids _ _ _ bZ) (asK [0] Z) Z (H':=V4 ..) Z ?_
 rintro _ _ _ ⟨bM,bN,bO,bP,bQ,bR,rfl,rfl,rfl⟩
 refine Q4 (Qf ?_)
 have hE:=(Zi hm).symm
 refine QE [0,1,2,3,5,6,7,8] Z (H':=V8 ..) Z ?_
 refine Qh (bJ,bK,bL,bM,bN,bO,bP,bQ,bR) hE [5,4,3,2,1] Z (asK [] Z) Z
 replace hm:=QH hm b8
 refine Q2 [5,4,3,2,1] (S':=V5 ..) Z (Qr (Qf ?_))
 have hE:=(Zi hm).symm
 refine Qh (a9,aA,aE,s,z,a5,a6,a7,a8) hE [5,4,3,2,1] Z (asK [] Z) Z
 rintro ⟨aF,aG,aT,aH,aI,aJ,aK,aL,aM⟩ hE
 try dsimp only
 have hm:=hLj_3
 try rw [hE] at hm
 try dsimp only at hm
 refine Q1 (wP Z (wP Z ?_))
 obtain ⟨c0,hm⟩:=Qd hm
 refine Qs (d:=30) (v':=.int .i64 ((aS + 1:Nat):Int)) (S':=V6 ..) Z Z (Q1r (a:=aS) (b:=1) c0) (QT (S':=V6 ..) Z Z Z Z Z (Q4 ?_))
 have hE:=(Zi hm).symm
 replace hE:=QF hLu1 hE
 refine QU (_,aS + 1,aF,aG,aT,aH,aI,aJ,aK,aL,aM) (Nat.lt_succ_self _) hE [5,4,3,2,1] Z (asK [] Z) Z
 replace hm:=QH hm b7
 refine Q2 [4,3,2] (S':=V3 ..) Z (Q1g (Qj (Qj (QD ?_))))
 have hE:=(Zi hm).symm
 replace hE:=Qx hLu1 hE
 refine QE [0,1,2,3,4,5,7] Z (H':=V7 ..) Z ?_
 refine Qh (a9,aA,aE,s,z,a5,a6,a7,a8) hE [4,3,2] Z (asK [] Z) Z
 rintro ⟨aN,aO,aU,aB,aC,aD,aP,aQ,aR⟩ hE
 try dsimp only
 have hm:=hLj_1
 try rw [hE] at hm
 try dsimp only at hm
 refine Q5 (Q5 (Q1 (wP Z (wP Z (wF Z tF_206_3 (wF Z Qb8 (wD 0 4 Z tS_32 tA_32 Z (wP Z (Qs (d:=50) (v':=.bool false) (S':=V8 ..) Z Z Z (Q4 (Q3 (Q2 [50,4,3,2] (S':=V4 ..) Z (Q1l Z ?_)))))))))))))
 refine Q2 [4,3,2] (S':=V3 ..) Z (Qr (Q3 (Q5 (Q1 (wP Z (wP Z (wF Z Q7E (QO 0 0 Z Z Z Zq Z Z Z (cs:=[_,_]) Z Q8M QaE Z Z (Q1v Z Z Z Zq Z QaP tP_113 Z (out:=[_,_]) Z (wS 5 0 Z Q8M (all':=[_,_]) Z (H':=V7 ..) Z (wS 4 0 Z Qag (all':=[_,_]) Z (H':=V7 ..) Z (Q4 (Q3 ?_)))))))))))))
 refine Q2 [3,2] (S':=[_,_]) Z (Qo ?_)
 have hE:=(Zi hm).symm
 obtain ⟨hE0,hE1⟩:=Prod.mk.inj hE
 clear hE
 replace hE0:=hE0.symm
 subst hE0
 replace hE1:=hE1.symm
 subst hE1
 refine Q1D (Hr:=V3 ..) [1,2,6] Tryz.results94 (Q1e 5 Z Z Q8M QaE Z Z) (Q1e 4 Z Z Qag tA_113 Z Z) ⟨aV,aW,aX,aB,aC,aD,Z,Z,Z⟩ (asK [] Z) Z Z (.inl Z)
theorem QaY (N:Nat) (a0:ByteArray) (o2:List Ql) (o6:List Qi) (hm:Q6U N a0 = some (o2,o6)):Q17 Tryz.prog 52 [.string a0] [] [] (fun v Φr Hr=>∃ (o0:OA) (o1:Nat) (o3:Nat) (o4:OA) (o5:Nat) (o7:Nat),v = .tuple #[.agg #[.slice o0 o3 o1,.slice o4 o7 o5],.agg #[.int .i64 0,.int .i64 0]] ∧ Φr = [] ∧ Hr = [.own 69 2 Qb (.slice o0 o3 o1) o2,.own 52 5 Qa (.slice o4 o7 o5) o6]):=by
 unfold Q6U at hm
 refine QC Tryz.func52 Z Tryz.ntmps52 Z (S:=[_]) Z (fun C=>(Q5 (Q1 (QK Z Z Z Zq Z tZ_25 Z (fun g2=>(QK Z Z Z Zq Z QaP Z (fun g3=>(Q4 (Q3 (Q5 (Q1 (wP Z ?_))))))))))))
 obtain ⟨v8,hc8,hm⟩:=Q6 hm
 refine wC [] [0,1] Z fn_93 Z (Qar N a0 _ hc8) (asK [] Z) Z (H':=[_,_]) Z ?_
 rintro _ _ _ ⟨p8_0,c8_1,c8_2,rfl,rfl,rfl⟩
 refine wP Z (wP Z (wP Z (QK Z Z Z Zq Z Q3P Z (fun g4=>(QK Z Z Z Zq Z QaP Z (fun g5=>(wS 1 0 Z Q13 (all':=V5 ..) Z (H':=V5 ..) Z (wS 0 0 Z Qag (all':=[_,_]) Z (H':=V5 ..) Z (Q4 (Q3 (Q2 [5,4,3,2] (S':=V4 ..) Z (Q5 (Q5 (Q1 (wF Z Qb8 ?_)))))))))))))))
 refine wD 0 0 Z tS_32 tA_32 Z (wP Z (Qs (d:=13) (v':=.bool false) (S':=V6 ..) Z Z Z (Q4 (Q3 (Q2 [13,5,4,3,2] (S':=V5 ..) Z (Q1l Z (Q2 [4,3,2] (S':=V3 ..) Z (Qr (Q3 (Q5 (Q1 (QO 1 0 Z Z Z Zq Z Z Z (cs:=V5 ..) Z Q13 Q1V Z Z (QQ 2 Z (fun hzc8_2 _=>?_))))))))))))))
 subst hzc8_2
 obtain ⟨⟨v17_0,v17_1⟩,hc17,hm⟩:=Q6 hm
 try dsimp only at hm
 refine wC [2] [0,1,3,4] Z fn_94 Z (Qat N 1 (⟨#[]⟩ : ByteArray) 0 0 p8_0 v8.length c8_1 v8 _ _ hc17) (asK [] Z) Z (H':=V4 ..) Z ?_
 rintro _ _ _ ⟨p17_0,c17_1,c17_2,p17_3,c17_4,c17_5,rfl,rfl,rfl⟩
 refine wP Z (wP Z (wS 6 0 Z Q8M (all':=[_,_]) Z (H':=V7 ..) Z (wS 5 0 Z Qag (all':=[_,_]) Z (H':=V7 ..) Z (Q4 (Q3 (Q2 [3,2] (S':=[_,_]) Z (Qo ?_)))))))
 have hE:=(Zi hm).symm
 obtain ⟨hE0,hE1⟩:=Prod.mk.inj hE
 clear hE
 replace hE0:=hE0.symm
 subst hE0
 replace hE1:=hE1.symm
 subst hE1
 refine Q1D (Hr:=[_,_]) [0,1] Tryz.results52 (Q1e 6 Z Z Q8M QaE Z Z) (Q1e 5 Z Z Qag tA_113 Z Z) ⟨p17_0,c17_1,c17_2,p17_3,c17_4,c17_5,Z,Z,Z⟩ (asK [] Z) Z Z (.inl Z)
theorem Q5B (N:Nat)  (o2:List Ql) (o6:List Qi) (hm:Q4D N = some (o2,o6)):Q17 Tryz.prog 24 [] [] [] (fun v Φr Hr=>∃ (o0:OA) (o1:Nat) (o3:Nat) (o4:OA) (o5:Nat) (o7:Nat),v = .agg #[.slice o0 o3 o1,.slice o4 o7 o5] ∧ Φr = [] ∧ Hr = [.own 69 2 Qb (.slice o0 o3 o1) o2,.own 52 5 Qa (.slice o4 o7 o5) o6]):=by
 unfold Q4D at hm
 refine QC Tryz.func24 Z Tryz.ntmps24 Z (S:=[]) Z (fun C=>(Q5 (Q1 (QK Z Z Z Zq Z tZ_25 Z (fun g0=>(Q4 (Q3 (Q5 (Q1 ?_)))))))))
 obtain ⟨⟨v4_0,v4_1⟩,hc4,hm⟩:=Q6 hm
 try dsimp only at hm
 refine wC [] [0] Z fn_52 Z (QaY N (⟨#[102,97,99,116,32,112,40,97,44,32,98,41,59,32,114,117,108,101,32,114,32,123,32,112,40,63,120,44,32,49,41,59,32,112,40,63,120,44,32,63,121,41,59,32,61,62,32,97,115,115,101,114,116,32,112,40,63,121,44,32,63,120,32,43,32,49,41,59,32,114,101,116,114,97,99,116,32,50,59,32,125]⟩ : ByteArray) _ _ hc4) (asK [] Z) Z (H':=[_]) Z ?_
 rintro _ _ _ ⟨p4_0,c4_1,c4_2,p4_3,c4_4,c4_5,rfl,rfl,rfl⟩
 refine wP Z (wP Z (wP Z (QK Z Z Z Zq Z tZ_25 Z (fun g1=>(QK Z Z Z Zq Z QaP Z (fun g2=>(wS 1 0 Z Q8M (all':=[_,_]) Z (H':=V5 ..) Z (wS 0 0 Z Qag (all':=[_,_]) Z (H':=V5 ..) Z (Q4 (Q3 (Q2 [1,0] (S':=[_,_]) Z (Q5 (Q1 (QO 1 0 Z Z Z Zq Z Z Z (cs:=[_,_]) Z Q8M QaE Z Z (wS 4 0 Z Q8M (all':=[_,_]) Z (H':=V5 ..) Z ?_)))))))))))))))
 refine Q4 (Q3 (Q2 [0] (S':=[_]) Z (Qo ?_)))
 have hE:=(Zi hm).symm
 obtain ⟨hE0,hE1⟩:=Prod.mk.inj hE
 clear hE
 replace hE0:=hE0.symm
 subst hE0
 replace hE1:=hE1.symm
 subst hE1
 refine Qp (Hr:=[_,_]) [2,3] Tryz.results24 (Q1e 4 Z Z Q8M QaE Z Z) ⟨p4_0,c4_1,c4_2,p4_3,c4_4,c4_5,Z,Z,Z⟩ (asK [] Z) Z Z (.inl Z)
theorem Q23 (N:Nat) (a0:Int) (a1:Int) (a2:Int)  (hm:Q3n N a0 a1 a2 = some ()):Q17 Tryz.prog 21 [.int .i64 a0,.int .i64 a1,.int .i64 a2] [] [] (fun v Φr Hr=>∃ (o0:Nat),v = .agg #[.int .i64 a0,.int .i64 0,.slice (some ⟨o0,0,none⟩) 2 2] ∧ Φr = [] ∧ Hr = [.blk o0 [.int .u8 1,.int .i64 a1,.string ((⟨#[]⟩ : ByteArray)),.int .u8 1,.int .i64 a2,.string ((⟨#[]⟩ : ByteArray))] 57]):=by
 unfold Q3n at hm
 refine QC Tryz.func21 Z Tryz.ntmps21 Z (S:=V3 ..) Z (fun C=>(Q5 (Q1 (QK Z Z Z Zq Z Q9N Z (fun g6=>(Q4 (Q3 (Q5 (Q1 (wP Z (wP Z (Q1v Z Z Z Zq Z Q3A Q9M Z (out:=V3 ..) Z (wP Z (Q1v Z Z Z Zq Z Q3A Q9M Z (out:=V3 ..) Z (QB Z Z Z Zq Z Q5r Q1C Q3A Z (zs:=[.int .u8 0,.int .i64 0,.string ((⟨#[]⟩ : ByteArray)),.int .u8 0,.int .i64 0,.string ((⟨#[]⟩ : ByteArray))]) (by kernel_rfl) Z (out:=V6 ..) Z (fun g12=>?_))))))))))))))))
 refine Q1v Z Z Z Zq Z Q9N tP_71 Z (out:=V3 ..) Z (wS 1 0 Z Q2N (all':=V3 ..) Z (H':=[_,_]) Z (Q4 (Q3 (Q2 [6] (S':=[_]) Z (Qo ?_)))))
 have hE:=(Zi hm).symm
 refine Qp (Hr:=[_]) [0] Tryz.results21 (Q1e 1 Z Z Q2N tA_71 Z Z) ⟨g12,Z,Z,Z⟩ (asK [] Z) Z Z (.inl Z)
theorem w_value_named_s (N:Nat) (a0:ByteArray) (o0:Bool) (hm:Q7Y N a0 = some o0):Q17 Tryz.prog 107 [.string a0] [] [] (fun v Φr Hr=>v = .bool o0 ∧ Φr = [] ∧ Hr = []):=by
 unfold Q7Y at hm
 refine QC Tryz.func107 Z Tryz.ntmps107 Z (S:=[_]) Z (fun C=>(Q5 (Q1 (wP Z (Q4 (Q3 (Q2 [0] (S':=[_]) Z (Q5 ?_))))))))
 obtain ⟨a8,hm,hLj_1⟩:=Q6 hm
 unfold Q8V at hm
 refine QM (σ:=Bool) (fun s=>a8 = s) (fun s=>[(2,.bool s)]) (fun s=>[]) (fun s=>[]) ?_ ?_
 refine Q1 (wP Z (wP Z (wP Z ?_)))
 refine QG (d:=5) (S':=V3 ..) Z Z (fun a6=>?_) (fun a6=>?_)
 replace hm:=QI hm a6
 refine wP Z (Q1w Z Z Z Zq (Q4g Z Z Q7r) (wP Z (Qs (d:=8) (v':=.bool (decide (a0.size ≤ 24))) (S':=V6 ..) Z Z (natle (a:=a0.size) (b:=24)) (wP Z (wP Z ?_)))))
 refine QG (d:=10) (S':=V8 ..) Z Z (fun z=>?_) (fun z=>?_)
 replace hm:=QI hm z
 refine wP Z ?_
 obtain ⟨aA,a9,hm⟩:=Q6 hm
 refine Q1w Z Z Z Zq (Q4V 0 Z Z Z Z a9 Q7r) (wC [] [] Z fn_141 Z (sh_IndexByte (⟨#[97,98,99,100,101,102,103,104,105,106,107,108,109,110,111,112,113,114,115,116,117,118,119,120,121,122]⟩ : ByteArray) ((aA.toNat:Nat):Int) ) (asK [] Z) Z (H':=[]) Z ?_)
 rintro _ _ _ ⟨rfl,rfl,rfl⟩
 refine wP Z (wP Z (wP Z ?_))
 refine QG (d:=16) (S':=V14 ..) Z Z (fun a1=>?_) (fun a1=>?_)
 replace hm:=QI hm a1
 refine wP Z ?_
 obtain ⟨a5,hm⟩:=Qd hm
 refine wC [] [] Z fn_142 Z (sh_Trim a0 (⟨#[97,98,99,100,101,102,103,104,105,106,107,108,109,110,111,112,113,114,115,116,117,118,119,120,121,122,48,49,50,51,52,53,54,55,56,57,95]⟩ : ByteArray) (by decide) (ascii_of_all (by decide)) a5) (asK [] Z) Z (H':=[]) Z ?_
 rintro _ _ _ ⟨rfl,rfl,rfl⟩
 refine wP Z (wP Z (wP Z (Q4 ?_)))
 have hE:=(Zi hm).symm
 refine Qh ((⟨(Lib.trimS a0.data.toList (⟨#[97,98,99,100,101,102,103,104,105,106,107,108,109,110,111,112,113,114,115,116,117,118,119,120,121,122,48,49,50,51,52,53,54,55,56,57,95]⟩ : ByteArray).data.toList).toArray⟩ : ByteArray).toList == (⟨#[]⟩ : ByteArray).toList) hE [2] Z (asK [] Z) Z
 replace hm:=QH hm a1
 refine wO Z (wO Z (wO Z (wP Z (wP Z (Q4 ?_)))))
 have hE:=(Zi hm).symm
 refine Qh false hE [2] Z (asK [] Z) Z
 replace hm:=QH hm z
 refine wO Z (wO Z (wO Z (wO Z (wP Z (wP Z (wO Z (wO Z (wO Z (wP Z (wP Z (Q4 ?_)))))))))))
 have hE:=(Zi hm).symm
 refine Qh false hE [2] Z (asK [] Z) Z
 replace hm:=QH hm a6
 refine wO Z (wO Z (wO Z (wP Z (wP Z (wO Z (wO Z (wO Z (wO Z (wP Z (wP Z (wO Z (wO Z (wO Z ?_)))))))))))))
 refine wP Z (wP Z (Q4 ?_))
 have hE:=(Zi hm).symm
 refine Qh false hE [2] Z (asK [] Z) Z
 rintro s hE
 try dsimp only
 have hm:=hLj_1
 try rw [hE] at hm
 refine Qo ?_
 have hE:=(Zi hm).symm
 replace hE:=hE.symm
 subst hE
 refine Qp (Hr:=[]) [] Tryz.results107 (Qg Z) ⟨Z,Z,Z⟩ (asK [] Z) Z Z (.inl Z)
theorem Q5E (N:Nat) (a0:Int) (a1:Int) (a2:ByteArray) (o0:Bool) (hm:Q26 N a0 a1 a2 = some o0):Q17 Tryz.prog 64 [.agg #[.int .u8 a0,.int .i64 a1,.string a2]] [] [] (fun v Φr Hr=>v = .bool o0 ∧ Φr = [] ∧ Hr = []):=by
 unfold Q26 at hm
 refine QC Tryz.func64 Z Tryz.ntmps64 Z (S:=[_]) Z (fun C=>(Q5 (Q1 (wB Z (fun g1=>(wP Z (Q4 (Q3 (Q2 [1] (S':=[_]) Z (Q5 (Q5 (Q1 (wF Z tF_57_0 (wD 0 0 Z tS_55 tA_55 Z (Q4 ?_)))))))))))))))
 refine Q3 (Q2 [4,1] (S':=[_,_]) Z (Qw (Q5 (Q1 (wP Z (wP Z (Q4 (Q3 (Q2 [5,4,1] (S':=V3 ..) Z ?_)))))))))
 refine Qt Z (fun hb5=>?_) (fun hb5=>?_)
 replace hm:=QI hm hb5
 refine Q2 [1] (S':=[_]) Z (Q5 (Q1 (wF Z tF_57_2 (wD 0 2 Z Q2e Q3O Z (wP Z (wP Z (Q4 (Q3 (Q2 [2] (S':=[_]) Z (Qo (Qk (Q9 ?_))))))))))))
 have hE:=(Zi hm).symm
 replace hE:=hE.symm
 subst hE
 refine Qp (Hr:=[]) [] Tryz.results64 (Qg Z) ⟨Z,Z,Z⟩ (asK [] Z) Z Z (.inl Z)
 replace hm:=QH hm hb5
 refine Q2 [4,1] (S':=[_,_]) Z (Q5 (Q1 (wP Z (wP Z (Q4 (Q3 (Q2 [10,1] (S':=[_,_]) Z ?_)))))))
 refine Qt Z (fun hb10=>?_) (fun hb10=>?_)
 replace hm:=QI hm hb10
 refine Q2 [1] (S':=[_]) Z (Q5 (Q1 (wF Z Q3y (wD 0 1 Z tS_2 tA_2 Z (wP Z (wP Z ?_))))))
 refine QG (d:=15) (S':=V4 ..) Z Z (fun hs15=>?_) (fun hs15=>?_)
 replace hm:=QI hm hs15
 refine wF Z tF_57_2 (wD 0 2 Z Q2e Q3O Z ?_)
 obtain ⟨v18,hc18,hm⟩:=Q6 hm
 refine wC [] [0] Z fn_107 Z (w_value_named_s N a2 _ hc18) (asK [] Z) Z (H':=[_]) Z ?_
 rintro _ _ _ ⟨rfl,rfl,rfl⟩
 refine wP Z (wP Z (Q4 (Q3 (Q2 [2] (S':=[_]) Z (Qo (Qk (Q9 ?_)))))))
 have hE:=(Zi hm).symm
 replace hE:=hE.symm
 subst hE
 refine Qp (Hr:=[]) [] Tryz.results64 (Qg Z) ⟨Z,Z,Z⟩ (asK [] Z) Z Z (.inl Z)
 replace hm:=QH hm hs15
 refine wO Z (wO Z (wO Z (wP Z (wP Z (Q4 (Q3 (Q2 [2] (S':=[_]) Z (Qo (Qk (Q9 ?_))))))))))
 have hE:=(Zi hm).symm
 replace hE:=hE.symm
 subst hE
 refine Qp (Hr:=[]) [] Tryz.results64 (Qg Z) ⟨Z,Z,Z⟩ (asK [] Z) Z Z (.inl Z)
 replace hm:=QH hm hb10
 refine Q2 [] (S':=[]) Z (Qr (Qf (Q3 (Q5 (Q1 (wP Z (Q4 (Q3 (Qo ?_)))))))))
 have hE:=(Zi hm).symm
 replace hE:=hE.symm
 subst hE
 refine Qp (Hr:=[]) [] Tryz.results64 (Qg Z) ⟨Z,Z,Z⟩ (asK [] Z) Z Z (.inl Z)
theorem Q73 (N:Nat) (a0:ByteArray) (o0:Bool) (hm:Q76 N a0 = some o0):Q17 Tryz.prog 58 [.string a0] [] [] (fun v Φr Hr=>v = .bool o0 ∧ Φr = [] ∧ Hr = []):=by
 unfold Q76 at hm
 refine QC Tryz.func58 Z Tryz.ntmps58 Z (S:=[_]) Z (fun C=>(Q5 (Q1 (wP Z (Q4 (Q3 (Q2 [0] (S':=[_]) Z (Q5 (Q1 (wP Z (Q1v Z Z Z Zq Z Q3A Q9M Z (out:=V3 ..) Z ?_)))))))))))
 obtain ⟨v5,hc5,hm⟩:=Q6 hm
 refine wC [] [] Z fn_64 Z (Q5E N 2 0 a0 _ hc5) (asK [] Z) Z (H':=[]) Z ?_
 rintro _ _ _ ⟨rfl,rfl,rfl⟩
 refine wP Z (Q4 (Q3 (Q2 [2] (S':=[_]) Z (Qo ?_))))
 have hE:=(Zi hm).symm
 replace hE:=hE.symm
 subst hE
 refine Qp (Hr:=[]) [] Tryz.results58 (Qg Z) ⟨Z,Z,Z⟩ (asK [] Z) Z Z (.inl Z)
theorem QbJ (N:Nat) (a0:ByteArray) (a1:Int) (qg0:Nat) (a2:ByteArray)  (hm:Q5H N a0 a1 a2 = some ()):Q17 Tryz.prog 99 [.agg #[.string a0,.int .i64 a1],.pointer (some ⟨qg0,0,none⟩)] [] [.blk qg0 [.string a2] 9] (fun v Φr Hr=>v = .bool (a0.toList == a2.toList) ∧ Φr = [] ∧ Hr = [.blk qg0 [.string a2] 9]):=by
 unfold Q5H at hm
 refine QC Tryz.func99 Z Tryz.ntmps99 Z (S:=[_,_]) Z (fun C=>(Q5 (Q1 (wB Z (fun g2=>(wP Z (Q4 (Q3 (Q2 [2,1] (S':=[_,_]) Z (Q5 (Q1 (wF Z QbH (wD 0 0 Z Q2e Q3O Z (wD 1 0 Z Q2e Q3O Z (wP Z ?_)))))))))))))))
 refine wP Z (Q4 (Q3 (Q2 [3] (S':=[_]) Z (Qo ?_))))
 have hE:=(Zi hm).symm
 refine Qp (Hr:=[_]) [1] Tryz.results99 (Qg Z) ⟨Z,Z,Z⟩ (asK [] Z) Z Z (.inl Z)
theorem Qax (N:Nat) (a6:OA) (a7:Nat) (l0:List Ql) (z:Nat) (a1:ByteArray) (o0:Int) (hm:Q4I N l0 a1 = some o0):Q17 Tryz.prog 98 [.slice a6 l0.length a7,.func (.func 99) #[] #[.pointer (some ⟨z,0,none⟩)]] [.sli 2 Qb a6 a7 l0] [.blk z [.string a1] 9] (fun v Φr Hr=>v = .int .i64 o0 ∧ Φr = [] ∧ Hr = [.blk z [.string a1] 9]):=by
 unfold Q4I at hm
 refine QC Tryz.func98 Z Tryz.ntmps98 Z (S:=[_,_]) Z (fun C=>(Q5 (Q1 (wP Z (Q4 (Q3 (Q2 [0,1] (S':=[_,_]) Z (Q5 ?_))))))))
 obtain ⟨a9,hm,hLj_1⟩:=Q1o hm
 refine QM (σ:=Unit) (fun _=>a9 = .inl ()) (fun _=>[]) (fun _=>[]) (fun _=>[.blk z [.string a1] 9]) ?_ ?_
 refine Q5 (Q1 (wP Z (wN Z Q8w (wP Z (Q4 (Q3 (Q2 [8,7,0,1] (S':=V4 ..) Z (Qw (Q1j (σ:=Nat × Nat) (fun (a0,s)=>Q1h (Q2W N l0 a1) a0 s = some a9) (fun (a0,s)=>a0) (fun (a0,s)=>[(8,.int .i64 ((s:Nat):Int)),(7,.int .i64 ((l0.length:Nat):Int)),(0,.slice a6 l0.length a7),(1,.func (.func 99) #[] #[.pointer (some ⟨z,0,none⟩)])]) (fun (a0,s)=>[.sli 2 Qb a6 a7 l0]) (fun (a0,s)=>[.blk z [.string a1] 9]) (N,0) hm [8,7,0,1] Z (asK [0] Z) Z (fun s_ hm=>?_))))))))))
 obtain ⟨a0,s⟩:=s_
 try dsimp only at hm ⊢
 obtain ⟨aL,aM,aC,hq,hLu1⟩:=QV hm
 clear hm
 subst aC
 replace hm:=hq
 clear hq
 unfold Q2W at hm
 try dsimp only at hm
 refine Q5 (Q1 (wP Z (Qs (d:=9) (v':=.bool (decide (s < l0.length))) (S':=V4 ..) Z Z (Q2l (a:=s) (b:=l0.length)) (Q4 (Q3 (Q5 ?_))))))
 refine Qt Z (fun aB=>?_) (fun aB=>?_)
 replace hm:=QI hm aB
 refine Q2 [8,7,0,1] (S':=V4 ..) Z (Qr (Q3 (Q5 (Qw (Q5 (Q1 (wP Z (wP Z (Q4 (Q3 (Q2 [5,8,7,0,1] (S':=V5 ..) Z (Q5 (Q1 ?_)))))))))))))
 refine wP Z (wP Z (wP Z ?_))
 obtain ⟨aD,aE,hm⟩:=Q6 hm
 refine Q1a 0 s Z Z Z Zq Z Z Z Z Z aE Q8w tS_69 (fun aN aO aK aI=>(Q1G Q3E 1 Z (fun aP aF _=>?_)))
 subst aF
 refine Q1F 0 0 Z Z Z Zq Z Z Z (cs:=[_,_]) Z tS_69 tA_69 Z Z ?_
 obtain ⟨_,aG,hm⟩:=Q6 hm
 try dsimp only at hm
 refine Q1K [0] [] Z Z Z Zq Z Z Z fn_99 Z Z (QbJ N aD.name aD.fields z a1 aG) (asK [] Z) Z (H':=[]) Z ?_
 rintro _ _ _ ⟨rfl,rfl,rfl⟩
 refine Q4 (Q3 (Q2 [16,5,8,7,0,1] (S':=V6 ..) Z ?_))
 refine Qt Z (fun a5=>?_) (fun a5=>?_)
 replace hm:=QI hm a5
 refine Q2 [5] (S':=[_]) Z (Q5 (Q1 (wP Z (wP Z (Q4 (Q3 (Q2 [4] (S':=[_]) Z (Qo (Qk (Q9 (Q9 (Qk (Q9 ?_)))))))))))))
 have hE:=(Zi hm).symm
 replace hE:=Qx hLu1 hE
 replace hE:=Qx hLj_1 hE
 replace hE:=hE.symm
 subst hE
 refine Qp (Hr:=[_]) [0] Tryz.results98 (Qg Z) ⟨Z,Z,Z⟩ (asK [] Z) Z Z (.inl Z)
 replace hm:=QH hm a5
 refine Q2 [8,7,0,1] (S':=V4 ..) Z (Qr (Qf (Q3 (Q1 (wP Z ?_)))))
 obtain ⟨aH,hm⟩:=Qd hm
 refine Qs (d:=18) (v':=.int .i64 ((s + 1:Nat):Int)) (S':=V4 ..) Z Z (Q1r (a:=s) (b:=1) aH) (QT (S':=V4 ..) Z Z Z Z Z (Q4 ?_))
 have hE:=(Zi hm).symm
 replace hE:=QF hLu1 hE
 refine QU (_,s + 1) (Nat.lt_succ_self _) hE [8,7,0,1] Z (asK [2] Z) Z
 replace hm:=QH hm aB
 refine Q2 [] (S':=[]) Z (Q1g (Qj (Qj (QD ?_))))
 have hE:=(Zi hm).symm
 replace hE:=Qx hLu1 hE
 refine Qh () hE [] Z (asK [] Z) Z
 rintro _ hE
 try dsimp only
 have hm:=QF hLj_1 hE
 try dsimp only at hm
 refine Q5 (Q1 (wP Z (Q4 (Q3 (Qo ?_)))))
 have hE:=(Zi hm).symm
 replace hE:=hE.symm
 subst hE
 refine Qp (Hr:=[_]) [0] Tryz.results98 (Qg Z) ⟨Z,Z,Z⟩ (asK [] Z) Z Z (.inl Z)
theorem Qcf (N:Nat) (qg0:Nat) (qp1:OA) (qc2:Nat) (l0:List Ql) (qp3:OA) (qc4:Nat) (l1:List Qi) (a2:Int) (a3:Int) (a4:ByteArray) (o0:Int) (hm:Q5d N l0 l1 a2 a3 a4 = some o0):Q17 Tryz.prog 59 [.pointer (some ⟨qg0,0,none⟩),.string a4] [.sli 2 Qb qp1 qc2 l0,.sli 5 Qa qp3 qc4 l1] [.blk qg0 [.slice qp1 l0.length qc2,.slice qp3 l1.length qc4,.int .i64 a2,.int .i64 a3] 124] (fun v Φr Hr=>v = .int .i64 o0 ∧ Φr = [.sli 2 Qb qp1 qc2 l0,.sli 5 Qa qp3 qc4 l1] ∧ Hr = [.blk qg0 [.slice qp1 l0.length qc2,.slice qp3 l1.length qc4,.int .i64 a2,.int .i64 a3] 124]):=by
 unfold Q5d at hm
 refine QC Tryz.func59 Z Tryz.ntmps59 Z (S:=[_,_]) Z (fun C=>(Q5 (Q1 (wB Z (fun g3=>(wP Z (Q4 (Q3 (Q2 [3,0] (S':=[_,_]) Z (Q5 (Q1 (wP Z (wP Z (wF Z tF_122_0 (wF Z Q5W ?_)))))))))))))))
 refine wD 1 0 Z Q9m Q9L Z (Q2o Z Z Z Zq Z Z ?_)
 obtain ⟨v11,hc11,hm⟩:=Q6 hm
 refine wC [0] [1] Z fn_98 Z (Qax N qp1 qc2 l0 g3 a4 _ hc11) (asK [0] Z) Z (H':=[_]) Z ?_
 rintro _ _ _ ⟨rfl,rfl,rfl⟩
 refine wP Z (Q4 (Q3 (Q2 [4] (S':=[_]) Z (Qo ?_))))
 have hE:=(Zi hm).symm
 replace hE:=hE.symm
 subst hE
 refine Qp (Hr:=[_]) [1] Tryz.results59 (Qg Z) ⟨Z,Z,Z⟩ (asK [0,1] Z) Z Z (.inl Z)
theorem QbK (N:Nat) (a0:ByteArray) (a1:Int) (a2:Int) (qp0:OA) (qc1:Nat) (l3:List QL) (qp2:OA) (qc3:Nat) (l4:List Q19) (qg4:Nat) (a5:ByteArray)  (hm:Q5I N a0 a1 a2 l3 l4 a5 = some ()):Q17 Tryz.prog 101 [.agg #[.string a0,.int .i64 a1,.int .i64 a2,.slice qp0 l3.length qc1,.slice qp2 l4.length qc3],.pointer (some ⟨qg4,0,none⟩)] [.sli 10 QR qp0 qc1 l3,.sli 4 QZ qp2 qc3 l4] [.blk qg4 [.string a5] 9] (fun v Φr Hr=>v = .bool (a0.toList == a5.toList) ∧ Φr = [] ∧ Hr = [.blk qg4 [.string a5] 9]):=by
 unfold Q5I at hm
 refine QC Tryz.func101 Z Tryz.ntmps101 Z (S:=[_,_]) Z (fun C=>(Q5 (Q1 (wB Z (fun g2=>(wP Z (Q4 (Q3 (Q2 [2,1] (S':=[_,_]) Z (Q5 (Q1 (wF Z tF_52_0 (wD 0 0 Z Q2e Q3O Z (wD 1 0 Z Q2e Q3O Z (wP Z ?_)))))))))))))))
 refine wP Z (Q4 (Q3 (Q2 [3] (S':=[_]) Z (Qo ?_))))
 have hE:=(Zi hm).symm
 refine Qp (Hr:=[_]) [1] Tryz.results101 (Qg Z) ⟨Z,Z,Z⟩ (asK [] Z) Z Z (.inl Z)
theorem Qaw (N:Nat) (a7:OA) (a8:Nat) (l0:List Qi) (z:Nat) (a1:ByteArray) (o0:Int) (hm:Q4H N l0 a1 = some o0):Q17 Tryz.prog 100 [.slice a7 l0.length a8,.func (.func 101) #[] #[.pointer (some ⟨z,0,none⟩)]] [.sli 5 Qa a7 a8 l0] [.blk z [.string a1] 9] (fun v Φr Hr=>v = .int .i64 o0 ∧ Φr = [] ∧ Hr = [.blk z [.string a1] 9]):=by
 unfold Q4H at hm
 refine QC Tryz.func100 Z Tryz.ntmps100 Z (S:=[_,_]) Z (fun C=>(Q5 (Q1 (wP Z (Q4 (Q3 (Q2 [0,1] (S':=[_,_]) Z (Q5 ?_))))))))
 obtain ⟨aB,hm,hLj_1⟩:=Q1o hm
 refine QM (σ:=Unit) (fun _=>aB = .inl ()) (fun _=>[]) (fun _=>[]) (fun _=>[.blk z [.string a1] 9]) ?_ ?_
 refine Q5 (Q1 (wP Z (wN Z Q8x (wP Z (Q4 (Q3 (Q2 [8,7,0,1] (S':=V4 ..) Z (Qw (Q1j (σ:=Nat × Nat) (fun (a0,s)=>Q1h (Q2V N l0 a1) a0 s = some aB) (fun (a0,s)=>a0) (fun (a0,s)=>[(8,.int .i64 ((s:Nat):Int)),(7,.int .i64 ((l0.length:Nat):Int)),(0,.slice a7 l0.length a8),(1,.func (.func 101) #[] #[.pointer (some ⟨z,0,none⟩)])]) (fun (a0,s)=>[.sli 5 Qa a7 a8 l0]) (fun (a0,s)=>[.blk z [.string a1] 9]) (N,0) hm [8,7,0,1] Z (asK [0] Z) Z (fun s_ hm=>?_))))))))))
 obtain ⟨a0,s⟩:=s_
 try dsimp only at hm ⊢
 obtain ⟨aM,aN,aE,hq,hLu1⟩:=QV hm
 clear hm
 subst aE
 replace hm:=hq
 clear hq
 unfold Q2V at hm
 try dsimp only at hm
 refine Q5 (Q1 (wP Z (Qs (d:=9) (v':=.bool (decide (s < l0.length))) (S':=V4 ..) Z Z (Q2l (a:=s) (b:=l0.length)) (Q4 (Q3 (Q5 ?_))))))
 refine Qt Z (fun aD=>?_) (fun aD=>?_)
 replace hm:=QI hm aD
 refine Q2 [8,7,0,1] (S':=V4 ..) Z (Qr (Q3 (Q5 (Qw (Q5 (Q1 (wP Z (wP Z (Q4 (Q3 (Q2 [5,8,7,0,1] (S':=V5 ..) Z (Q5 (Q1 ?_)))))))))))))
 refine wP Z (wP Z (wP Z ?_))
 obtain ⟨a5,aF,hm⟩:=Q6 hm
 refine Q1a 0 s Z Z Z Zq Z Z Z Z Z aF Q8x Q5X (fun aO aP aL aJ=>(Q1G Q3D 1 Z (fun aA aG _=>?_)))
 subst aG
 refine Q1F 2 0 Z Z Z Zq Z Z Z (cs:=V5 ..) Z Q5X tA_52 Z Z ?_
 obtain ⟨_,aH,hm⟩:=Q6 hm
 try dsimp only at hm
 refine Q1K [0] [] Z Z Z Zq Z Z Z fn_101 Z Z (QbK N a5.name a5.salience a5.vars aA.1.1 aA.1.2 a5.conds aA.2.1 aA.2.2 a5.acts z a1 aH) (asK [0,1] Z) Z (H':=[]) Z ?_
 rintro _ _ _ ⟨rfl,rfl,rfl⟩
 refine Q4 (Q3 (Q2 [16,5,8,7,0,1] (S':=V6 ..) Z ?_))
 refine Qt Z (fun a6=>?_) (fun a6=>?_)
 replace hm:=QI hm a6
 refine Q2 [5] (S':=[_]) Z (Q5 (Q1 (wP Z (wP Z (Q4 (Q3 (Q2 [4] (S':=[_]) Z (Qo (Qk (Q9 (Q9 (Qk (Q9 ?_)))))))))))))
 have hE:=(Zi hm).symm
 replace hE:=Qx hLu1 hE
 replace hE:=Qx hLj_1 hE
 replace hE:=hE.symm
 subst hE
 refine Qp (Hr:=[_]) [0] Tryz.results100 (Qg Z) ⟨Z,Z,Z⟩ (asK [] Z) Z Z (.inl Z)
 replace hm:=QH hm a6
 refine Q2 [8,7,0,1] (S':=V4 ..) Z (Qr (Qf (Q3 (Q1 (wP Z ?_)))))
 obtain ⟨aI,hm⟩:=Qd hm
 refine Qs (d:=18) (v':=.int .i64 ((s + 1:Nat):Int)) (S':=V4 ..) Z Z (Q1r (a:=s) (b:=1) aI) (QT (S':=V4 ..) Z Z Z Z Z (Q4 ?_))
 have hE:=(Zi hm).symm
 replace hE:=QF hLu1 hE
 refine QU (_,s + 1) (Nat.lt_succ_self _) hE [8,7,0,1] Z (asK [4] Z) Z
 replace hm:=QH hm aD
 refine Q2 [] (S':=[]) Z (Q1g (Qj (Qj (QD ?_))))
 have hE:=(Zi hm).symm
 replace hE:=Qx hLu1 hE
 refine Qh () hE [] Z (asK [] Z) Z
 rintro _ hE
 try dsimp only
 have hm:=QF hLj_1 hE
 try dsimp only at hm
 refine Q5 (Q1 (wP Z (Q4 (Q3 (Qo ?_)))))
 have hE:=(Zi hm).symm
 replace hE:=hE.symm
 subst hE
 refine Qp (Hr:=[_]) [0] Tryz.results100 (Qg Z) ⟨Z,Z,Z⟩ (asK [] Z) Z Z (.inl Z)
theorem Q9o (N:Nat) (qg0:Nat) (qp1:OA) (qc2:Nat) (l0:List Ql) (qp3:OA) (qc4:Nat) (l1:List Qi) (a2:Int) (a3:Int) (a4:ByteArray) (o0:Int) (hm:Q5e N l0 l1 a2 a3 a4 = some o0):Q17 Tryz.prog 60 [.pointer (some ⟨qg0,0,none⟩),.string a4] [.sli 2 Qb qp1 qc2 l0,.sli 5 Qa qp3 qc4 l1] [.blk qg0 [.slice qp1 l0.length qc2,.slice qp3 l1.length qc4,.int .i64 a2,.int .i64 a3] 124] (fun v Φr Hr=>v = .int .i64 o0 ∧ Φr = [.sli 2 Qb qp1 qc2 l0,.sli 5 Qa qp3 qc4 l1] ∧ Hr = [.blk qg0 [.slice qp1 l0.length qc2,.slice qp3 l1.length qc4,.int .i64 a2,.int .i64 a3] 124]):=by
 unfold Q5e at hm
 refine QC Tryz.func60 Z Tryz.ntmps60 Z (S:=[_,_]) Z (fun C=>(Q5 (Q1 (wB Z (fun g3=>(wP Z (Q4 (Q3 (Q2 [3,0] (S':=[_,_]) Z (Q5 (Q1 (wP Z (wP Z (wF Z tF_122_0 (wF Z Q6Z ?_)))))))))))))))
 refine wD 1 1 Z Qai QaD Z (Q2o Z Z Z Zq Z Z ?_)
 obtain ⟨v11,hc11,hm⟩:=Q6 hm
 refine wC [0] [1] Z fn_100 Z (Qaw N qp3 qc4 l1 g3 a4 _ hc11) (asK [1] Z) Z (H':=[_]) Z ?_
 rintro _ _ _ ⟨rfl,rfl,rfl⟩
 refine wP Z (Q4 (Q3 (Q2 [4] (S':=[_]) Z (Qo ?_))))
 have hE:=(Zi hm).symm
 replace hE:=hE.symm
 subst hE
 refine Qp (Hr:=[_]) [1] Tryz.results60 (Qg Z) ⟨Z,Z,Z⟩ (asK [0,1] Z) Z Z (.inl Z)
theorem Q9q (N:Nat) (a7:Nat) (z:OA) (a0:Nat) (l0:List Ql) (a1:OA) (a6:Nat) (l1:List Qi) (a2:Int) (a3:Int) (a4:Int) (a5:Int) (o0:Bool) (hm:Q45 N l0 l1 a2 a3 a4 a5 = some o0):Q17 Tryz.prog 135 [.pointer (some ⟨a7,0,none⟩),.int .i64 a4,.int .i64 a5] [.sli 2 Qb z a0 l0,.sli 5 Qa a1 a6 l1] [.blk a7 [.slice z l0.length a0,.slice a1 l1.length a6,.int .i64 a2,.int .i64 a3] 124] (fun v Φr Hr=>v = .bool o0 ∧ Φr = [.sli 2 Qb z a0 l0,.sli 5 Qa a1 a6 l1] ∧ Hr = [.blk a7 [.slice z l0.length a0,.slice a1 l1.length a6,.int .i64 a2,.int .i64 a3] 124]):=by
 unfold Q45 at hm
 refine QC Tryz.func135 Z Tryz.ntmps135 Z (S:=V3 ..) Z (fun C=>(Q5 (Q1 (wP Z (Q4 (Q3 (Q2 [0,1,2] (S':=V3 ..) Z (Q5 (Q1 (wP Z (wP Z (wP Z ?_))))))))))))
 refine QG (d:=9) (S':=V5 ..) Z Z (fun a8=>?_) (fun a8=>?_)
 replace hm:=QI hm a8
 refine wP Z (wP Z (wP Z (wF Z Qcd (wF Z tF_122_0 (wF Z Q5W (wD 0 0 Z Q9m Q9L Z (wN Z Q8w (wP Z (wP Z (wP Z ?_))))))))))
 refine QG (d:=20) (S':=V16 ..) Z Z (fun s=>?_) (fun s=>?_)
 replace hm:=QI hm s
 refine wP Z (wP Z (wF Z Qcd (wF Z tF_122_0 (wF Z Q5W (wD 0 0 Z Q9m Q9L Z (wP Z ?_))))))
 obtain ⟨aB,hm⟩:=Qd hm
 obtain ⟨aI,aC,hm⟩:=Q6 hm
 refine Q1a 0 a4.toNat Z Z Z Zq Z Z Z Z (Q1d aB) aC Q8w tS_69 (fun aJ aK aH aE=>(Q1G Q3E 1 Z (fun aL aD _=>?_)))
 subst aD
 refine wF Z Q9U (Q1F 0 1 Z Z Z Zq Z Z Z (cs:=[_]) Z Q1m Q1H Z Z (wP Z (wP Z (wP Z (wP Z (Q4 (Q3 (Q2 [6] (S':=[_]) Z (Qo ?_)))))))))
 have hE:=(Zi hm).symm
 replace hE:=hE.symm
 subst hE
 refine Qp (Hr:=[_]) [0] Tryz.results135 (Qg Z) ⟨Z,Z,Z⟩ (asK [2,3] Z) Z Z (.inl Z)
 replace hm:=QH hm s
 refine wO Z (wO Z (wO Z (wO Z (wO Z (wO Z (wO Z (wO Z (wO Z (wO Z (wO Z (wO Z (wP Z (wP Z ?_)))))))))))))
 refine Q4 (Q3 (Q2 [6] (S':=[_]) Z (Qo ?_)))
 have hE:=(Zi hm).symm
 replace hE:=hE.symm
 subst hE
 refine Qp (Hr:=[_]) [0] Tryz.results135 (Qg Z) ⟨Z,Z,Z⟩ (asK [0,1] Z) Z Z (.inl Z)
 replace hm:=QH hm a8
 refine wO Z (wO Z (wO Z (wO Z (wO Z (wO Z (wO Z (wO Z (wO Z (wP Z (wP Z (wO Z (wO Z (wO Z ?_)))))))))))))
 refine wO Z (wO Z (wO Z (wO Z (wO Z (wO Z (wO Z (wO Z (wO Z (wP Z (wP Z (Q4 (Q3 (Q2 [6] (S':=[_]) Z ?_)))))))))))))
 refine Qo ?_
 have hE:=(Zi hm).symm
 replace hE:=hE.symm
 subst hE
 refine Qp (Hr:=[_]) [0] Tryz.results135 (Qg Z) ⟨Z,Z,Z⟩ (asK [0,1] Z) Z Z (.inl Z)
theorem Q5D (N:Nat) (a0:Int) (a1:Int) (a2:Int) (a3:ByteArray) (a4:Int) (a5:Int) (aF:OA) (aG:Nat) (l6:List Qm) (a7:Bool) (a8:Bool) (a9:Bool) (o0:Bool) (hm:Q54 N a0 a1 a2 a3 a4 a5 l6 a7 a8 a9 = some o0):Q17 Tryz.prog 136 [.agg #[.int .u8 a0,.int .u8 a1,.int .i64 a2,.string a3,.int .i64 a4,.int .u8 a5,.slice aF l6.length aG],.bool a7,.bool a8,.bool a9] [.sli 7 QA aF aG l6] [] (fun v Φr Hr=>v = .bool o0 ∧ Φr = [] ∧ Hr = []):=by
 unfold Q54 at hm
 refine QC Tryz.func136 Z Tryz.ntmps136 Z (S:=V4 ..) Z (fun C=>(Q5 (Q1 (wB Z (fun g4=>(wP Z (Q4 (Q3 (Q2 [4,1,2,3] (S':=V4 ..) Z (Q5 ?_))))))))))
 obtain ⟨aH,hm,hLj_1⟩:=Q6 hm
 unfold Q8U at hm
 refine QM (σ:=Bool) (fun a6=>aH = a6) (fun a6=>[(8,.bool a6)]) (fun a6=>[]) (fun a6=>[]) ?_ ?_
 refine Q1 (wP Z (wP Z ?_))
 refine QG (d:=10) (S':=V5 ..) Z Z (fun aD=>?_) (fun aD=>?_)
 replace hm:=QI hm aD
 refine wO Z (wO Z (wO Z (wO Z (wP Z (wP Z (wP Z (wP Z ?_)))))))
 refine QG (d:=18) (S':=V13 ..) Z Z (fun aA=>?_) (fun aA=>?_)
 replace hm:=QI hm aA
 refine wO Z (wO Z (wO Z (wP Z (wP Z (wP Z (wP Z (wP Z ?_)))))))
 refine QG (d:=26) (S':=V21 ..) Z Z (fun s=>?_) (fun s=>?_)
 replace hm:=QI hm s
 refine wO Z (wO Z (wO Z (wO Z (wO Z (wO Z (wO Z (wO Z (wO Z (wP Z (wP Z (wP Z (Q4 ?_))))))))))))
 have hE:=(Zi hm).symm
 refine QE [] Z (H':=[]) Z ?_
 refine Qh true hE [8] Z (asK [] Z) Z
 replace hm:=QH hm s
 refine wF Z Q9S (wD 0 5 Z tS_62 tA_62 Z (wP Z (wP Z ?_)))
 refine QG (d:=30) (S':=V25 ..) Z Z (fun z=>?_) (fun z=>?_)
 replace hm:=QI hm z
 refine wF Z QaG (wD 0 6 Z Q8N Q9h Z (wN Z Q7O (wP Z (Qs (d:=34) (v':=.bool (l6.length == 0)) (S':=V29 ..) Z Z (Q4J (a:=l6.length) (b:=0)) (wP Z (wP Z (wP Z (wP Z (Q4 ?_)))))))))
 have hE:=(Zi hm).symm
 refine QE [] Z (H':=[]) Z ?_
 refine Qh (l6.length == 0) hE [8] Z (asK [] Z) Z
 replace hm:=QH hm z
 refine wO Z (wO Z (wO Z (wO Z (wP Z (wP Z (wP Z (wP Z (Q4 ?_))))))))
 have hE:=(Zi hm).symm
 refine QE [] Z (H':=[]) Z ?_
 refine Qh false hE [8] Z (asK [] Z) Z
 replace hm:=QH hm aA
 refine wF Z QaF (wD 0 4 Z Q1m Q1H Z (wP Z (wP Z (wP Z (wP Z ?_)))))
 refine QG (d:=24) (S':=V19 ..) Z Z (fun aB=>?_) (fun aB=>?_)
 replace hm:=QI hm aB
 refine wP Z (wP Z ?_)
 refine QG (d:=26) (S':=V21 ..) Z Z (fun s=>?_) (fun s=>?_)
 replace hm:=QI hm s
 refine wO Z (wO Z (wO Z (wO Z (wO Z (wO Z (wO Z (wO Z (wO Z (wP Z (wP Z (wP Z (Q4 ?_))))))))))))
 have hE:=(Zi hm).symm
 refine QE [] Z (H':=[]) Z ?_
 refine Qh true hE [8] Z (asK [] Z) Z
 replace hm:=QH hm s
 refine wF Z Q9S (wD 0 5 Z tS_62 tA_62 Z (wP Z (wP Z ?_)))
 refine QG (d:=30) (S':=V25 ..) Z Z (fun z=>?_) (fun z=>?_)
 replace hm:=QI hm z
 refine wF Z QaG (wD 0 6 Z Q8N Q9h Z (wN Z Q7O (wP Z (Qs (d:=34) (v':=.bool (l6.length == 0)) (S':=V29 ..) Z Z (Q4J (a:=l6.length) (b:=0)) (wP Z (wP Z (wP Z (wP Z (Q4 ?_)))))))))
 have hE:=(Zi hm).symm
 refine QE [] Z (H':=[]) Z ?_
 refine Qh (l6.length == 0) hE [8] Z (asK [] Z) Z
 replace hm:=QH hm z
 refine wO Z (wO Z (wO Z (wO Z (wP Z (wP Z (wP Z (wP Z (Q4 ?_))))))))
 have hE:=(Zi hm).symm
 refine QE [] Z (H':=[]) Z ?_
 refine Qh false hE [8] Z (asK [] Z) Z
 replace hm:=QH hm aB
 refine wO Z (wO Z (wO Z (wO Z (wO Z (wO Z (wO Z (wO Z (wO Z (wO Z (wO Z (wO Z (wP Z (wP Z ?_)))))))))))))
 refine Q4 ?_
 have hE:=(Zi hm).symm
 refine QE [] Z (H':=[]) Z ?_
 refine Qh false hE [8] Z (asK [] Z) Z
 replace hm:=QH hm aD
 refine wF Z tF_65_1 (QO 0 1 Z Z Z Zq Z Z Z (cs:=V3 ..) Z Q1C Q2M Z Z (Q1v Z Z Z Zq Z Q3A Q9M Z (out:=V3 ..) Z (Q8E Z Z Z Zq Z Z Z (eqlV _ _ (⟨a1,a2,a3⟩ : V) (⟨0,0,(⟨#[]⟩ : ByteArray)⟩ : V)) (wP Z (wP Z ?_)))))
 refine QG (d:=16) (S':=V11 ..) Z Z (fun aE=>?_) (fun aE=>?_)
 replace hm:=QI hm aE
 refine wP Z (wP Z ?_)
 refine QG (d:=18) (S':=V13 ..) Z Z (fun aA=>?_) (fun aA=>?_)
 replace hm:=QI hm aA
 refine wO Z (wO Z (wO Z (wP Z (wP Z (wP Z (wP Z (wP Z ?_)))))))
 refine QG (d:=26) (S':=V21 ..) Z Z (fun s=>?_) (fun s=>?_)
 replace hm:=QI hm s
 refine wO Z (wO Z (wO Z (wO Z (wO Z (wO Z (wO Z (wO Z (wO Z (wP Z (wP Z (wP Z (Q4 ?_))))))))))))
 have hE:=(Zi hm).symm
 refine QE [] Z (H':=[]) Z ?_
 refine Qh true hE [8] Z (asK [] Z) Z
 replace hm:=QH hm s
 refine wF Z Q9S (wD 0 5 Z tS_62 tA_62 Z (wP Z (wP Z ?_)))
 refine QG (d:=30) (S':=V25 ..) Z Z (fun z=>?_) (fun z=>?_)
 replace hm:=QI hm z
 refine wF Z QaG (wD 0 6 Z Q8N Q9h Z (wN Z Q7O (wP Z (Qs (d:=34) (v':=.bool (l6.length == 0)) (S':=V29 ..) Z Z (Q4J (a:=l6.length) (b:=0)) (wP Z (wP Z (wP Z (wP Z (Q4 ?_)))))))))
 have hE:=(Zi hm).symm
 refine QE [] Z (H':=[]) Z ?_
 refine Qh (l6.length == 0) hE [8] Z (asK [] Z) Z
 replace hm:=QH hm z
 refine wO Z (wO Z (wO Z (wO Z (wP Z (wP Z (wP Z (wP Z (Q4 ?_))))))))
 have hE:=(Zi hm).symm
 refine QE [] Z (H':=[]) Z ?_
 refine Qh false hE [8] Z (asK [] Z) Z
 replace hm:=QH hm aA
 refine wF Z QaF (wD 0 4 Z Q1m Q1H Z (wP Z (wP Z (wP Z (wP Z ?_)))))
 refine QG (d:=24) (S':=V19 ..) Z Z (fun aB=>?_) (fun aB=>?_)
 replace hm:=QI hm aB
 refine wP Z (wP Z ?_)
 refine QG (d:=26) (S':=V21 ..) Z Z (fun s=>?_) (fun s=>?_)
 replace hm:=QI hm s
 refine wO Z (wO Z (wO Z (wO Z (wO Z (wO Z (wO Z (wO Z (wO Z (wP Z (wP Z (wP Z (Q4 ?_))))))))))))
 have hE:=(Zi hm).symm
 refine QE [] Z (H':=[]) Z ?_
 refine Qh true hE [8] Z (asK [] Z) Z
 replace hm:=QH hm s
 refine wF Z Q9S (wD 0 5 Z tS_62 tA_62 Z (wP Z (wP Z ?_)))
 refine QG (d:=30) (S':=V25 ..) Z Z (fun z=>?_) (fun z=>?_)
 replace hm:=QI hm z
 refine wF Z QaG (wD 0 6 Z Q8N Q9h Z (wN Z Q7O (wP Z (Qs (d:=34) (v':=.bool (l6.length == 0)) (S':=V29 ..) Z Z (Q4J (a:=l6.length) (b:=0)) (wP Z (wP Z (wP Z (wP Z (Q4 ?_)))))))))
 have hE:=(Zi hm).symm
 refine QE [] Z (H':=[]) Z ?_
 refine Qh (l6.length == 0) hE [8] Z (asK [] Z) Z
 replace hm:=QH hm z
 refine wO Z (wO Z (wO Z (wO Z (wP Z (wP Z (wP Z (wP Z (Q4 ?_))))))))
 have hE:=(Zi hm).symm
 refine QE [] Z (H':=[]) Z ?_
 refine Qh false hE [8] Z (asK [] Z) Z
 replace hm:=QH hm aB
 refine wO Z (wO Z (wO Z (wO Z (wO Z (wO Z (wO Z (wO Z (wO Z (wO Z (wO Z (wO Z (wP Z (wP Z ?_)))))))))))))
 refine Q4 ?_
 have hE:=(Zi hm).symm
 refine QE [] Z (H':=[]) Z ?_
 refine Qh false hE [8] Z (asK [] Z) Z
 replace hm:=QH hm aE
 refine wO Z (wO Z (wO Z (wO Z (wO Z (wO Z (wP Z (wP Z (wO Z (wO Z (wO Z (wO Z (wO Z (wO Z ?_)))))))))))))
 refine wO Z (wO Z (wO Z (wO Z (wO Z (wO Z (wP Z (wP Z (Q4 ?_))))))))
 have hE:=(Zi hm).symm
 refine QE [] Z (H':=[]) Z ?_
 refine Qh false hE [8] Z (asK [] Z) Z
 rintro a6 hE
 try dsimp only
 have hm:=hLj_1
 try rw [hE] at hm
 refine Qo ?_
 have hE:=(Zi hm).symm
 replace hE:=hE.symm
 subst hE
 refine Qp (Hr:=[]) [] Tryz.results136 (Qg Z) ⟨Z,Z,Z⟩ (asK [] Z) Z Z (.inl Z)
theorem Qcw (N:Nat) (aL:Nat) (aG:OA) (aH:Nat) (l0:List Ql) (aI:OA) (aJ:Nat) (l1:List Qi) (a2:Int) (a3:Int) (a4:Int) (a5:Int) (a6:Int) (a7:Int) (a8:ByteArray) (a9:Bool) (o0:Bool) (o1:Int) (hm:Q6i N l0 l1 a2 a3 a4 a5 a6 a7 a8 a9 = some (o0,o1)):Q17 Tryz.prog 137 [.pointer (some ⟨aL,0,none⟩),.agg #[.int .u8 a4,.int .i64 a5,.int .u8 a6,.int .i64 a7,.string a8],.bool a9] [.sli 2 Qb aG aH l0,.sli 5 Qa aI aJ l1] [.blk aL [.slice aG l0.length aH,.slice aI l1.length aJ,.int .i64 a2,.int .i64 a3] 124] (fun v Φr Hr=>v = .bool o0 ∧ Φr = [.sli 2 Qb aG aH l0,.sli 5 Qa aI aJ l1] ∧ Hr = [.blk aL [.slice aG l0.length aH,.slice aI l1.length aJ,.int .i64 o1,.int .i64 a3] 124]):=by
 unfold Q6i at hm
 refine QC Tryz.func137 Z Tryz.ntmps137 Z (S:=V3 ..) Z (fun C=>(Q5 (Q1 (wB Z (fun g4=>(wP Z (Q4 (Q3 (Q2 [4,0,2] (S':=V3 ..) Z (Q5 (Q1 (wF Z tF_59_2 (QO 0 2 Z Z Z Zq Z Z Z (cs:=V3 ..) Z Q1C Q2M Z Z (Q1v Z Z Z Zq Z Q3A Q9M Z (out:=V3 ..) Z (Q8E Z Z Z Zq Z Z Z (eqlV _ _ (⟨a6,a7,a8⟩ : V) (⟨0,0,(⟨#[]⟩ : ByteArray)⟩ : V)) ?_)))))))))))))))
 refine wP Z (Q4 (Q3 (Q2 [7,4,0,2] (S':=V4 ..) Z (Q5 (Q5 (Q1 (wF Z tF_59_0 (wD 0 0 Z tS_54 tA_54 Z (Q4 (Q3 (Q2 [13,7,4,0,2] (S':=V5 ..) Z (Qw (Q5 ?_)))))))))))))
 refine Q1 (wP Z (wP Z (Q4 (Q3 (Q2 [14,13,7,4,0,2] (S':=V6 ..) Z ?_)))))
 refine Qt Z (fun a0=>?_) (fun a0=>?_)
 replace hm:=QI hm a0
 refine Q2 [7,4] (S':=[_,_]) Z (Q5 (Q1 (wF Z Q6c (wD 0 1 Z Q1m Q1H Z (wP Z (wP Z ?_))))))
 refine QG (d:=19) (S':=V5 ..) Z Z (fun a1=>?_) (fun a1=>?_)
 replace hm:=QI hm a1
 refine wP Z (wP Z (wP Z (Q4 (Q3 (Q2 [6] (S':=[_]) Z (Qo (Qk (Q9 ?_))))))))
 have hE:=(Zi hm).symm
 obtain ⟨hE0,hE1⟩:=Prod.mk.inj hE
 clear hE
 replace hE0:=hE0.symm
 subst hE0
 replace hE1:=hE1.symm
 subst hE1
 refine Qp (Hr:=[_]) [1] Tryz.results137 (Qg Z) ⟨Z,Z,Z⟩ (asK [0,1] Z) Z Z (.inl Z)
 replace hm:=QH hm a1
 refine wO Z (wP Z (wP Z (Q4 (Q3 (Q2 [6] (S':=[_]) Z (Qo (Qk (Q9 ?_))))))))
 have hE:=(Zi hm).symm
 obtain ⟨hE0,hE1⟩:=Prod.mk.inj hE
 clear hE
 replace hE0:=hE0.symm
 subst hE0
 replace hE1:=hE1.symm
 subst hE1
 refine Qp (Hr:=[_]) [1] Tryz.results137 (Qg Z) ⟨Z,Z,Z⟩ (asK [0,1] Z) Z Z (.inl Z)
 replace hm:=QH hm a0
 refine Q2 [13,7,4,0,2] (S':=V5 ..) Z (Q5 (Q1 (wP Z (wP Z (Q4 (Q3 (Q2 [22,13,7,4,0,2] (S':=V6 ..) Z ?_)))))))
 refine Qt Z (fun aA=>?_) (fun aA=>?_)
 replace hm:=QI hm aA
 refine Q2 [7,4,0,2] (S':=V4 ..) Z (Q5 (Q1 (wP Z (wP Z (wF Z Q6x (wD 1 2 Z Q1m Q1H Z (wP Z ?_)))))))
 obtain ⟨aO,hm⟩:=Qd hm
 refine Qs (d:=28) (v':=.int .i64 (a2 + 1)) (S':=V8 ..) Z Z (i64_in aO) (wP Z (wF Z Q6x (wS 1 2 Z Q1m (all':=V4 ..) Z (H':=[_,_]) Z (Q4 (Q3 (Q2 [7,4,0,2] (S':=V4 ..) Z (Q5 ?_)))))))
 rcases Q1E hm with ⟨s,hm⟩ | ⟨s,hm⟩
 obtain ⟨aK,hm⟩:=Qd hm
 rcases Q1E hm with ⟨aB,hm⟩ | ⟨aB,hm⟩
 refine QW [0,1,2,3,4,5,6,7,8,9,10,11,12,13] Z Z (fun hok=>(xP hok 0 Z (xP hok 1 Z (Q1z (d:=32) (v':=.bool true) (S':=V5 ..) Z Z (Qy s) (Q8 hok 2 Z Z Z Zq Z Z Z Q6c (Qn hok 3 0 1 Z Z Z Zq Z Z Z Z (cs:=[_]) Z Q1m Q1H Z Z (xP hok 4 Z (xP hok 5 Z (Q8 hok 6 Z Z Z Zq Z Z Z Q6x (Qn hok 7 1 2 Z Z Z Zq Z Z Z Z (cs:=[_]) Z Q1m Q1H Z Z (xP hok 8 Z (Q1z (d:=39) (v':=.int .i64 ((a2 + 1) - 1)) (S':=V12 ..) Z Z (i64_in aK) (xP hok 9 Z (xP hok 10 Z ?_))))))))))))))
 refine xP hok 11 Z (Q1z (d:=42) (v':=.bool true) (S':=V15 ..) Z Z (Qy aB) (xP hok 12 Z (xP hok 13 Z (xS hok 14 Z (wP Z (Q4 (QJ [0,1] [] Z Z (QS hok Z (Q3 (Q2 [6] (S':=[_]) Z (Qo (Qk (Q9 ?_)))))))))))))
 have hE:=(Zi hm).symm
 obtain ⟨hE0,hE1⟩:=Prod.mk.inj hE
 clear hE
 replace hE0:=hE0.symm
 subst hE0
 replace hE1:=hE1.symm
 subst hE1
 refine Qp (Hr:=[_]) [1] Tryz.results137 (Qg Z) ⟨Z,Z,Z⟩ (asK [0,1] Z) Z Z (.inl Z)
 refine QW [0,1,2,3,4,5,6,7,8,9,10,11,12,13] Z Z (fun hok=>(xP hok 0 Z (xP hok 1 Z (Q1z (d:=32) (v':=.bool true) (S':=V5 ..) Z Z (Qy s) (Q8 hok 2 Z Z Z Zq Z Z Z Q6c (Qn hok 3 0 1 Z Z Z Zq Z Z Z Z (cs:=[_]) Z Q1m Q1H Z Z (xP hok 4 Z (xP hok 5 Z (Q8 hok 6 Z Z Z Zq Z Z Z Q6x (Qn hok 7 1 2 Z Z Z Zq Z Z Z Z (cs:=[_]) Z Q1m Q1H Z Z (xP hok 8 Z (Q1z (d:=39) (v':=.int .i64 ((a2 + 1) - 1)) (S':=V12 ..) Z Z (i64_in aK) (xP hok 9 Z (xP hok 10 Z ?_))))))))))))))
 refine xP hok 11 Z (Q1z (d:=42) (v':=.bool false) (S':=V15 ..) Z Z (Qy aB) (xO hok 12 Z (xP hok 13 Z (xS hok 14 Z (wP Z (Q4 (QJ [0,1] [] Z Z (QS hok Z (Q3 (Q2 [6] (S':=[_]) Z (Qo (Qk (Q9 ?_)))))))))))))
 have hE:=(Zi hm).symm
 obtain ⟨hE0,hE1⟩:=Prod.mk.inj hE
 clear hE
 replace hE0:=hE0.symm
 subst hE0
 replace hE1:=hE1.symm
 subst hE1
 refine Qp (Hr:=[_]) [1] Tryz.results137 (Qg Z) ⟨Z,Z,Z⟩ (asK [0,1] Z) Z Z (.inl Z)
 refine QW [0,1,2,3,4,5,6,7,8,9,10,11,12,13] Z Z (fun hok=>(xP hok 0 Z (xP hok 1 Z (Q1z (d:=32) (v':=.bool false) (S':=V5 ..) Z Z (Qy s) (xO hok 2 Z (xO hok 3 Z (xO hok 4 Z (xO hok 5 Z (xO hok 6 Z (xO hok 7 Z (xO hok 8 Z (xO hok 9 Z (xP hok 10 Z (xP hok 11 Z ?_))))))))))))))
 refine xO hok 12 Z (xP hok 13 Z (xS hok 14 Z (wP Z (Q4 (QJ [0,1] [] Z Z (QS hok Z (Q3 (Q2 [6] (S':=[_]) Z (Qo (Qk (Q9 ?_)))))))))))
 have hE:=(Zi hm).symm
 obtain ⟨hE0,hE1⟩:=Prod.mk.inj hE
 clear hE
 replace hE0:=hE0.symm
 subst hE0
 replace hE1:=hE1.symm
 subst hE1
 refine Qp (Hr:=[_]) [1] Tryz.results137 (Qg Z) ⟨Z,Z,Z⟩ (asK [0,1] Z) Z Z (.inl Z)
 replace hm:=QH hm aA
 refine Q2 [13,7,4,0] (S':=V4 ..) Z (Q5 (Q1 (wP Z (wP Z (Q4 (Q3 (Q2 [45,7,4,0] (S':=V4 ..) Z ?_)))))))
 refine Qt Z (fun aC=>?_) (fun aC=>?_)
 replace hm:=QI hm aC
 refine Q2 [7,4,0] (S':=V3 ..) Z (Q5 ?_)
 rcases Q1E hm with ⟨z,hm⟩ | ⟨z,hm⟩
 rcases Q1E hm with ⟨aD,hm⟩ | ⟨aD,hm⟩
 refine QW [0,1,2,3,4,5,6,7,8,9,10,11,12,13,14] Z Z (fun hok=>(Q8 hok 0 Z Z Z Zq Z Z Z Q6c (Qn hok 1 0 1 Z Z Z Zq Z Z Z Z (cs:=[_]) Z Q1m Q1H Z Z (xP hok 2 Z (xP hok 3 Z (Q1z (d:=50) (v':=.bool true) (S':=V6 ..) Z Z (Qy z) (Q8 hok 4 Z Z Z Zq Z Z Z Q6c (Qn hok 5 0 1 Z Z Z Zq Z Z Z Z (cs:=[_]) Z Q1m Q1H Z Z (xP hok 6 Z (xP hok 7 Z (Q8 hok 8 Z Z Z Zq Z Z Z Q6x (Qn hok 9 1 2 Z Z Z Zq Z Z Z Z (cs:=[_]) Z Q1m Q1H Z Z (xP hok 10 Z (xP hok 11 Z ?_))))))))))))))
 refine xP hok 12 Z (Q1z (d:=59) (v':=.bool true) (S':=V15 ..) Z Z (Qy aD) (xP hok 13 Z (xP hok 14 Z (xS hok 15 Z (wP Z (Q4 (QJ [0,1] [] Z Z (QS hok Z (Q3 (Q2 [6] (S':=[_]) Z (Qo (Qk (Q9 ?_)))))))))))))
 have hE:=(Zi hm).symm
 obtain ⟨hE0,hE1⟩:=Prod.mk.inj hE
 clear hE
 replace hE0:=hE0.symm
 subst hE0
 replace hE1:=hE1.symm
 subst hE1
 refine Qp (Hr:=[_]) [1] Tryz.results137 (Qg Z) ⟨Z,Z,Z⟩ (asK [0,1] Z) Z Z (.inl Z)
 refine QW [0,1,2,3,4,5,6,7,8,9,10,11,12,13,14] Z Z (fun hok=>(Q8 hok 0 Z Z Z Zq Z Z Z Q6c (Qn hok 1 0 1 Z Z Z Zq Z Z Z Z (cs:=[_]) Z Q1m Q1H Z Z (xP hok 2 Z (xP hok 3 Z (Q1z (d:=50) (v':=.bool true) (S':=V6 ..) Z Z (Qy z) (Q8 hok 4 Z Z Z Zq Z Z Z Q6c (Qn hok 5 0 1 Z Z Z Zq Z Z Z Z (cs:=[_]) Z Q1m Q1H Z Z (xP hok 6 Z (xP hok 7 Z (Q8 hok 8 Z Z Z Zq Z Z Z Q6x (Qn hok 9 1 2 Z Z Z Zq Z Z Z Z (cs:=[_]) Z Q1m Q1H Z Z (xP hok 10 Z (xP hok 11 Z ?_))))))))))))))
 refine xP hok 12 Z (Q1z (d:=59) (v':=.bool false) (S':=V15 ..) Z Z (Qy aD) (xO hok 13 Z (xP hok 14 Z (xS hok 15 Z (wP Z (Q4 (QJ [0,1] [] Z Z (QS hok Z (Q3 (Q2 [6] (S':=[_]) Z (Qo (Qk (Q9 ?_)))))))))))))
 have hE:=(Zi hm).symm
 obtain ⟨hE0,hE1⟩:=Prod.mk.inj hE
 clear hE
 replace hE0:=hE0.symm
 subst hE0
 replace hE1:=hE1.symm
 subst hE1
 refine Qp (Hr:=[_]) [1] Tryz.results137 (Qg Z) ⟨Z,Z,Z⟩ (asK [0,1] Z) Z Z (.inl Z)
 refine QW [0,1,2,3,4,5,6,7,8,9,10,11,12,13,14] Z Z (fun hok=>(Q8 hok 0 Z Z Z Zq Z Z Z Q6c (Qn hok 1 0 1 Z Z Z Zq Z Z Z Z (cs:=[_]) Z Q1m Q1H Z Z (xP hok 2 Z (xP hok 3 Z (Q1z (d:=50) (v':=.bool false) (S':=V6 ..) Z Z (Qy z) (xO hok 4 Z (xO hok 5 Z (xO hok 6 Z (xO hok 7 Z (xO hok 8 Z (xO hok 9 Z (xO hok 10 Z (xP hok 11 Z ?_))))))))))))))
 refine xP hok 12 Z (xO hok 13 Z (xP hok 14 Z (xS hok 15 Z (wP Z (Q4 (QJ [0,1] [] Z Z (QS hok Z (Q3 (Q2 [6] (S':=[_]) Z (Qo (Qk (Q9 ?_))))))))))))
 have hE:=(Zi hm).symm
 obtain ⟨hE0,hE1⟩:=Prod.mk.inj hE
 clear hE
 replace hE0:=hE0.symm
 subst hE0
 replace hE1:=hE1.symm
 subst hE1
 refine Qp (Hr:=[_]) [1] Tryz.results137 (Qg Z) ⟨Z,Z,Z⟩ (asK [0,1] Z) Z Z (.inl Z)
 replace hm:=QH hm aC
 refine Q2 [4] (S':=[_]) Z (Qr (Qf (Q3 (Q5 (Q1 (wF Z tF_59_0 (wD 0 0 Z tS_54 tA_54 Z (wP Z (wP Z ?_)))))))))
 refine QG (d:=65) (S':=V4 ..) Z Z (fun aE=>?_) (fun aE=>?_)
 replace hm:=QI hm aE
 refine wF Z Q6c (wD 0 1 Z Q1m Q1H Z (wP Z (wP Z (wP Z ?_))))
 refine QG (d:=70) (S':=V9 ..) Z Z (fun aF=>?_) (fun aF=>?_)
 replace hm:=QI hm aF
 refine wF Z tF_59_2 (QO 0 2 Z Z Z Zq Z Z Z (cs:=V3 ..) Z Q1C Q2M Z Z ?_)
 obtain ⟨aX,aP,hm⟩:=Q6 hm
 refine wC [] [0,1] Z fn_64 Z (Q5E N a6 a7 a8 _ aP) (asK [] Z) Z (H':=[_,_]) Z ?_
 rintro _ _ _ ⟨rfl,rfl,rfl⟩
 refine wP Z (wP Z (Q4 (Q3 (Q2 [6] (S':=[_]) Z (Qo ?_)))))
 have hE:=(Zi hm).symm
 obtain ⟨hE0,hE1⟩:=Prod.mk.inj hE
 clear hE
 replace hE0:=hE0.symm
 subst hE0
 replace hE1:=hE1.symm
 subst hE1
 refine Qp (Hr:=[_]) [1] Tryz.results137 (Qg Z) ⟨Z,Z,Z⟩ (asK [0,1] Z) Z Z (.inl Z)
 replace hm:=QH hm aF
 refine wO Z (wO Z (wO Z (wP Z (wP Z (Q4 (Q3 (Q2 [6] (S':=[_]) Z (Qo ?_))))))))
 have hE:=(Zi hm).symm
 obtain ⟨hE0,hE1⟩:=Prod.mk.inj hE
 clear hE
 replace hE0:=hE0.symm
 subst hE0
 replace hE1:=hE1.symm
 subst hE1
 refine Qp (Hr:=[_]) [1] Tryz.results137 (Qg Z) ⟨Z,Z,Z⟩ (asK [0,1] Z) Z Z (.inl Z)
 replace hm:=QH hm aE
 refine wO Z (wO Z (wO Z (wP Z (wP Z (wO Z (wO Z (wO Z (wP Z (wP Z (Q4 (Q3 (Q2 [6] (S':=[_]) Z (Qo ?_)))))))))))))
 have hE:=(Zi hm).symm
 obtain ⟨hE0,hE1⟩:=Prod.mk.inj hE
 clear hE
 replace hE0:=hE0.symm
 subst hE0
 replace hE1:=hE1.symm
 subst hE1
 refine Qp (Hr:=[_]) [1] Tryz.results137 (Qg Z) ⟨Z,Z,Z⟩ (asK [0,1] Z) Z Z (.inl Z)
theorem Qal (N:Nat) (rc:(List Ql) → (List Qi) → Int → Int → Int → Int → Int → ByteArray → Int → Int → (List Qm) → Option (Bool)) (ih : ∀ (aI:Nat) (aD:OA) (aE:Nat) (l0:List Ql) (aF:OA) (aG:Nat) (l1:List Qi) (a2:Int) (a3:Int) (a4:Int) (a5:Int) (a6:Int) (a7:ByteArray) (a8:Int) (a9:Int) (aT:OA) (aU:Nat) (aK:List Qm) (o0:Bool),rc l0 l1 a2 a3 a4 a5 a6 a7 a8 a9 aK = some o0 → Q17 Tryz.prog 138 [.pointer (some ⟨aI,0,none⟩),.agg #[.int .u8 a4,.int .u8 a5,.int .i64 a6,.string a7,.int .i64 a8,.int .u8 a9,.slice aT aK.length aU]] [.sli 2 Qb aD aE l0,.sli 5 Qa aF aG l1,.sli 7 QA aT aU aK] [.blk aI [.slice aD l0.length aE,.slice aF l1.length aG,.int .i64 a2,.int .i64 a3] 124] (fun v Φr Hr=>v = .bool o0 ∧ Φr = [.sli 2 Qb aD aE l0,.sli 5 Qa aF aG l1] ∧ Hr = [.blk aI [.slice aD l0.length aE,.slice aF l1.length aG,.int .i64 a2,.int .i64 a3] 124])) (a0:Int) (a1:Int) (a2:Int) (a3:ByteArray) (a4:Int) (a5:Int) (aL:OA) (aM:Nat) (l6:List Qm) (aN:Nat) (s:Nat) (z:OA) (aA:Nat) (l7:List Ql) (aB:OA) (aC:Nat) (l8:List Qi) (a9:Int) (aH:Int) (o0:Bool) (hm:Q4C N rc a0 a1 a2 a3 a4 a5 l6 l7 l8 a9 aH = some o0):Q17 Tryz.prog 180 [.agg #[.int .u8 a0,.int .u8 a1,.int .i64 a2,.string a3,.int .i64 a4,.int .u8 a5,.slice aL l6.length aM],.pointer (some ⟨aN,0,none⟩)] [.sli 7 QA aL aM l6,.sli 2 Qb z aA l7,.sli 5 Qa aB aC l8] [.blk aN [.pointer (some ⟨s,0,none⟩)] 120,.blk s [.slice z l7.length aA,.slice aB l8.length aC,.int .i64 a9,.int .i64 aH] 124] (fun v Φr Hr=>v = .bool o0 ∧ Φr = [.sli 2 Qb z aA l7,.sli 5 Qa aB aC l8] ∧ Hr = [.blk aN [.pointer (some ⟨s,0,none⟩)] 120,.blk s [.slice z l7.length aA,.slice aB l8.length aC,.int .i64 a9,.int .i64 aH] 124]):=by
 unfold Q4C at hm
 refine QC Tryz.func180 Z Tryz.ntmps180 Z (S:=[_,_]) Z (fun C=>(Q5 (Q1 (wB Z (fun g2=>(wP Z (Q4 (Q3 (Q2 [2,1] (S':=[_,_]) Z (Q5 (Q1 (wD 1 0 Z Qah Qab Z (QO 0 0 Z Z Z Zq Z Z Z (cs:=V7 ..) Z Q57 Q7Z Z Z ?_)))))))))))))
 obtain ⟨v6,aZ,hm⟩:=Q6 hm
 refine wC [2] [0,1] Z fn_138 Z (ih s z aA l7 aB aC l8 a9 aH a0 a1 a2 a3 a4 a5 aL aM l6 _ aZ) (asK [1,2,0] Z) Z (H':=[_,_]) Z ?_
 rintro _ _ _ ⟨rfl,rfl,rfl⟩
 refine wP Z (wP Z (Q4 (Q3 (Q2 [3] (S':=[_]) Z (Qo ?_)))))
 have hE:=(Zi hm).symm
 replace hE:=hE.symm
 subst hE
 refine Qp (Hr:=[_,_]) [2,0] Tryz.results180 (Qg Z) ⟨Z,Z,Z⟩ (asK [0,1] Z) Z Z (.inl Z)
theorem Q9I (N:Nat) (rc:(List Ql) → (List Qi) → Int → Int → Int → Int → Int → ByteArray → Int → Int → (List Qm) → Option (Bool)) (ih : ∀ (aR:Nat) (aK:OA) (aL:Nat) (l0:List Ql) (aM:OA) (aN:Nat) (l1:List Qi) (a2:Int) (a3:Int) (a4:Int) (a5:Int) (a6:Int) (a7:ByteArray) (a8:Int) (a9:Int) (aU:OA) (aV:Nat) (aS:List Qm) (o0:Bool),rc l0 l1 a2 a3 a4 a5 a6 a7 a8 a9 aS = some o0 → Q17 Tryz.prog 138 [.pointer (some ⟨aR,0,none⟩),.agg #[.int .u8 a4,.int .u8 a5,.int .i64 a6,.string a7,.int .i64 a8,.int .u8 a9,.slice aU aS.length aV]] [.sli 2 Qb aK aL l0,.sli 5 Qa aM aN l1,.sli 7 QA aU aV aS] [.blk aR [.slice aK l0.length aL,.slice aM l1.length aN,.int .i64 a2,.int .i64 a3] 124] (fun v Φr Hr=>v = .bool o0 ∧ Φr = [.sli 2 Qb aK aL l0,.sli 5 Qa aM aN l1] ∧ Hr = [.blk aR [.slice aK l0.length aL,.slice aM l1.length aN,.int .i64 a2,.int .i64 a3] 124])) (aO:OA) (aP:Nat) (l0:List Qm) (aF:Nat) (a0:Nat) (a1:OA) (aA:Nat) (l1:List Ql) (aB:OA) (aC:Nat) (l2:List Qi) (a3:Int) (a4:Int) (o0:Int) (hm:Q3N N rc l0 l1 l2 a3 a4 = some o0):Q17 Tryz.prog 214 [.slice aO l0.length aP,.func (.func 180) #[] #[.pointer (some ⟨aF,0,none⟩)]] [.sli 7 QA aO aP l0,.sli 2 Qb a1 aA l1,.sli 5 Qa aB aC l2] [.blk aF [.pointer (some ⟨a0,0,none⟩)] 120,.blk a0 [.slice a1 l1.length aA,.slice aB l2.length aC,.int .i64 a3,.int .i64 a4] 124] (fun v Φr Hr=>v = .int .i64 o0 ∧ Φr = [.sli 2 Qb a1 aA l1,.sli 5 Qa aB aC l2] ∧ Hr = [.blk aF [.pointer (some ⟨a0,0,none⟩)] 120,.blk a0 [.slice a1 l1.length aA,.slice aB l2.length aC,.int .i64 a3,.int .i64 a4] 124]):=by
 unfold Q3N at hm
 refine QC Tryz.func214 Z Tryz.ntmps214 Z (S:=[_,_]) Z (fun C=>(Q5 (Q1 (wP Z (Q4 (Q3 (Q2 [0,1] (S':=[_,_]) Z (Q5 ?_))))))))
 obtain ⟨aQ,hm,hLj_1⟩:=Q1o hm
 refine QM (σ:=Unit) (fun _=>aQ = .inl ()) (fun _=>[]) (fun _=>[.sli 2 Qb a1 aA l1,.sli 5 Qa aB aC l2]) (fun _=>[.blk aF [.pointer (some ⟨a0,0,none⟩)] 120,.blk a0 [.slice a1 l1.length aA,.slice aB l2.length aC,.int .i64 a3,.int .i64 a4] 124]) ?_ ?_
 refine Q5 (Q1 (wP Z (wN Z Q7O (wP Z (Q4 (Q3 (Q2 [8,7,0,1] (S':=V4 ..) Z (Qw (Q1j (σ:=Nat × Nat) (fun (aG,z)=>Q1h (Q2z N l0 rc l1 l2 a3 a4) aG z = some aQ) (fun (aG,z)=>aG) (fun (aG,z)=>[(8,.int .i64 ((z:Nat):Int)),(7,.int .i64 ((l0.length:Nat):Int)),(0,.slice aO l0.length aP),(1,.func (.func 180) #[] #[.pointer (some ⟨aF,0,none⟩)])]) (fun (aG,z)=>[.sli 7 QA aO aP l0,.sli 2 Qb a1 aA l1,.sli 5 Qa aB aC l2]) (fun (aG,z)=>[.blk aF [.pointer (some ⟨a0,0,none⟩)] 120,.blk a0 [.slice a1 l1.length aA,.slice aB l2.length aC,.int .i64 a3,.int .i64 a4] 124]) (N,0) hm [8,7,0,1] Z (asK [0,1,2] Z) Z (fun s_ hm=>?_))))))))))
 obtain ⟨aG,z⟩:=s_
 try dsimp only at hm ⊢
 obtain ⟨bA,bB,aX,hq,hLu1⟩:=QV hm
 clear hm
 subst aX
 replace hm:=hq
 clear hq
 unfold Q2z at hm
 try dsimp only at hm
 refine Q5 (Q1 (wP Z (Qs (d:=9) (v':=.bool (decide (z < l0.length))) (S':=V4 ..) Z Z (Q2l (a:=z) (b:=l0.length)) (Q4 (Q3 (Q5 ?_))))))
 refine Qt Z (fun aT=>?_) (fun aT=>?_)
 replace hm:=QI hm aT
 refine Q2 [8,7,0,1] (S':=V4 ..) Z (Qr (Q3 (Q5 (Qw (Q5 (Q1 (wP Z (wP Z (Q4 (Q3 (Q2 [5,8,7,0,1] (S':=V5 ..) Z (Q5 (Q1 ?_)))))))))))))
 refine wP Z (wP Z (wP Z ?_))
 obtain ⟨aH,aY,hm⟩:=Q6 hm
 refine Q1a 0 z Z Z Z Zq Z Z Z Z Z aY Q7O Q57 (fun bC bD b9 b3=>(Q1G Q5F 1 Z (fun aZ b0 _=>?_)))
 subst b0
 refine Q1F 1 0 Z Z Z Zq Z Z Z (cs:=V7 ..) Z Q57 Q7Z Z Z ?_
 obtain ⟨bE,b1,hm⟩:=Q6 hm
 refine Q1K [0,1] [] Z Z Z Zq Z Z Z fn_180 Z Z (Qal N rc ih aH.kind aH.value.k aH.value.n aH.value.s aH.var aH.op aZ.1 aZ.2 aH.kids aF a0 a1 aA l1 aB aC l2 a3 a4 _ b1) (asK [0,4,5] Z) Z (H':=[]) Z ?_
 rintro _ _ _ ⟨rfl,rfl,rfl⟩
 refine Q4 (Q3 (Q2 [16,5,8,7,0,1] (S':=V6 ..) Z ?_))
 refine Qt Z (fun aJ=>?_) (fun aJ=>?_)
 replace hm:=QI hm aJ
 refine Q2 [5] (S':=[_]) Z (Q5 (Q1 (wP Z (wP Z (Q4 (Q3 (Q2 [4] (S':=[_]) Z (Qo (Qk (Q9 (Q9 (Qk (Q9 ?_)))))))))))))
 have hE:=(Zi hm).symm
 replace hE:=Qx hLu1 hE
 replace hE:=Qx hLj_1 hE
 replace hE:=hE.symm
 subst hE
 refine Qp (Hr:=[_,_]) [0,1] Tryz.results214 (Qg Z) ⟨Z,Z,Z⟩ (asK [0,1] Z) Z Z (.inl Z)
 replace hm:=QH hm aJ
 refine Q2 [8,7,0,1] (S':=V4 ..) Z (Qr (Qf (Q3 (Q1 (wP Z ?_)))))
 obtain ⟨b2,hm⟩:=Qd hm
 refine Qs (d:=18) (v':=.int .i64 ((z + 1:Nat):Int)) (S':=V4 ..) Z Z (Q1r (a:=z) (b:=1) b2) (QT (S':=V4 ..) Z Z Z Z Z (Q4 ?_))
 have hE:=(Zi hm).symm
 replace hE:=QF hLu1 hE
 refine QU (_,z + 1) (Nat.lt_succ_self _) hE [8,7,0,1] Z (asK [5,0,1] Z) Z
 replace hm:=QH hm aT
 refine Q2 [] (S':=[]) Z (Q1g (Qj (Qj (QD ?_))))
 have hE:=(Zi hm).symm
 replace hE:=Qx hLu1 hE
 refine Qh () hE [] Z (asK [1,2] Z) Z
 rintro _ hE
 try dsimp only
 have hm:=QF hLj_1 hE
 try dsimp only at hm
 refine Q5 (Q1 (wP Z (Q4 (Q3 (Qo ?_)))))
 have hE:=(Zi hm).symm
 replace hE:=hE.symm
 subst hE
 refine Qp (Hr:=[_,_]) [0,1] Tryz.results214 (Qg Z) ⟨Z,Z,Z⟩ (asK [0,1] Z) Z Z (.inl Z)
theorem Q8L (N:Nat) (rc:(List Ql) → (List Qi) → Int → Int → Int → Int → Int → ByteArray → Int → Int → (List Qm) → Option (Bool)) (ih : ∀ (qg0:Nat) (qp1:OA) (qc2:Nat) (l0:List Ql) (qp3:OA) (qc4:Nat) (l1:List Qi) (a2:Int) (a3:Int) (a4:Int) (a5:Int) (a6:Int) (a7:ByteArray) (a8:Int) (a9:Int) (qp5:OA) (qc6:Nat) (l10:List Qm) (o0:Bool),rc l0 l1 a2 a3 a4 a5 a6 a7 a8 a9 l10 = some o0 → Q17 Tryz.prog 138 [.pointer (some ⟨qg0,0,none⟩),.agg #[.int .u8 a4,.int .u8 a5,.int .i64 a6,.string a7,.int .i64 a8,.int .u8 a9,.slice qp5 l10.length qc6]] [.sli 2 Qb qp1 qc2 l0,.sli 5 Qa qp3 qc4 l1,.sli 7 QA qp5 qc6 l10] [.blk qg0 [.slice qp1 l0.length qc2,.slice qp3 l1.length qc4,.int .i64 a2,.int .i64 a3] 124] (fun v Φr Hr=>v = .bool o0 ∧ Φr = [.sli 2 Qb qp1 qc2 l0,.sli 5 Qa qp3 qc4 l1] ∧ Hr = [.blk qg0 [.slice qp1 l0.length qc2,.slice qp3 l1.length qc4,.int .i64 a2,.int .i64 a3] 124])) (qp0:OA) (qc1:Nat) (l0:List Qm) (qg2:Nat) (qg3:Nat) (qp4:OA) (qc5:Nat) (l1:List Ql) (qp6:OA) (qc7:Nat) (l2:List Qi) (a3:Int) (a4:Int) (o0:Bool) (hm:Q39 N rc l0 l1 l2 a3 a4 = some o0):Q17 Tryz.prog 179 [.slice qp0 l0.length qc1,.func (.func 180) #[] #[.pointer (some ⟨qg2,0,none⟩)]] [.sli 7 QA qp0 qc1 l0,.sli 2 Qb qp4 qc5 l1,.sli 5 Qa qp6 qc7 l2] [.blk qg2 [.pointer (some ⟨qg3,0,none⟩)] 120,.blk qg3 [.slice qp4 l1.length qc5,.slice qp6 l2.length qc7,.int .i64 a3,.int .i64 a4] 124] (fun v Φr Hr=>v = .bool o0 ∧ Φr = [.sli 2 Qb qp4 qc5 l1,.sli 5 Qa qp6 qc7 l2] ∧ Hr = [.blk qg2 [.pointer (some ⟨qg3,0,none⟩)] 120,.blk qg3 [.slice qp4 l1.length qc5,.slice qp6 l2.length qc7,.int .i64 a3,.int .i64 a4] 124]):=by
 unfold Q39 at hm
 refine QC Tryz.func179 Z Tryz.ntmps179 Z (S:=[_,_]) Z (fun C=>(Q5 (Q1 (wP Z (Q4 (Q3 (Q2 [0,1] (S':=[_,_]) Z (Q5 (Q1 (wP Z (wP Z ?_)))))))))))
 obtain ⟨v7,hc7,hm⟩:=Q6 hm
 refine wC [0,1] [] Z fn_214 Z (Q9I N rc ih qp0 qc1 l0 qg2 qg3 qp4 qc5 l1 qp6 qc7 l2 a3 a4 _ hc7) (asK [0,1,2] Z) Z (H':=[]) Z ?_
 rintro _ _ _ ⟨rfl,rfl,rfl⟩
 refine wP Z (wP Z (Q4 (Q3 (Q2 [4] (S':=[_]) Z (Qo ?_)))))
 have hE:=(Zi hm).symm
 replace hE:=hE.symm
 subst hE
 refine Qp (Hr:=[_,_]) [0,1] Tryz.results179 (Qg Z) ⟨Z,Z,Z⟩ (asK [0,1] Z) Z Z (.inl Z)
theorem Qba (N:Nat) (rc:(List Ql) → (List Qi) → Int → Int → Int → Int → Int → ByteArray → Int → Int → (List Qm) → Option (Bool)) (ih : ∀ (qg0:Nat) (qp1:OA) (qc2:Nat) (l0:List Ql) (qp3:OA) (qc4:Nat) (l1:List Qi) (a2:Int) (a3:Int) (a4:Int) (a5:Int) (a6:Int) (a7:ByteArray) (a8:Int) (a9:Int) (qp5:OA) (qc6:Nat) (l10:List Qm) (o0:Bool),rc l0 l1 a2 a3 a4 a5 a6 a7 a8 a9 l10 = some o0 → Q17 Tryz.prog 138 [.pointer (some ⟨qg0,0,none⟩),.agg #[.int .u8 a4,.int .u8 a5,.int .i64 a6,.string a7,.int .i64 a8,.int .u8 a9,.slice qp5 l10.length qc6]] [.sli 2 Qb qp1 qc2 l0,.sli 5 Qa qp3 qc4 l1,.sli 7 QA qp5 qc6 l10] [.blk qg0 [.slice qp1 l0.length qc2,.slice qp3 l1.length qc4,.int .i64 a2,.int .i64 a3] 124] (fun v Φr Hr=>v = .bool o0 ∧ Φr = [.sli 2 Qb qp1 qc2 l0,.sli 5 Qa qp3 qc4 l1] ∧ Hr = [.blk qg0 [.slice qp1 l0.length qc2,.slice qp3 l1.length qc4,.int .i64 a2,.int .i64 a3] 124])) (qg0:Nat) (qp1:OA) (qc2:Nat) (l0:List Ql) (qp3:OA) (qc4:Nat) (l1:List Qi) (a2:Int) (a3:Int) (qp5:OA) (qc6:Nat) (l4:List Qm) (o0:Bool) (hm:Q40 N rc l0 l1 a2 a3 l4 = some o0):Q17 Tryz.prog 140 [.pointer (some ⟨qg0,0,none⟩),.slice qp5 l4.length qc6] [.sli 2 Qb qp1 qc2 l0,.sli 5 Qa qp3 qc4 l1,.sli 7 QA qp5 qc6 l4] [.blk qg0 [.slice qp1 l0.length qc2,.slice qp3 l1.length qc4,.int .i64 a2,.int .i64 a3] 124] (fun v Φr Hr=>v = .bool o0 ∧ Φr = [.sli 2 Qb qp1 qc2 l0,.sli 5 Qa qp3 qc4 l1] ∧ Hr = [.blk qg0 [.slice qp1 l0.length qc2,.slice qp3 l1.length qc4,.int .i64 a2,.int .i64 a3] 124]):=by
 unfold Q40 at hm
 refine QC Tryz.func140 Z Tryz.ntmps140 Z (S:=[_,_]) Z (fun C=>(Q5 (Q1 (wB Z (fun g2=>(wP Z (Q4 (Q3 (Q2 [2,1] (S':=[_,_]) Z (Q5 (Q1 (wP Z (Q2o Z Z Z Zq Z Z ?_)))))))))))))
 obtain ⟨v7,hc7,hm⟩:=Q6 hm
 refine wC [0,1] [] Z fn_179 Z (Q8L N rc ih qp5 qc6 l4 g2 qg0 qp1 qc2 l0 qp3 qc4 l1 a2 a3 _ hc7) (asK [2,0,1] Z) Z (H':=[]) Z ?_
 rintro _ _ _ ⟨rfl,rfl,rfl⟩
 refine wP Z (wP Z (Q4 (Q3 (Q2 [4] (S':=[_]) Z (Qo ?_)))))
 have hE:=(Zi hm).symm
 replace hE:=hE.symm
 subst hE
 refine Qp (Hr:=[_]) [1] Tryz.results140 (Qg Z) ⟨Z,Z,Z⟩ (asK [0,1] Z) Z Z (.inl Z)
theorem Qc2 (N:Nat) (rc:(List Ql) → (List Qi) → Int → Int → Int → Int → Int → ByteArray → Int → Int → (List Qm) → Option (Bool)) (ih : ∀ (aF:Nat) (a1:OA) (aA:Nat) (l0:List Ql) (aB:OA) (aC:Nat) (l1:List Qi) (a2:Int) (a3:Int) (a4:Int) (a5:Int) (a6:Int) (a7:ByteArray) (a8:Int) (a9:Int) (aD:OA) (aE:Nat) (s:List Qm) (o0:Bool),rc l0 l1 a2 a3 a4 a5 a6 a7 a8 a9 s = some o0 → Q17 Tryz.prog 138 [.pointer (some ⟨aF,0,none⟩),.agg #[.int .u8 a4,.int .u8 a5,.int .i64 a6,.string a7,.int .i64 a8,.int .u8 a9,.slice aD s.length aE]] [.sli 2 Qb a1 aA l0,.sli 5 Qa aB aC l1,.sli 7 QA aD aE s] [.blk aF [.slice a1 l0.length aA,.slice aB l1.length aC,.int .i64 a2,.int .i64 a3] 124] (fun v Φr Hr=>v = .bool o0 ∧ Φr = [.sli 2 Qb a1 aA l0,.sli 5 Qa aB aC l1] ∧ Hr = [.blk aF [.slice a1 l0.length aA,.slice aB l1.length aC,.int .i64 a2,.int .i64 a3] 124])) (aF:Nat) (a1:OA) (aA:Nat) (l0:List Ql) (aB:OA) (aC:Nat) (l1:List Qi) (a2:Int) (a3:Int) (a4:Int) (a5:Int) (a6:Int) (a7:ByteArray) (a8:Int) (a9:Int) (aD:OA) (aE:Nat) (s:List Qm) (o0:Bool) (hm:Q4U N rc l0 l1 a2 a3 a4 a5 a6 a7 a8 a9 s = some o0):Q17 Tryz.prog 138 [.pointer (some ⟨aF,0,none⟩),.agg #[.int .u8 a4,.int .u8 a5,.int .i64 a6,.string a7,.int .i64 a8,.int .u8 a9,.slice aD s.length aE]] [.sli 2 Qb a1 aA l0,.sli 5 Qa aB aC l1,.sli 7 QA aD aE s] [.blk aF [.slice a1 l0.length aA,.slice aB l1.length aC,.int .i64 a2,.int .i64 a3] 124] (fun v Φr Hr=>v = .bool o0 ∧ Φr = [.sli 2 Qb a1 aA l0,.sli 5 Qa aB aC l1] ∧ Hr = [.blk aF [.slice a1 l0.length aA,.slice aB l1.length aC,.int .i64 a2,.int .i64 a3] 124]):=by
 unfold Q4U at hm
 refine QC Tryz.func138 Z Tryz.ntmps138 Z (S:=[_,_]) Z (fun C=>(Q5 (Q1 (wB Z (fun g3=>(wP Z (Q4 (Q3 (Q2 [3,0] (S':=[_,_]) Z (Q5 (Q5 (Q1 (wF Z tF_65_0 (wD 0 0 Z tS_61 tA_61 Z (Q4 ?_)))))))))))))))
 refine Q3 (Q2 [7,3,0] (S':=V3 ..) Z (Qw (Q5 (Q1 (wP Z (wP Z (Q4 (Q3 (Q2 [8,7,3,0] (S':=V4 ..) Z ?_)))))))))
 refine Qt Z (fun b0=>?_) (fun b0=>?_)
 replace hm:=QI hm b0
 refine Q2 [3] (S':=[_]) Z (Q5 (Q1 (QO 0 0 Z Z Z Zq Z Z Z (cs:=V7 ..) Z Q57 Q7Z Z Z ?_)))
 obtain ⟨bB,b2,hm⟩:=Q6 hm
 refine wC [] [0,1] Z fn_136 Z (Q5D N a4 a5 a6 a7 a8 a9 aD aE s true false false _ b2) (asK [2] Z) Z (H':=[_,_]) Z ?_
 rintro _ _ _ ⟨rfl,rfl,rfl⟩
 refine wP Z ?_
 refine QG (d:=12) (S':=V3 ..) Z Z (fun aP=>?_) (fun aP=>?_)
 replace hm:=QI hm aP
 refine wF Z tF_65_1 (QO 0 1 Z Z Z Zq Z Z Z (cs:=V3 ..) Z Q1C Q2M Z Z ?_)
 obtain ⟨bC,b3,hm⟩:=Q6 hm
 refine wC [] [0,1] Z fn_64 Z (Q5E N a5 a6 a7 _ b3) (asK [] Z) Z (H':=[_,_]) Z ?_
 rintro _ _ _ ⟨rfl,rfl,rfl⟩
 refine wP Z (wP Z (Q4 (Q3 (Q2 [4] (S':=[_]) Z (Qo (Qk (Q9 ?_)))))))
 have hE:=(Zi hm).symm
 replace hE:=hE.symm
 subst hE
 refine Qp (Hr:=[_]) [1] Tryz.results138 (Qg Z) ⟨Z,Z,Z⟩ (asK [0,1] Z) Z Z (.inl Z)
 replace hm:=QH hm aP
 refine wO Z (wO Z (wO Z (wP Z (wP Z (Q4 (Q3 (Q2 [4] (S':=[_]) Z (Qo (Qk (Q9 ?_))))))))))
 have hE:=(Zi hm).symm
 replace hE:=hE.symm
 subst hE
 refine Qp (Hr:=[_]) [1] Tryz.results138 (Qg Z) ⟨Z,Z,Z⟩ (asK [0,1] Z) Z Z (.inl Z)
 replace hm:=QH hm b0
 refine Q2 [7,3,0] (S':=V3 ..) Z (Q5 (Q1 (wP Z (wP Z (Q4 (Q3 (Q2 [17,7,3,0] (S':=V4 ..) Z ?_)))))))
 refine Qt Z (fun aQ=>?_) (fun aQ=>?_)
 replace hm:=QI hm aQ
 refine Q2 [3,0] (S':=[_,_]) Z (Q5 ?_)
 obtain ⟨bD,aR,hm⟩:=Q6 hm
 rcases Q1E hm with ⟨aJ,hm⟩ | ⟨aJ,hm⟩
 rcases Q1E hm with ⟨aS,hm⟩ | ⟨aS,hm⟩
 refine QW [0,2,3,4,5,6,7,8,9,10,11,12,13,14,15] Z Z (fun hok=>(Qn hok 0 0 0 Z Z Z Zq Z Z Z Z (cs:=V7 ..) Z Q57 Q7Z Z Z (xS hok 1 Z (wC [] [0,1] Z fn_136 Z (Q5D N a4 a5 a6 a7 a8 a9 aD aE s false true false _ aR) (asK [2] Z) Z (H':=[_,_]) Z ?_))))
 rintro _ _ _ ⟨rfl,rfl,rfl⟩
 refine Q4 (QJ [0,1,2] [] Z Z (xP hok 2 Z (Q1z (d:=21) (v':=.bool true) (S':=V4 ..) Z Z (Qy aJ) (Q8 hok 3 Z Z Z Zq Z Z Z QaF (Qn hok 4 0 4 Z Z Z Zq Z Z Z Z (cs:=[_]) Z Q1m Q1H Z Z (xP hok 5 Z (xP hok 6 Z (xP hok 7 Z (Q1z (d:=26) (v':=.bool true) (S':=V9 ..) Z Z (Qy aS) (Q8 hok 8 Z Z Z Zq Z Z Z QaF (Qn hok 9 0 4 Z Z Z Zq Z Z Z Z (cs:=[_]) Z Q1m Q1H Z Z (xP hok 10 Z (xP hok 11 Z ?_)))))))))))))
 refine Q8 hok 12 Z Z Z Zq Z Z Z Q6x (Qn hok 13 1 2 Z Z Z Zq Z Z Z Z (cs:=[_]) Z Q1m Q1H Z Z (xP hok 14 Z (xP hok 15 Z (xS hok 16 Z (wP Z (Q4 (QJ [0,1,2] [] Z Z (QS hok Z (Q3 (Q2 [4] (S':=[_]) Z (Qo (Qk (Q9 ?_)))))))))))))
 have hE:=(Zi hm).symm
 replace hE:=hE.symm
 subst hE
 refine Qp (Hr:=[_]) [1] Tryz.results138 (Qg Z) ⟨Z,Z,Z⟩ (asK [0,1] Z) Z Z (.inl Z)
 refine QW [0,2,3,4,5,6,7,8,9,10,11,12,13,14,15] Z Z (fun hok=>(Qn hok 0 0 0 Z Z Z Zq Z Z Z Z (cs:=V7 ..) Z Q57 Q7Z Z Z (xS hok 1 Z (wC [] [0,1] Z fn_136 Z (Q5D N a4 a5 a6 a7 a8 a9 aD aE s false true false _ aR) (asK [2] Z) Z (H':=[_,_]) Z ?_))))
 rintro _ _ _ ⟨rfl,rfl,rfl⟩
 refine Q4 (QJ [0,1,2] [] Z Z (xP hok 2 Z (Q1z (d:=21) (v':=.bool true) (S':=V4 ..) Z Z (Qy aJ) (Q8 hok 3 Z Z Z Zq Z Z Z QaF (Qn hok 4 0 4 Z Z Z Zq Z Z Z Z (cs:=[_]) Z Q1m Q1H Z Z (xP hok 5 Z (xP hok 6 Z (xP hok 7 Z (Q1z (d:=26) (v':=.bool false) (S':=V9 ..) Z Z (Qy aS) (xO hok 8 Z (xO hok 9 Z (xO hok 10 Z (xO hok 11 Z ?_)))))))))))))
 refine xO hok 12 Z (xO hok 13 Z (xO hok 14 Z (xP hok 15 Z (xS hok 16 Z (wP Z (Q4 (QJ [0,1,2] [] Z Z (QS hok Z (Q3 (Q2 [4] (S':=[_]) Z (Qo (Qk (Q9 ?_)))))))))))))
 have hE:=(Zi hm).symm
 replace hE:=hE.symm
 subst hE
 refine Qp (Hr:=[_]) [1] Tryz.results138 (Qg Z) ⟨Z,Z,Z⟩ (asK [0,1] Z) Z Z (.inl Z)
 refine QW [0,2,3,4,5,6,7,8,9,10,11,12,13,14,15] Z Z (fun hok=>(Qn hok 0 0 0 Z Z Z Zq Z Z Z Z (cs:=V7 ..) Z Q57 Q7Z Z Z (xS hok 1 Z (wC [] [0,1] Z fn_136 Z (Q5D N a4 a5 a6 a7 a8 a9 aD aE s false true false _ aR) (asK [2] Z) Z (H':=[_,_]) Z ?_))))
 rintro _ _ _ ⟨rfl,rfl,rfl⟩
 refine Q4 (QJ [0,1,2] [] Z Z (xP hok 2 Z (Q1z (d:=21) (v':=.bool false) (S':=V4 ..) Z Z (Qy aJ) (xO hok 3 Z (xO hok 4 Z (xO hok 5 Z (xP hok 6 Z (xP hok 7 Z (xO hok 8 Z (xO hok 9 Z (xO hok 10 Z (xO hok 11 Z (xO hok 12 Z ?_)))))))))))))
 refine xO hok 13 Z (xO hok 14 Z (xP hok 15 Z (xS hok 16 Z (wP Z (Q4 (QJ [0,1,2] [] Z Z (QS hok Z (Q3 (Q2 [4] (S':=[_]) Z (Qo (Qk (Q9 ?_))))))))))))
 have hE:=(Zi hm).symm
 replace hE:=hE.symm
 subst hE
 refine Qp (Hr:=[_]) [1] Tryz.results138 (Qg Z) ⟨Z,Z,Z⟩ (asK [0,1] Z) Z Z (.inl Z)
 replace hm:=QH hm aQ
 refine Q2 [7,3,0] (S':=V3 ..) Z (Q5 (Q1 (wP Z (wP Z (Q4 (Q3 (Q2 [35,3,0] (S':=V3 ..) Z ?_)))))))
 refine Qt Z (fun aT=>?_) (fun aT=>?_)
 replace hm:=QI hm aT
 refine Q2 [3,0] (S':=[_,_]) Z (Q5 (Q1 (wP Z (Q4 (Q3 (Q5 ?_))))))
 obtain ⟨b4,hm,hLj_1⟩:=Q6 hm
 unfold Q5L at hm
 refine QM (σ:=Nat) (fun z=>b4 = z) (fun z=>[(3,.pointer (some ⟨g3,0,none⟩)),(0,.pointer (some ⟨aF,0,none⟩)),(5,.int .i64 ((z:Nat):Int))]) (fun z=>[.sli 7 QA aD aE s,.sli 2 Qb a1 aA l0,.sli 5 Qa aB aC l1]) (fun z=>[.blk g3 [.int .u8 a4,.int .u8 a5,.int .i64 a6,.string a7,.int .i64 a8,.int .u8 a9,.slice aD s.length aE] 65,.blk aF [.slice a1 l0.length aA,.slice aB l1.length aC,.int .i64 a2,.int .i64 a3] 124]) ?_ ?_
 refine Q5 ?_
 obtain ⟨b5,hm,hLj_2⟩:=Q6 hm
 refine QM (σ:=Bool) (fun a0=>b5 = a0) (fun a0=>[(3,.pointer (some ⟨g3,0,none⟩)),(0,.pointer (some ⟨aF,0,none⟩)),(5,.int .i64 2),(44,.bool a0)]) (fun a0=>[.sli 7 QA aD aE s,.sli 2 Qb a1 aA l0,.sli 5 Qa aB aC l1]) (fun a0=>[.blk g3 [.int .u8 a4,.int .u8 a5,.int .i64 a6,.string a7,.int .i64 a8,.int .u8 a9,.slice aD s.length aE] 65,.blk aF [.slice a1 l0.length aA,.slice aB l1.length aC,.int .i64 a2,.int .i64 a3] 124]) ?_ ?_
 refine Q1 (wF Z Q9S (wD 0 5 Z tS_62 tA_62 Z (wP Z (wP Z ?_))))
 refine QG (d:=40) (S':=V6 ..) Z Z (fun aU=>?_) (fun aU=>?_)
 replace hm:=QI hm aU
 refine wO Z (wO Z (wO Z (wP Z (Q4 ?_))))
 have hE:=(Zi hm).symm
 refine Qh true hE [3,0,5,44] Z (asK [2,0,1] Z) Z
 replace hm:=QH hm aU
 refine wF Z Q9S (wD 0 5 Z tS_62 tA_62 Z (wP Z (wP Z (Q4 ?_))))
 have hE:=(Zi hm).symm
 refine Qh (a9 == 11) hE [3,0,5,44] Z (asK [2,0,1] Z) Z
 rintro a0 hE
 try dsimp only
 have hm:=hLj_2
 try rw [hE] at hm
 refine Qt Z (fun aV=>?_) (fun aV=>?_)
 replace hm:=QI hm aV
 refine Q2 [3,0] (S':=[_,_]) Z (Q1 (wP Z (Q4 ?_)))
 have hE:=(Zi hm).symm
 refine Qh 1 hE [3,0,5] Z (asK [0,1,2] Z) Z
 replace hm:=QH hm aV
 refine Q2 [3,0,5] (S':=V3 ..) Z (Qr ?_)
 have hE:=(Zi hm).symm
 refine Qh 2 hE [3,0,5] Z (asK [0,1,2] Z) Z
 rintro z hE
 try dsimp only
 have hm:=hLj_1
 try rw [hE] at hm
 refine Q5 ?_
 obtain ⟨b6,hm,hLj_3⟩:=Q6 hm
 unfold Q7s at hm
 refine QM (σ:=Bool) (fun aG=>b6 = aG) (fun aG=>[(4,.bool aG)]) (fun aG=>[.sli 2 Qb a1 aA l0,.sli 5 Qa aB aC l1]) (fun aG=>[.blk aF [.slice a1 l0.length aA,.slice aB l1.length aC,.int .i64 a2,.int .i64 a3] 124]) ?_ ?_
 refine Q1 (QO 0 0 Z Z Z Zq Z Z Z (cs:=V7 ..) Z Q57 Q7Z Z Z ?_)
 obtain ⟨bE,b7,hm⟩:=Q6 hm
 refine wC [] [0,1] Z fn_136 Z (Q5D N a4 a5 a6 a7 a8 a9 aD aE s false false true _ b7) (asK [0] Z) Z (H':=[_,_]) Z ?_
 rintro _ _ _ ⟨rfl,rfl,rfl⟩
 refine wP Z ?_
 refine QG (d:=47) (S':=V5 ..) Z Z (fun aW=>?_) (fun aW=>?_)
 replace hm:=QI hm aW
 refine wF Z Q9S (wD 0 5 Z tS_62 tA_62 Z (wP Z (wP Z (wP Z ?_))))
 refine QG (d:=52) (S':=V10 ..) Z Z (fun aX=>?_) (fun aX=>?_)
 replace hm:=QI hm aX
 refine wF Z Q9S (wD 0 5 Z tS_62 tA_62 Z (wP Z (wP Z (wP Z ?_))))
 refine QG (d:=57) (S':=V15 ..) Z Z (fun aY=>?_) (fun aY=>?_)
 replace hm:=QI hm aY
 refine wF Z QaG (wD 0 6 Z Q8N Q9h Z (wN Z Q7O (wP Z (wP Z (Qs (d:=62) (v':=.bool (s.length == z)) (S':=V20 ..) Z Z (Q4J (a:=s.length) (b:=z)) (wP Z (wP Z ?_)))))))
 refine QG (d:=64) (S':=V22 ..) Z Z (fun aZ=>?_) (fun aZ=>?_)
 replace hm:=QI hm aZ
 refine wP Z (wF Z QaG (wD 0 6 Z Q8N Q9h Z ?_))
 obtain ⟨bA,b8,hm⟩:=Q6 hm
 refine wC [1] [0] Z fn_140 Z (Qba N rc ih aF a1 aA l0 aB aC l1 a2 a3 aD aE s _ b8) (asK [1,2,0] Z) Z (H':=[_]) Z ?_
 rintro _ _ _ ⟨rfl,rfl,rfl⟩
 refine wP Z (wP Z (Q4 ?_))
 have hE:=(Zi hm).symm
 refine QE [0] Z (H':=[_]) Z ?_
 refine Qh bA hE [4] Z (asK [0,1] Z) Z
 replace hm:=QH hm aZ
 refine wO Z (wO Z (wO Z (wO Z (wP Z (wP Z (Q4 ?_))))))
 have hE:=(Zi hm).symm
 refine QE [1] Z (H':=[_]) Z ?_
 refine Qh false hE [4] Z (asK [1,2] Z) Z
 replace hm:=QH hm aY
 refine wO Z (wO Z (wO Z (wO Z (wO Z (wP Z (wP Z (wO Z (wO Z (wO Z (wO Z (wP Z (wP Z (Q4 ?_)))))))))))))
 have hE:=(Zi hm).symm
 refine QE [1] Z (H':=[_]) Z ?_
 refine Qh false hE [4] Z (asK [1,2] Z) Z
 replace hm:=QH hm aX
 refine wO Z (wO Z (wO Z (wP Z (wP Z (wO Z (wO Z (wO Z (wO Z (wO Z (wP Z (wP Z (wO Z (wO Z ?_)))))))))))))
 refine wO Z (wO Z (wP Z (wP Z (Q4 ?_))))
 have hE:=(Zi hm).symm
 refine QE [1] Z (H':=[_]) Z ?_
 refine Qh false hE [4] Z (asK [1,2] Z) Z
 replace hm:=QH hm aW
 refine wO Z (wO Z (wO Z (wP Z (wP Z (wO Z (wO Z (wO Z (wP Z (wP Z (wO Z (wO Z (wO Z (wO Z ?_)))))))))))))
 refine wO Z (wP Z (wP Z (wO Z (wO Z (wO Z (wO Z (wP Z (wP Z (Q4 ?_)))))))))
 have hE:=(Zi hm).symm
 refine QE [1] Z (H':=[_]) Z ?_
 refine Qh false hE [4] Z (asK [1,2] Z) Z
 rintro aG hE
 try dsimp only
 have hm:=hLj_3
 try rw [hE] at hm
 refine Qo (Qk (Q9 ?_))
 have hE:=(Zi hm).symm
 replace hE:=hE.symm
 subst hE
 refine Qp (Hr:=[_]) [0] Tryz.results138 (Qg Z) ⟨Z,Z,Z⟩ (asK [0,1] Z) Z Z (.inl Z)
 replace hm:=QH hm aT
 refine Q2 [] (S':=[]) Z (Qr (Qf (Q3 (Q5 (Q1 (wP Z (Q4 (Q3 (Qo ?_)))))))))
 have hE:=(Zi hm).symm
 replace hE:=hE.symm
 subst hE
 refine Qp (Hr:=[_]) [1] Tryz.results138 (Qg Z) ⟨Z,Z,Z⟩ (asK [0,1] Z) Z Z (.inl Z)
theorem Q9O : ∀ (N:Nat),∀ (qg0:Nat) (qp1:OA) (qc2:Nat) (l0:List Ql) (qp3:OA) (qc4:Nat) (l1:List Qi) (a2:Int) (a3:Int) (a4:Int) (a5:Int) (a6:Int) (a7:ByteArray) (a8:Int) (a9:Int) (qp5:OA) (qc6:Nat) (l10:List Qm) (o0:Bool),Q38 N l0 l1 a2 a3 a4 a5 a6 a7 a8 a9 l10 = some o0 → Q17 Tryz.prog 138 [.pointer (some ⟨qg0,0,none⟩),.agg #[.int .u8 a4,.int .u8 a5,.int .i64 a6,.string a7,.int .i64 a8,.int .u8 a9,.slice qp5 l10.length qc6]] [.sli 2 Qb qp1 qc2 l0,.sli 5 Qa qp3 qc4 l1,.sli 7 QA qp5 qc6 l10] [.blk qg0 [.slice qp1 l0.length qc2,.slice qp3 l1.length qc4,.int .i64 a2,.int .i64 a3] 124] (fun v Φr Hr=>v = .bool o0 ∧ Φr = [.sli 2 Qb qp1 qc2 l0,.sli 5 Qa qp3 qc4 l1] ∧ Hr = [.blk qg0 [.slice qp1 l0.length qc2,.slice qp3 l1.length qc4,.int .i64 a2,.int .i64 a3] 124]):=by
 intro N
 induction N with
 | zero=>intro qg0 qp1 qc2 l0 qp3 qc4 l1 a2 a3 a4 a5 a6 a7 a8 a9 qp5 qc6 l10 o0 hm; cases hm
 | succ N ih=>intro qg0 qp1 qc2 l0 qp3 qc4 l1 a2 a3 a4 a5 a6 a7 a8 a9 qp5 qc6 l10 o0 hm; exact Qc2 N (Q38 N) ih qg0 qp1 qc2 l0 qp3 qc4 l1 a2 a3 a4 a5 a6 a7 a8 a9 qp5 qc6 l10 o0 hm
end Go.Proofs.YtbgodclhmgmcgaaGreatDoor
