import Derived.Test.YtbgodclhmgmcgaaGreatDoorXW5
namespace Go.Proofs.YtbgodclhmgmcgaaGreatDoor
open Go.RowKit
set_option maxRecDepth 100000
set_option maxHeartbeats 4000000
theorem QbD (N:Nat) (aJ:Nat) (aE:OA) (aF:Nat) (l0:List Qn) (aG:OA) (aH:Nat) (l1:List Qp) (a2:Int) (a3:Int) (a4:Int) (a5:Int) (a6:Int) (a7:Int) (a8:ByteArray) (a9:Bool) (o0:Bool) (o1:Int) (hm:Q84 N l0 l1 a2 a3 a4 a5 a6 a7 a8 a9 = some (o0,o1)):Q1o Tryz.prog 137 [.pointer (some ⟨aJ,0,none⟩),.agg #[.int .u8 a4,.int .i64 a5,.int .u8 a6,.int .i64 a7,.string a8],.bool a9] [.sli 2 Qf aE aF l0,.sli 5 Qe aG aH l1] [.blk aJ [.slice aE l0.length aF,.slice aG l1.length aH,.int .i64 a2,.int .i64 a3] 124] (fun v Φr Hr=>v = .bool o0 ∧ Φr = [.sli 2 Qf aE aF l0,.sli 5 Qe aG aH l1] ∧ Hr = [.blk aJ [.slice aE l0.length aF,.slice aG l1.length aH,.int .i64 o1,.int .i64 a3] 124]):=by
 unfold Q84 at hm
 refine QD Tryz.func137 Z Tryz.ntmps137 Z (S:=V3 ..) Z (fun C=>(Q5 (Q1 (wB Z (fun g4=>(wP Z (Q3 (Q4 (Q2 [4,0,2] (S':=V3 ..) Z (Q5 (Q1 (wF Z tF_59_2 (QR 0 2 Z Z Z Zq Z Z Z (cs:=V3 ..) Z Q1H Q2u Z Z (Q13 Z Z Z Zq Z Q2Y Q8x Z (out:=V3 ..) Z (Q7Q Z Z Z Zq Z Z Z (eqlV _ _ (⟨a6,a7,a8⟩ : V) (⟨0,0,(⟨#[]⟩ : ByteArray)⟩ : V)) ?_)))))))))))))))
 refine wP Z (Q3 (Q4 (Q2 [7,4,0,2] (S':=V4 ..) Z (Q5 (Q5 (Q1 (wF Z tF_59_0 (wD 0 0 Z tS_54 tA_54 Z (Q3 (Q4 (Q2 [13,7,4,0,2] (S':=V5 ..) Z (Qw (Q5 ?_)))))))))))))
 refine Q1 (wP Z (wP Z (Q3 (Q4 (Q2 [14,13,7,4,0,2] (S':=V6 ..) Z ?_)))))
 refine Qj Z (fun s=>?_) (fun s=>?_)
 replace hm:=QA hm s
 refine Q2 [7,4] (S':=[_,_]) Z (Q5 (Q1 (wF Z Q5g (wD 0 1 Z Q1A Q1N Z (wP Z (wP Z ?_))))))
 refine Qt (d:=19) (S':=V5 ..) Z Z (fun z=>?_) (fun z=>?_)
 replace hm:=QA hm z
 refine wP Z (wP Z (wP Z (Q3 (Q4 (Q2 [6] (S':=[_]) Z (Qb (Qg (Q7 ?_))))))))
 have hE:=(Zi hm).symm
 obtain ⟨hE0,hE1⟩:=Prod.mk.inj hE
 clear hE
 replace hE0:=hE0.symm
 subst hE0
 replace hE1:=hE1.symm
 subst hE1
 refine Ql (Hr:=[_]) [1] Tryz.results137 (Qc Z) ⟨Z,Z,Z⟩ (asK [0,1] Z) Z Z (.inl Z)
 replace hm:=Qz hm z
 refine wO Z (wP Z (wP Z (Q3 (Q4 (Q2 [6] (S':=[_]) Z (Qb (Qg (Q7 ?_))))))))
 have hE:=(Zi hm).symm
 obtain ⟨hE0,hE1⟩:=Prod.mk.inj hE
 clear hE
 replace hE0:=hE0.symm
 subst hE0
 replace hE1:=hE1.symm
 subst hE1
 refine Ql (Hr:=[_]) [1] Tryz.results137 (Qc Z) ⟨Z,Z,Z⟩ (asK [0,1] Z) Z Z (.inl Z)
 replace hm:=Qz hm s
 refine Q2 [13,7,4,0,2] (S':=V5 ..) Z (Q5 (Q1 (wP Z (wP Z (Q3 (Q4 (Q2 [22,13,7,4,0,2] (S':=V6 ..) Z ?_)))))))
 refine Qj Z (fun a0=>?_) (fun a0=>?_)
 replace hm:=QA hm a0
 refine Q2 [7,4,0,2] (S':=V4 ..) Z (Q5 (Q1 (wP Z (wP Z (wF Z Q5z (wD 1 2 Z Q1A Q1N Z (wP Z ?_)))))))
 obtain ⟨aM,hm⟩:=Qu hm
 refine QH (d:=28) (v':=.int .i64 (a2 + 1)) (S':=V8 ..) Z Z (i64_in aM) (wP Z (wF Z Q5z (wS 1 2 Z Q1A (all':=V4 ..) Z (H':=[_,_]) Z (Q3 (Q4 (Q2 [7,4,0,2] (S':=V4 ..) Z (Q5 ?_)))))))
 rcases QG hm with ⟨j,hm⟩ | ⟨j,hm⟩
 obtain ⟨aI,hm⟩:=Qu hm
 rcases QG hm with ⟨a1,hm⟩ | ⟨a1,hm⟩
 refine Q18 [0,1,2,3,4,5,6,7,8,9,10,11,12,13] Z Z (fun hok=>(xP hok 0 Z (xP hok 1 Z (Q1D (d:=32) (v':=.bool true) (S':=V5 ..) Z Z (Q1l j) (Q8 hok 2 Z Z Z Zq Z Z Z Q5g (Qm hok 3 0 1 Z Z Z Zq Z Z Z Z (cs:=[_]) Z Q1A Q1N Z Z (xP hok 4 Z (xP hok 5 Z (Q8 hok 6 Z Z Z Zq Z Z Z Q5z (Qm hok 7 1 2 Z Z Z Zq Z Z Z Z (cs:=[_]) Z Q1A Q1N Z Z (xP hok 8 Z (Q1D (d:=39) (v':=.int .i64 ((a2 + 1) - 1)) (S':=V12 ..) Z Z (i64_in aI) (xP hok 9 Z (xP hok 10 Z ?_))))))))))))))
 refine xP hok 11 Z (Q1D (d:=42) (v':=.bool true) (S':=V15 ..) Z Z (Q1l a1) (xP hok 12 Z (xP hok 13 Z (xS hok 14 Z (wP Z (Q3 (QV [0,1] [] Z Z (Q11 hok Z (Q4 (Q2 [6] (S':=[_]) Z (Qb (Qg (Q7 ?_)))))))))))))
 have hE:=(Zi hm).symm
 obtain ⟨hE0,hE1⟩:=Prod.mk.inj hE
 clear hE
 replace hE0:=hE0.symm
 subst hE0
 replace hE1:=hE1.symm
 subst hE1
 refine Ql (Hr:=[_]) [1] Tryz.results137 (Qc Z) ⟨Z,Z,Z⟩ (asK [0,1] Z) Z Z (.inl Z)
 refine Q18 [0,1,2,3,4,5,6,7,8,9,10,11,12,13] Z Z (fun hok=>(xP hok 0 Z (xP hok 1 Z (Q1D (d:=32) (v':=.bool true) (S':=V5 ..) Z Z (Q1l j) (Q8 hok 2 Z Z Z Zq Z Z Z Q5g (Qm hok 3 0 1 Z Z Z Zq Z Z Z Z (cs:=[_]) Z Q1A Q1N Z Z (xP hok 4 Z (xP hok 5 Z (Q8 hok 6 Z Z Z Zq Z Z Z Q5z (Qm hok 7 1 2 Z Z Z Zq Z Z Z Z (cs:=[_]) Z Q1A Q1N Z Z (xP hok 8 Z (Q1D (d:=39) (v':=.int .i64 ((a2 + 1) - 1)) (S':=V12 ..) Z Z (i64_in aI) (xP hok 9 Z (xP hok 10 Z ?_))))))))))))))
 refine xP hok 11 Z (Q1D (d:=42) (v':=.bool false) (S':=V15 ..) Z Z (Q1l a1) (xO hok 12 Z (xP hok 13 Z (xS hok 14 Z (wP Z (Q3 (QV [0,1] [] Z Z (Q11 hok Z (Q4 (Q2 [6] (S':=[_]) Z (Qb (Qg (Q7 ?_)))))))))))))
 have hE:=(Zi hm).symm
 obtain ⟨hE0,hE1⟩:=Prod.mk.inj hE
 clear hE
 replace hE0:=hE0.symm
 subst hE0
 replace hE1:=hE1.symm
 subst hE1
 refine Ql (Hr:=[_]) [1] Tryz.results137 (Qc Z) ⟨Z,Z,Z⟩ (asK [0,1] Z) Z Z (.inl Z)
 refine Q18 [0,1,2,3,4,5,6,7,8,9,10,11,12,13] Z Z (fun hok=>(xP hok 0 Z (xP hok 1 Z (Q1D (d:=32) (v':=.bool false) (S':=V5 ..) Z Z (Q1l j) (xO hok 2 Z (xO hok 3 Z (xO hok 4 Z (xO hok 5 Z (xO hok 6 Z (xO hok 7 Z (xO hok 8 Z (xO hok 9 Z (xP hok 10 Z (xP hok 11 Z ?_))))))))))))))
 refine xO hok 12 Z (xP hok 13 Z (xS hok 14 Z (wP Z (Q3 (QV [0,1] [] Z Z (Q11 hok Z (Q4 (Q2 [6] (S':=[_]) Z (Qb (Qg (Q7 ?_)))))))))))
 have hE:=(Zi hm).symm
 obtain ⟨hE0,hE1⟩:=Prod.mk.inj hE
 clear hE
 replace hE0:=hE0.symm
 subst hE0
 replace hE1:=hE1.symm
 subst hE1
 refine Ql (Hr:=[_]) [1] Tryz.results137 (Qc Z) ⟨Z,Z,Z⟩ (asK [0,1] Z) Z Z (.inl Z)
 replace hm:=Qz hm a0
 refine Q2 [13,7,4,0] (S':=V4 ..) Z (Q5 (Q1 (wP Z (wP Z (Q3 (Q4 (Q2 [45,7,4,0] (S':=V4 ..) Z ?_)))))))
 refine Qj Z (fun aA=>?_) (fun aA=>?_)
 replace hm:=QA hm aA
 refine Q2 [7,4,0] (S':=V3 ..) Z (Q5 ?_)
 rcases QG hm with ⟨q,hm⟩ | ⟨q,hm⟩
 rcases QG hm with ⟨aB,hm⟩ | ⟨aB,hm⟩
 refine Q18 [0,1,2,3,4,5,6,7,8,9,10,11,12,13,14] Z Z (fun hok=>(Q8 hok 0 Z Z Z Zq Z Z Z Q5g (Qm hok 1 0 1 Z Z Z Zq Z Z Z Z (cs:=[_]) Z Q1A Q1N Z Z (xP hok 2 Z (xP hok 3 Z (Q1D (d:=50) (v':=.bool true) (S':=V6 ..) Z Z (Q1l q) (Q8 hok 4 Z Z Z Zq Z Z Z Q5g (Qm hok 5 0 1 Z Z Z Zq Z Z Z Z (cs:=[_]) Z Q1A Q1N Z Z (xP hok 6 Z (xP hok 7 Z (Q8 hok 8 Z Z Z Zq Z Z Z Q5z (Qm hok 9 1 2 Z Z Z Zq Z Z Z Z (cs:=[_]) Z Q1A Q1N Z Z (xP hok 10 Z (xP hok 11 Z ?_))))))))))))))
 refine xP hok 12 Z (Q1D (d:=59) (v':=.bool true) (S':=V15 ..) Z Z (Q1l aB) (xP hok 13 Z (xP hok 14 Z (xS hok 15 Z (wP Z (Q3 (QV [0,1] [] Z Z (Q11 hok Z (Q4 (Q2 [6] (S':=[_]) Z (Qb (Qg (Q7 ?_)))))))))))))
 have hE:=(Zi hm).symm
 obtain ⟨hE0,hE1⟩:=Prod.mk.inj hE
 clear hE
 replace hE0:=hE0.symm
 subst hE0
 replace hE1:=hE1.symm
 subst hE1
 refine Ql (Hr:=[_]) [1] Tryz.results137 (Qc Z) ⟨Z,Z,Z⟩ (asK [0,1] Z) Z Z (.inl Z)
 refine Q18 [0,1,2,3,4,5,6,7,8,9,10,11,12,13,14] Z Z (fun hok=>(Q8 hok 0 Z Z Z Zq Z Z Z Q5g (Qm hok 1 0 1 Z Z Z Zq Z Z Z Z (cs:=[_]) Z Q1A Q1N Z Z (xP hok 2 Z (xP hok 3 Z (Q1D (d:=50) (v':=.bool true) (S':=V6 ..) Z Z (Q1l q) (Q8 hok 4 Z Z Z Zq Z Z Z Q5g (Qm hok 5 0 1 Z Z Z Zq Z Z Z Z (cs:=[_]) Z Q1A Q1N Z Z (xP hok 6 Z (xP hok 7 Z (Q8 hok 8 Z Z Z Zq Z Z Z Q5z (Qm hok 9 1 2 Z Z Z Zq Z Z Z Z (cs:=[_]) Z Q1A Q1N Z Z (xP hok 10 Z (xP hok 11 Z ?_))))))))))))))
 refine xP hok 12 Z (Q1D (d:=59) (v':=.bool false) (S':=V15 ..) Z Z (Q1l aB) (xO hok 13 Z (xP hok 14 Z (xS hok 15 Z (wP Z (Q3 (QV [0,1] [] Z Z (Q11 hok Z (Q4 (Q2 [6] (S':=[_]) Z (Qb (Qg (Q7 ?_)))))))))))))
 have hE:=(Zi hm).symm
 obtain ⟨hE0,hE1⟩:=Prod.mk.inj hE
 clear hE
 replace hE0:=hE0.symm
 subst hE0
 replace hE1:=hE1.symm
 subst hE1
 refine Ql (Hr:=[_]) [1] Tryz.results137 (Qc Z) ⟨Z,Z,Z⟩ (asK [0,1] Z) Z Z (.inl Z)
 refine Q18 [0,1,2,3,4,5,6,7,8,9,10,11,12,13,14] Z Z (fun hok=>(Q8 hok 0 Z Z Z Zq Z Z Z Q5g (Qm hok 1 0 1 Z Z Z Zq Z Z Z Z (cs:=[_]) Z Q1A Q1N Z Z (xP hok 2 Z (xP hok 3 Z (Q1D (d:=50) (v':=.bool false) (S':=V6 ..) Z Z (Q1l q) (xO hok 4 Z (xO hok 5 Z (xO hok 6 Z (xO hok 7 Z (xO hok 8 Z (xO hok 9 Z (xO hok 10 Z (xP hok 11 Z ?_))))))))))))))
 refine xP hok 12 Z (xO hok 13 Z (xP hok 14 Z (xS hok 15 Z (wP Z (Q3 (QV [0,1] [] Z Z (Q11 hok Z (Q4 (Q2 [6] (S':=[_]) Z (Qb (Qg (Q7 ?_))))))))))))
 have hE:=(Zi hm).symm
 obtain ⟨hE0,hE1⟩:=Prod.mk.inj hE
 clear hE
 replace hE0:=hE0.symm
 subst hE0
 replace hE1:=hE1.symm
 subst hE1
 refine Ql (Hr:=[_]) [1] Tryz.results137 (Qc Z) ⟨Z,Z,Z⟩ (asK [0,1] Z) Z Z (.inl Z)
 replace hm:=Qz hm aA
 refine Q2 [4] (S':=[_]) Z (Qq (Qh (Q4 (Q5 (Q1 (wF Z tF_59_0 (wD 0 0 Z tS_54 tA_54 Z (wP Z (wP Z ?_)))))))))
 refine Qt (d:=65) (S':=V4 ..) Z Z (fun aC=>?_) (fun aC=>?_)
 replace hm:=QA hm aC
 refine wF Z Q5g (wD 0 1 Z Q1A Q1N Z (wP Z (wP Z (wP Z ?_))))
 refine Qt (d:=70) (S':=V9 ..) Z Z (fun aD=>?_) (fun aD=>?_)
 replace hm:=QA hm aD
 refine wF Z tF_59_2 (QR 0 2 Z Z Z Zq Z Z Z (cs:=V3 ..) Z Q1H Q2u Z Z ?_)
 obtain ⟨aV,aN,hm⟩:=Q6 hm
 refine wC [] [0,1] Z fn_64 Z (Q4K N a6 a7 a8 _ aN) (asK [] Z) Z (H':=[_,_]) Z ?_
 rintro _ _ _ ⟨rfl,rfl,rfl⟩
 refine wP Z (wP Z (Q3 (Q4 (Q2 [6] (S':=[_]) Z (Qb ?_)))))
 have hE:=(Zi hm).symm
 obtain ⟨hE0,hE1⟩:=Prod.mk.inj hE
 clear hE
 replace hE0:=hE0.symm
 subst hE0
 replace hE1:=hE1.symm
 subst hE1
 refine Ql (Hr:=[_]) [1] Tryz.results137 (Qc Z) ⟨Z,Z,Z⟩ (asK [0,1] Z) Z Z (.inl Z)
 replace hm:=Qz hm aD
 refine wO Z (wO Z (wO Z (wP Z (wP Z (Q3 (Q4 (Q2 [6] (S':=[_]) Z (Qb ?_))))))))
 have hE:=(Zi hm).symm
 obtain ⟨hE0,hE1⟩:=Prod.mk.inj hE
 clear hE
 replace hE0:=hE0.symm
 subst hE0
 replace hE1:=hE1.symm
 subst hE1
 refine Ql (Hr:=[_]) [1] Tryz.results137 (Qc Z) ⟨Z,Z,Z⟩ (asK [0,1] Z) Z Z (.inl Z)
 replace hm:=Qz hm aC
 refine wO Z (wO Z (wO Z (wP Z (wP Z (wO Z (wO Z (wO Z (wP Z (wP Z (Q3 (Q4 (Q2 [6] (S':=[_]) Z (Qb ?_)))))))))))))
 have hE:=(Zi hm).symm
 obtain ⟨hE0,hE1⟩:=Prod.mk.inj hE
 clear hE
 replace hE0:=hE0.symm
 subst hE0
 replace hE1:=hE1.symm
 subst hE1
 refine Ql (Hr:=[_]) [1] Tryz.results137 (Qc Z) ⟨Z,Z,Z⟩ (asK [0,1] Z) Z Z (.inl Z)
theorem Q9D (N:Nat) (rc:(List Qn) → (List Qp) → Int → Int → Int → Int → Int → ByteArray → Int → Int → (List Qo) → Option (Bool)) (ih : ∀ (aG:Nat) (aB:OA) (aC:Nat) (l0:List Qn) (aD:OA) (aE:Nat) (l1:List Qp) (a2:Int) (a3:Int) (a4:Int) (a5:Int) (a6:Int) (a7:ByteArray) (a8:Int) (a9:Int) (aR:OA) (aS:Nat) (aI:List Qo) (o0:Bool),rc l0 l1 a2 a3 a4 a5 a6 a7 a8 a9 aI = some o0 → Q1o Tryz.prog 138 [.pointer (some ⟨aG,0,none⟩),.agg #[.int .u8 a4,.int .u8 a5,.int .i64 a6,.string a7,.int .i64 a8,.int .u8 a9,.slice aR aI.length aS]] [.sli 2 Qf aB aC l0,.sli 5 Qe aD aE l1,.sli 7 QB aR aS aI] [.blk aG [.slice aB l0.length aC,.slice aD l1.length aE,.int .i64 a2,.int .i64 a3] 124] (fun v Φr Hr=>v = .bool o0 ∧ Φr = [.sli 2 Qf aB aC l0,.sli 5 Qe aD aE l1] ∧ Hr = [.blk aG [.slice aB l0.length aC,.slice aD l1.length aE,.int .i64 a2,.int .i64 a3] 124])) (a0:Int) (a1:Int) (a2:Int) (a3:ByteArray) (a4:Int) (a5:Int) (aJ:OA) (aK:Nat) (l6:List Qo) (aL:Nat) (j:Nat) (q:OA) (s:Nat) (l7:List Qn) (z:OA) (aA:Nat) (l8:List Qp) (a9:Int) (aF:Int) (o0:Bool) (hm:Q5i N rc a0 a1 a2 a3 a4 a5 l6 l7 l8 a9 aF = some o0):Q1o Tryz.prog 180 [.agg #[.int .u8 a0,.int .u8 a1,.int .i64 a2,.string a3,.int .i64 a4,.int .u8 a5,.slice aJ l6.length aK],.pointer (some ⟨aL,0,none⟩)] [.sli 7 QB aJ aK l6,.sli 2 Qf q s l7,.sli 5 Qe z aA l8] [.blk aL [.pointer (some ⟨j,0,none⟩)] 120,.blk j [.slice q l7.length s,.slice z l8.length aA,.int .i64 a9,.int .i64 aF] 124] (fun v Φr Hr=>v = .bool o0 ∧ Φr = [.sli 2 Qf q s l7,.sli 5 Qe z aA l8] ∧ Hr = [.blk aL [.pointer (some ⟨j,0,none⟩)] 120,.blk j [.slice q l7.length s,.slice z l8.length aA,.int .i64 a9,.int .i64 aF] 124]):=by
 unfold Q5i at hm
 refine QD Tryz.func180 Z Tryz.ntmps180 Z (S:=[_,_]) Z (fun C=>(Q5 (Q1 (wB Z (fun g2=>(wP Z (Q3 (Q4 (Q2 [2,1] (S':=[_,_]) Z (Q5 (Q1 (wD 1 0 Z Q9y Q9p Z (QR 0 0 Z Z Z Zq Z Z Z (cs:=V7 ..) Z Q2S Q5J Z Z ?_)))))))))))))
 obtain ⟨v6,aX,hm⟩:=Q6 hm
 refine wC [2] [0,1] Z fn_138 Z (ih j q s l7 z aA l8 a9 aF a0 a1 a2 a3 a4 a5 aJ aK l6 _ aX) (asK [1,2,0] Z) Z (H':=[_,_]) Z ?_
 rintro _ _ _ ⟨rfl,rfl,rfl⟩
 refine wP Z (wP Z (Q3 (Q4 (Q2 [3] (S':=[_]) Z (Qb ?_)))))
 have hE:=(Zi hm).symm
 replace hE:=hE.symm
 subst hE
 refine Ql (Hr:=[_,_]) [2,0] Tryz.results180 (Qc Z) ⟨Z,Z,Z⟩ (asK [0,1] Z) Z Z (.inl Z)
theorem Q8T (N:Nat) (rc:(List Qn) → (List Qp) → Int → Int → Int → Int → Int → ByteArray → Int → Int → (List Qo) → Option (Bool)) (ih : ∀ (aP:Nat) (aI:OA) (aJ:Nat) (l0:List Qn) (aK:OA) (aL:Nat) (l1:List Qp) (a2:Int) (a3:Int) (a4:Int) (a5:Int) (a6:Int) (a7:ByteArray) (a8:Int) (a9:Int) (aS:OA) (aT:Nat) (aQ:List Qo) (o0:Bool),rc l0 l1 a2 a3 a4 a5 a6 a7 a8 a9 aQ = some o0 → Q1o Tryz.prog 138 [.pointer (some ⟨aP,0,none⟩),.agg #[.int .u8 a4,.int .u8 a5,.int .i64 a6,.string a7,.int .i64 a8,.int .u8 a9,.slice aS aQ.length aT]] [.sli 2 Qf aI aJ l0,.sli 5 Qe aK aL l1,.sli 7 QB aS aT aQ] [.blk aP [.slice aI l0.length aJ,.slice aK l1.length aL,.int .i64 a2,.int .i64 a3] 124] (fun v Φr Hr=>v = .bool o0 ∧ Φr = [.sli 2 Qf aI aJ l0,.sli 5 Qe aK aL l1] ∧ Hr = [.blk aP [.slice aI l0.length aJ,.slice aK l1.length aL,.int .i64 a2,.int .i64 a3] 124])) (aM:OA) (aN:Nat) (l0:List Qo) (aD:Nat) (q:Nat) (z:OA) (a0:Nat) (l1:List Qn) (a1:OA) (aA:Nat) (l2:List Qp) (a3:Int) (a4:Int) (o0:Int) (hm:Q4k N rc l0 l1 l2 a3 a4 = some o0):Q1o Tryz.prog 214 [.slice aM l0.length aN,.func (.func 180) #[] #[.pointer (some ⟨aD,0,none⟩)]] [.sli 7 QB aM aN l0,.sli 2 Qf z a0 l1,.sli 5 Qe a1 aA l2] [.blk aD [.pointer (some ⟨q,0,none⟩)] 120,.blk q [.slice z l1.length a0,.slice a1 l2.length aA,.int .i64 a3,.int .i64 a4] 124] (fun v Φr Hr=>v = .int .i64 o0 ∧ Φr = [.sli 2 Qf z a0 l1,.sli 5 Qe a1 aA l2] ∧ Hr = [.blk aD [.pointer (some ⟨q,0,none⟩)] 120,.blk q [.slice z l1.length a0,.slice a1 l2.length aA,.int .i64 a3,.int .i64 a4] 124]):=by
 unfold Q4k at hm
 refine QD Tryz.func214 Z Tryz.ntmps214 Z (S:=[_,_]) Z (fun C=>(Q5 (Q1 (wP Z (Q3 (Q4 (Q2 [0,1] (S':=[_,_]) Z (Q5 ?_))))))))
 obtain ⟨aO,hm,hLj_1⟩:=Q1w hm
 refine QI (σ:=Unit) (fun _=>aO = .inl ()) (fun _=>[]) (fun _=>[.sli 2 Qf z a0 l1,.sli 5 Qe a1 aA l2]) (fun _=>[.blk aD [.pointer (some ⟨q,0,none⟩)] 120,.blk q [.slice z l1.length a0,.slice a1 l2.length aA,.int .i64 a3,.int .i64 a4] 124]) ?_ ?_
 refine Q5 (Q1 (wP Z (wN Z Q66 (wP Z (Q3 (Q4 (Q2 [8,7,0,1] (S':=V4 ..) Z (Qw (Q1E (σ:=Nat × Nat) (fun (aE,j)=>Q1M (Q3O N l0 rc l1 l2 a3 a4) aE j = some aO) (fun (aE,j)=>aE) (fun (aE,j)=>[(8,.int .i64 ((j:Nat):Int)),(7,.int .i64 ((l0.length:Nat):Int)),(0,.slice aM l0.length aN),(1,.func (.func 180) #[] #[.pointer (some ⟨aD,0,none⟩)])]) (fun (aE,j)=>[.sli 7 QB aM aN l0,.sli 2 Qf z a0 l1,.sli 5 Qe a1 aA l2]) (fun (aE,j)=>[.blk aD [.pointer (some ⟨q,0,none⟩)] 120,.blk q [.slice z l1.length a0,.slice a1 l2.length aA,.int .i64 a3,.int .i64 a4] 124]) (N,0) hm [8,7,0,1] Z (asK [0,1,2] Z) Z (fun s_ hm=>?_))))))))))
 obtain ⟨aE,j⟩:=s_
 try dsimp only at hm ⊢
 obtain ⟨b8,b9,aV,hq,hLu1⟩:=Q1e hm
 clear hm
 subst aV
 replace hm:=hq
 clear hq
 unfold Q3O at hm
 try dsimp only at hm
 refine Q5 (Q1 (wP Z (QH (d:=9) (v':=.bool (decide (j < l0.length))) (S':=V4 ..) Z Z (Q2z (a:=j) (b:=l0.length)) (Q3 (Q4 (Q5 ?_))))))
 refine Qj Z (fun aR=>?_) (fun aR=>?_)
 replace hm:=QA hm aR
 refine Q2 [8,7,0,1] (S':=V4 ..) Z (Qq (Q4 (Q5 (Qw (Q5 (Q1 (wP Z (wP Z (Q3 (Q4 (Q2 [5,8,7,0,1] (S':=V5 ..) Z (Q5 (Q1 ?_)))))))))))))
 refine wP Z (wP Z (wP Z ?_))
 obtain ⟨aF,aW,hm⟩:=Q6 hm
 refine Q1F 0 j Z Z Z Zq Z Z Z Z Z aW Q66 Q2S (fun bA bB b7 b1=>(Q22 Q36 1 Z (fun aX aY _=>?_)))
 subst aY
 refine Q21 1 0 Z Z Z Zq Z Z Z (cs:=V7 ..) Z Q2S Q5J Z Z ?_
 obtain ⟨bC,aZ,hm⟩:=Q6 hm
 refine Q1R [0,1] [] Z Z Z Zq Z Z Z fn_180 Z Z (Q9D N rc ih aF.kind aF.value.k aF.value.n aF.value.s aF.var aF.op aX.1 aX.2 aF.kids aD q z a0 l1 a1 aA l2 a3 a4 _ aZ) (asK [0,4,5] Z) Z (H':=[]) Z ?_
 rintro _ _ _ ⟨rfl,rfl,rfl⟩
 refine Q3 (Q4 (Q2 [16,5,8,7,0,1] (S':=V6 ..) Z ?_))
 refine Qj Z (fun aH=>?_) (fun aH=>?_)
 replace hm:=QA hm aH
 refine Q2 [5] (S':=[_]) Z (Q5 (Q1 (wP Z (wP Z (Q3 (Q4 (Q2 [4] (S':=[_]) Z (Qb (Qg (Q7 (Q7 (Qg (Q7 ?_)))))))))))))
 have hE:=(Zi hm).symm
 replace hE:=Qv hLu1 hE
 replace hE:=Qv hLj_1 hE
 replace hE:=hE.symm
 subst hE
 refine Ql (Hr:=[_,_]) [0,1] Tryz.results214 (Qc Z) ⟨Z,Z,Z⟩ (asK [0,1] Z) Z Z (.inl Z)
 replace hm:=Qz hm aH
 refine Q2 [8,7,0,1] (S':=V4 ..) Z (Qq (Qh (Q4 (Q1 (wP Z ?_)))))
 obtain ⟨b0,hm⟩:=Qu hm
 refine QH (d:=18) (v':=.int .i64 ((j + 1:Nat):Int)) (S':=V4 ..) Z Z (Q1J (a:=j) (b:=1) b0) (Q1b (S':=V4 ..) Z Z Z Z Z (Q3 ?_))
 have hE:=(Zi hm).symm
 replace hE:=QO hLu1 hE
 refine Q1a (_,j + 1) (Nat.lt_succ_self _) hE [8,7,0,1] Z (asK [5,0,1] Z) Z
 replace hm:=Qz hm aR
 refine Q2 [] (S':=[]) Z (Q1x (Qk (Qk (QJ ?_))))
 have hE:=(Zi hm).symm
 replace hE:=Qv hLu1 hE
 refine Q9 () hE [] Z (asK [1,2] Z) Z
 rintro _ hE
 try dsimp only
 have hm:=QO hLj_1 hE
 try dsimp only at hm
 refine Q5 (Q1 (wP Z (Q3 (Q4 (Qb ?_)))))
 have hE:=(Zi hm).symm
 replace hE:=hE.symm
 subst hE
 refine Ql (Hr:=[_,_]) [0,1] Tryz.results214 (Qc Z) ⟨Z,Z,Z⟩ (asK [0,1] Z) Z Z (.inl Z)
theorem Q7U (N:Nat) (rc:(List Qn) → (List Qp) → Int → Int → Int → Int → Int → ByteArray → Int → Int → (List Qo) → Option (Bool)) (ih : ∀ (qg0:Nat) (qp1:OA) (qc2:Nat) (l0:List Qn) (qp3:OA) (qc4:Nat) (l1:List Qp) (a2:Int) (a3:Int) (a4:Int) (a5:Int) (a6:Int) (a7:ByteArray) (a8:Int) (a9:Int) (qp5:OA) (qc6:Nat) (l10:List Qo) (o0:Bool),rc l0 l1 a2 a3 a4 a5 a6 a7 a8 a9 l10 = some o0 → Q1o Tryz.prog 138 [.pointer (some ⟨qg0,0,none⟩),.agg #[.int .u8 a4,.int .u8 a5,.int .i64 a6,.string a7,.int .i64 a8,.int .u8 a9,.slice qp5 l10.length qc6]] [.sli 2 Qf qp1 qc2 l0,.sli 5 Qe qp3 qc4 l1,.sli 7 QB qp5 qc6 l10] [.blk qg0 [.slice qp1 l0.length qc2,.slice qp3 l1.length qc4,.int .i64 a2,.int .i64 a3] 124] (fun v Φr Hr=>v = .bool o0 ∧ Φr = [.sli 2 Qf qp1 qc2 l0,.sli 5 Qe qp3 qc4 l1] ∧ Hr = [.blk qg0 [.slice qp1 l0.length qc2,.slice qp3 l1.length qc4,.int .i64 a2,.int .i64 a3] 124])) (qp0:OA) (qc1:Nat) (l0:List Qo) (qg2:Nat) (qg3:Nat) (qp4:OA) (qc5:Nat) (l1:List Qn) (qp6:OA) (qc7:Nat) (l2:List Qp) (a3:Int) (a4:Int) (o0:Bool) (hm:Q3N N rc l0 l1 l2 a3 a4 = some o0):Q1o Tryz.prog 179 [.slice qp0 l0.length qc1,.func (.func 180) #[] #[.pointer (some ⟨qg2,0,none⟩)]] [.sli 7 QB qp0 qc1 l0,.sli 2 Qf qp4 qc5 l1,.sli 5 Qe qp6 qc7 l2] [.blk qg2 [.pointer (some ⟨qg3,0,none⟩)] 120,.blk qg3 [.slice qp4 l1.length qc5,.slice qp6 l2.length qc7,.int .i64 a3,.int .i64 a4] 124] (fun v Φr Hr=>v = .bool o0 ∧ Φr = [.sli 2 Qf qp4 qc5 l1,.sli 5 Qe qp6 qc7 l2] ∧ Hr = [.blk qg2 [.pointer (some ⟨qg3,0,none⟩)] 120,.blk qg3 [.slice qp4 l1.length qc5,.slice qp6 l2.length qc7,.int .i64 a3,.int .i64 a4] 124]):=by
 unfold Q3N at hm
 refine QD Tryz.func179 Z Tryz.ntmps179 Z (S:=[_,_]) Z (fun C=>(Q5 (Q1 (wP Z (Q3 (Q4 (Q2 [0,1] (S':=[_,_]) Z (Q5 (Q1 (wP Z (wP Z ?_)))))))))))
 obtain ⟨v7,hc7,hm⟩:=Q6 hm
 refine wC [0,1] [] Z fn_214 Z (Q8T N rc ih qp0 qc1 l0 qg2 qg3 qp4 qc5 l1 qp6 qc7 l2 a3 a4 _ hc7) (asK [0,1,2] Z) Z (H':=[]) Z ?_
 rintro _ _ _ ⟨rfl,rfl,rfl⟩
 refine wP Z (wP Z (Q3 (Q4 (Q2 [4] (S':=[_]) Z (Qb ?_)))))
 have hE:=(Zi hm).symm
 replace hE:=hE.symm
 subst hE
 refine Ql (Hr:=[_,_]) [0,1] Tryz.results179 (Qc Z) ⟨Z,Z,Z⟩ (asK [0,1] Z) Z Z (.inl Z)
theorem Qap (N:Nat) (rc:(List Qn) → (List Qp) → Int → Int → Int → Int → Int → ByteArray → Int → Int → (List Qo) → Option (Bool)) (ih : ∀ (qg0:Nat) (qp1:OA) (qc2:Nat) (l0:List Qn) (qp3:OA) (qc4:Nat) (l1:List Qp) (a2:Int) (a3:Int) (a4:Int) (a5:Int) (a6:Int) (a7:ByteArray) (a8:Int) (a9:Int) (qp5:OA) (qc6:Nat) (l10:List Qo) (o0:Bool),rc l0 l1 a2 a3 a4 a5 a6 a7 a8 a9 l10 = some o0 → Q1o Tryz.prog 138 [.pointer (some ⟨qg0,0,none⟩),.agg #[.int .u8 a4,.int .u8 a5,.int .i64 a6,.string a7,.int .i64 a8,.int .u8 a9,.slice qp5 l10.length qc6]] [.sli 2 Qf qp1 qc2 l0,.sli 5 Qe qp3 qc4 l1,.sli 7 QB qp5 qc6 l10] [.blk qg0 [.slice qp1 l0.length qc2,.slice qp3 l1.length qc4,.int .i64 a2,.int .i64 a3] 124] (fun v Φr Hr=>v = .bool o0 ∧ Φr = [.sli 2 Qf qp1 qc2 l0,.sli 5 Qe qp3 qc4 l1] ∧ Hr = [.blk qg0 [.slice qp1 l0.length qc2,.slice qp3 l1.length qc4,.int .i64 a2,.int .i64 a3] 124])) (qg0:Nat) (qp1:OA) (qc2:Nat) (l0:List Qn) (qp3:OA) (qc4:Nat) (l1:List Qp) (a2:Int) (a3:Int) (qp5:OA) (qc6:Nat) (l4:List Qo) (o0:Bool) (hm:Q6i N rc l0 l1 a2 a3 l4 = some o0):Q1o Tryz.prog 140 [.pointer (some ⟨qg0,0,none⟩),.slice qp5 l4.length qc6] [.sli 2 Qf qp1 qc2 l0,.sli 5 Qe qp3 qc4 l1,.sli 7 QB qp5 qc6 l4] [.blk qg0 [.slice qp1 l0.length qc2,.slice qp3 l1.length qc4,.int .i64 a2,.int .i64 a3] 124] (fun v Φr Hr=>v = .bool o0 ∧ Φr = [.sli 2 Qf qp1 qc2 l0,.sli 5 Qe qp3 qc4 l1] ∧ Hr = [.blk qg0 [.slice qp1 l0.length qc2,.slice qp3 l1.length qc4,.int .i64 a2,.int .i64 a3] 124]):=by
 unfold Q6i at hm
 refine QD Tryz.func140 Z Tryz.ntmps140 Z (S:=[_,_]) Z (fun C=>(Q5 (Q1 (wB Z (fun g2=>(wP Z (Q3 (Q4 (Q2 [2,1] (S':=[_,_]) Z (Q5 (Q1 (wP Z (QY Z Z Z Zq Z Z ?_)))))))))))))
 obtain ⟨v7,hc7,hm⟩:=Q6 hm
 refine wC [0,1] [] Z fn_179 Z (Q7U N rc ih qp5 qc6 l4 g2 qg0 qp1 qc2 l0 qp3 qc4 l1 a2 a3 _ hc7) (asK [2,0,1] Z) Z (H':=[]) Z ?_
 rintro _ _ _ ⟨rfl,rfl,rfl⟩
 refine wP Z (wP Z (Q3 (Q4 (Q2 [4] (S':=[_]) Z (Qb ?_)))))
 have hE:=(Zi hm).symm
 replace hE:=hE.symm
 subst hE
 refine Ql (Hr:=[_]) [1] Tryz.results140 (Qc Z) ⟨Z,Z,Z⟩ (asK [0,1] Z) Z Z (.inl Z)
theorem Qbb (N:Nat) (rc:(List Qn) → (List Qp) → Int → Int → Int → Int → Int → ByteArray → Int → Int → (List Qo) → Option (Bool)) (ih : ∀ (aD:Nat) (z:OA) (a0:Nat) (l0:List Qn) (a1:OA) (aA:Nat) (l1:List Qp) (a2:Int) (a3:Int) (a4:Int) (a5:Int) (a6:Int) (a7:ByteArray) (a8:Int) (a9:Int) (aB:OA) (aC:Nat) (j:List Qo) (o0:Bool),rc l0 l1 a2 a3 a4 a5 a6 a7 a8 a9 j = some o0 → Q1o Tryz.prog 138 [.pointer (some ⟨aD,0,none⟩),.agg #[.int .u8 a4,.int .u8 a5,.int .i64 a6,.string a7,.int .i64 a8,.int .u8 a9,.slice aB j.length aC]] [.sli 2 Qf z a0 l0,.sli 5 Qe a1 aA l1,.sli 7 QB aB aC j] [.blk aD [.slice z l0.length a0,.slice a1 l1.length aA,.int .i64 a2,.int .i64 a3] 124] (fun v Φr Hr=>v = .bool o0 ∧ Φr = [.sli 2 Qf z a0 l0,.sli 5 Qe a1 aA l1] ∧ Hr = [.blk aD [.slice z l0.length a0,.slice a1 l1.length aA,.int .i64 a2,.int .i64 a3] 124])) (aD:Nat) (z:OA) (a0:Nat) (l0:List Qn) (a1:OA) (aA:Nat) (l1:List Qp) (a2:Int) (a3:Int) (a4:Int) (a5:Int) (a6:Int) (a7:ByteArray) (a8:Int) (a9:Int) (aB:OA) (aC:Nat) (j:List Qo) (o0:Bool) (hm:Q72 N rc l0 l1 a2 a3 a4 a5 a6 a7 a8 a9 j = some o0):Q1o Tryz.prog 138 [.pointer (some ⟨aD,0,none⟩),.agg #[.int .u8 a4,.int .u8 a5,.int .i64 a6,.string a7,.int .i64 a8,.int .u8 a9,.slice aB j.length aC]] [.sli 2 Qf z a0 l0,.sli 5 Qe a1 aA l1,.sli 7 QB aB aC j] [.blk aD [.slice z l0.length a0,.slice a1 l1.length aA,.int .i64 a2,.int .i64 a3] 124] (fun v Φr Hr=>v = .bool o0 ∧ Φr = [.sli 2 Qf z a0 l0,.sli 5 Qe a1 aA l1] ∧ Hr = [.blk aD [.slice z l0.length a0,.slice a1 l1.length aA,.int .i64 a2,.int .i64 a3] 124]):=by
 unfold Q72 at hm
 refine QD Tryz.func138 Z Tryz.ntmps138 Z (S:=[_,_]) Z (fun C=>(Q5 (Q1 (wB Z (fun g3=>(wP Z (Q3 (Q4 (Q2 [3,0] (S':=[_,_]) Z (Q5 (Q5 (Q1 (wF Z tF_65_0 (wD 0 0 Z tS_61 tA_61 Z (Q3 ?_)))))))))))))))
 refine Q4 (Q2 [7,3,0] (S':=V3 ..) Z (Qw (Q5 (Q1 (wP Z (wP Z (Q3 (Q4 (Q2 [8,7,3,0] (S':=V4 ..) Z ?_)))))))))
 refine Qj Z (fun aY=>?_) (fun aY=>?_)
 replace hm:=QA hm aY
 refine Q2 [3] (S':=[_]) Z (Q5 (Q1 (QR 0 0 Z Z Z Zq Z Z Z (cs:=V7 ..) Z Q2S Q5J Z Z ?_)))
 obtain ⟨b9,b0,hm⟩:=Q6 hm
 refine wC [] [0,1] Z fn_136 Z (Q4J N a4 a5 a6 a7 a8 a9 aB aC j true false false _ b0) (asK [2] Z) Z (H':=[_,_]) Z ?_
 rintro _ _ _ ⟨rfl,rfl,rfl⟩
 refine wP Z ?_
 refine Qt (d:=12) (S':=V3 ..) Z Z (fun aN=>?_) (fun aN=>?_)
 replace hm:=QA hm aN
 refine wF Z tF_65_1 (QR 0 1 Z Z Z Zq Z Z Z (cs:=V3 ..) Z Q1H Q2u Z Z ?_)
 obtain ⟨bA,b1,hm⟩:=Q6 hm
 refine wC [] [0,1] Z fn_64 Z (Q4K N a5 a6 a7 _ b1) (asK [] Z) Z (H':=[_,_]) Z ?_
 rintro _ _ _ ⟨rfl,rfl,rfl⟩
 refine wP Z (wP Z (Q3 (Q4 (Q2 [4] (S':=[_]) Z (Qb (Qg (Q7 ?_)))))))
 have hE:=(Zi hm).symm
 replace hE:=hE.symm
 subst hE
 refine Ql (Hr:=[_]) [1] Tryz.results138 (Qc Z) ⟨Z,Z,Z⟩ (asK [0,1] Z) Z Z (.inl Z)
 replace hm:=Qz hm aN
 refine wO Z (wO Z (wO Z (wP Z (wP Z (Q3 (Q4 (Q2 [4] (S':=[_]) Z (Qb (Qg (Q7 ?_))))))))))
 have hE:=(Zi hm).symm
 replace hE:=hE.symm
 subst hE
 refine Ql (Hr:=[_]) [1] Tryz.results138 (Qc Z) ⟨Z,Z,Z⟩ (asK [0,1] Z) Z Z (.inl Z)
 replace hm:=Qz hm aY
 refine Q2 [7,3,0] (S':=V3 ..) Z (Q5 (Q1 (wP Z (wP Z (Q3 (Q4 (Q2 [17,7,3,0] (S':=V4 ..) Z ?_)))))))
 refine Qj Z (fun aO=>?_) (fun aO=>?_)
 replace hm:=QA hm aO
 refine Q2 [3,0] (S':=[_,_]) Z (Q5 ?_)
 obtain ⟨bB,aP,hm⟩:=Q6 hm
 rcases QG hm with ⟨aH,hm⟩ | ⟨aH,hm⟩
 rcases QG hm with ⟨aQ,hm⟩ | ⟨aQ,hm⟩
 refine Q18 [0,2,3,4,5,6,7,8,9,10,11,12,13,14,15] Z Z (fun hok=>(Qm hok 0 0 0 Z Z Z Zq Z Z Z Z (cs:=V7 ..) Z Q2S Q5J Z Z (xS hok 1 Z (wC [] [0,1] Z fn_136 Z (Q4J N a4 a5 a6 a7 a8 a9 aB aC j false true false _ aP) (asK [2] Z) Z (H':=[_,_]) Z ?_))))
 rintro _ _ _ ⟨rfl,rfl,rfl⟩
 refine Q3 (QV [0,1,2] [] Z Z (xP hok 2 Z (Q1D (d:=21) (v':=.bool true) (S':=V4 ..) Z Z (Q1l aH) (Q8 hok 3 Z Z Z Zq Z Z Z Q9R (Qm hok 4 0 4 Z Z Z Zq Z Z Z Z (cs:=[_]) Z Q1A Q1N Z Z (xP hok 5 Z (xP hok 6 Z (xP hok 7 Z (Q1D (d:=26) (v':=.bool true) (S':=V9 ..) Z Z (Q1l aQ) (Q8 hok 8 Z Z Z Zq Z Z Z Q9R (Qm hok 9 0 4 Z Z Z Zq Z Z Z Z (cs:=[_]) Z Q1A Q1N Z Z (xP hok 10 Z (xP hok 11 Z ?_)))))))))))))
 refine Q8 hok 12 Z Z Z Zq Z Z Z Q5z (Qm hok 13 1 2 Z Z Z Zq Z Z Z Z (cs:=[_]) Z Q1A Q1N Z Z (xP hok 14 Z (xP hok 15 Z (xS hok 16 Z (wP Z (Q3 (QV [0,1,2] [] Z Z (Q11 hok Z (Q4 (Q2 [4] (S':=[_]) Z (Qb (Qg (Q7 ?_)))))))))))))
 have hE:=(Zi hm).symm
 replace hE:=hE.symm
 subst hE
 refine Ql (Hr:=[_]) [1] Tryz.results138 (Qc Z) ⟨Z,Z,Z⟩ (asK [0,1] Z) Z Z (.inl Z)
 refine Q18 [0,2,3,4,5,6,7,8,9,10,11,12,13,14,15] Z Z (fun hok=>(Qm hok 0 0 0 Z Z Z Zq Z Z Z Z (cs:=V7 ..) Z Q2S Q5J Z Z (xS hok 1 Z (wC [] [0,1] Z fn_136 Z (Q4J N a4 a5 a6 a7 a8 a9 aB aC j false true false _ aP) (asK [2] Z) Z (H':=[_,_]) Z ?_))))
 rintro _ _ _ ⟨rfl,rfl,rfl⟩
 refine Q3 (QV [0,1,2] [] Z Z (xP hok 2 Z (Q1D (d:=21) (v':=.bool true) (S':=V4 ..) Z Z (Q1l aH) (Q8 hok 3 Z Z Z Zq Z Z Z Q9R (Qm hok 4 0 4 Z Z Z Zq Z Z Z Z (cs:=[_]) Z Q1A Q1N Z Z (xP hok 5 Z (xP hok 6 Z (xP hok 7 Z (Q1D (d:=26) (v':=.bool false) (S':=V9 ..) Z Z (Q1l aQ) (xO hok 8 Z (xO hok 9 Z (xO hok 10 Z (xO hok 11 Z ?_)))))))))))))
 refine xO hok 12 Z (xO hok 13 Z (xO hok 14 Z (xP hok 15 Z (xS hok 16 Z (wP Z (Q3 (QV [0,1,2] [] Z Z (Q11 hok Z (Q4 (Q2 [4] (S':=[_]) Z (Qb (Qg (Q7 ?_)))))))))))))
 have hE:=(Zi hm).symm
 replace hE:=hE.symm
 subst hE
 refine Ql (Hr:=[_]) [1] Tryz.results138 (Qc Z) ⟨Z,Z,Z⟩ (asK [0,1] Z) Z Z (.inl Z)
 refine Q18 [0,2,3,4,5,6,7,8,9,10,11,12,13,14,15] Z Z (fun hok=>(Qm hok 0 0 0 Z Z Z Zq Z Z Z Z (cs:=V7 ..) Z Q2S Q5J Z Z (xS hok 1 Z (wC [] [0,1] Z fn_136 Z (Q4J N a4 a5 a6 a7 a8 a9 aB aC j false true false _ aP) (asK [2] Z) Z (H':=[_,_]) Z ?_))))
 rintro _ _ _ ⟨rfl,rfl,rfl⟩
 refine Q3 (QV [0,1,2] [] Z Z (xP hok 2 Z (Q1D (d:=21) (v':=.bool false) (S':=V4 ..) Z Z (Q1l aH) (xO hok 3 Z (xO hok 4 Z (xO hok 5 Z (xP hok 6 Z (xP hok 7 Z (xO hok 8 Z (xO hok 9 Z (xO hok 10 Z (xO hok 11 Z (xO hok 12 Z ?_)))))))))))))
 refine xO hok 13 Z (xO hok 14 Z (xP hok 15 Z (xS hok 16 Z (wP Z (Q3 (QV [0,1,2] [] Z Z (Q11 hok Z (Q4 (Q2 [4] (S':=[_]) Z (Qb (Qg (Q7 ?_))))))))))))
 have hE:=(Zi hm).symm
 replace hE:=hE.symm
 subst hE
 refine Ql (Hr:=[_]) [1] Tryz.results138 (Qc Z) ⟨Z,Z,Z⟩ (asK [0,1] Z) Z Z (.inl Z)
 replace hm:=Qz hm aO
 refine Q2 [7,3,0] (S':=V3 ..) Z (Q5 (Q1 (wP Z (wP Z (Q3 (Q4 (Q2 [35,3,0] (S':=V3 ..) Z ?_)))))))
 refine Qj Z (fun aR=>?_) (fun aR=>?_)
 replace hm:=QA hm aR
 refine Q2 [3,0] (S':=[_,_]) Z (Q5 (Q1 (wP Z (Q3 (Q4 (Q5 ?_))))))
 obtain ⟨b2,hm,hLj_1⟩:=Q6 hm
 unfold Q8o at hm
 refine QI (σ:=Nat) (fun q=>b2 = q) (fun q=>[(3,.pointer (some ⟨g3,0,none⟩)),(0,.pointer (some ⟨aD,0,none⟩)),(5,.int .i64 ((q:Nat):Int))]) (fun q=>[.sli 7 QB aB aC j,.sli 2 Qf z a0 l0,.sli 5 Qe a1 aA l1]) (fun q=>[.blk g3 [.int .u8 a4,.int .u8 a5,.int .i64 a6,.string a7,.int .i64 a8,.int .u8 a9,.slice aB j.length aC] 65,.blk aD [.slice z l0.length a0,.slice a1 l1.length aA,.int .i64 a2,.int .i64 a3] 124]) ?_ ?_
 refine Q5 ?_
 obtain ⟨b3,hm,hLj_2⟩:=Q6 hm
 refine QI (σ:=Bool) (fun s=>b3 = s) (fun s=>[(3,.pointer (some ⟨g3,0,none⟩)),(0,.pointer (some ⟨aD,0,none⟩)),(5,.int .i64 2),(44,.bool s)]) (fun s=>[.sli 7 QB aB aC j,.sli 2 Qf z a0 l0,.sli 5 Qe a1 aA l1]) (fun s=>[.blk g3 [.int .u8 a4,.int .u8 a5,.int .i64 a6,.string a7,.int .i64 a8,.int .u8 a9,.slice aB j.length aC] 65,.blk aD [.slice z l0.length a0,.slice a1 l1.length aA,.int .i64 a2,.int .i64 a3] 124]) ?_ ?_
 refine Q1 (wF Z Q96 (wD 0 5 Z tS_62 tA_62 Z (wP Z (wP Z ?_))))
 refine Qt (d:=40) (S':=V6 ..) Z Z (fun aS=>?_) (fun aS=>?_)
 replace hm:=QA hm aS
 refine wO Z (wO Z (wO Z (wP Z (Q3 ?_))))
 have hE:=(Zi hm).symm
 refine Q9 true hE [3,0,5,44] Z (asK [2,0,1] Z) Z
 replace hm:=Qz hm aS
 refine wF Z Q96 (wD 0 5 Z tS_62 tA_62 Z (wP Z (wP Z (Q3 ?_))))
 have hE:=(Zi hm).symm
 refine Q9 (a9 == 11) hE [3,0,5,44] Z (asK [2,0,1] Z) Z
 rintro s hE
 try dsimp only
 have hm:=hLj_2
 rw [hE] at hm
 refine Qj Z (fun aT=>?_) (fun aT=>?_)
 replace hm:=QA hm aT
 refine Q2 [3,0] (S':=[_,_]) Z (Q1 (wP Z (Q3 ?_)))
 have hE:=(Zi hm).symm
 refine Q9 1 hE [3,0,5] Z (asK [0,1,2] Z) Z
 replace hm:=Qz hm aT
 refine Q2 [3,0,5] (S':=V3 ..) Z (Qq ?_)
 have hE:=(Zi hm).symm
 refine Q9 2 hE [3,0,5] Z (asK [0,1,2] Z) Z
 rintro q hE
 try dsimp only
 have hm:=hLj_1
 rw [hE] at hm
 refine Q5 ?_
 obtain ⟨b4,hm,hLj_3⟩:=Q6 hm
 unfold Q8p at hm
 refine QI (σ:=Bool) (fun aE=>b4 = aE) (fun aE=>[(4,.bool aE)]) (fun aE=>[.sli 2 Qf z a0 l0,.sli 5 Qe a1 aA l1]) (fun aE=>[.blk aD [.slice z l0.length a0,.slice a1 l1.length aA,.int .i64 a2,.int .i64 a3] 124]) ?_ ?_
 refine Q1 (QR 0 0 Z Z Z Zq Z Z Z (cs:=V7 ..) Z Q2S Q5J Z Z ?_)
 obtain ⟨bC,b5,hm⟩:=Q6 hm
 refine wC [] [0,1] Z fn_136 Z (Q4J N a4 a5 a6 a7 a8 a9 aB aC j false false true _ b5) (asK [0] Z) Z (H':=[_,_]) Z ?_
 rintro _ _ _ ⟨rfl,rfl,rfl⟩
 refine wP Z ?_
 refine Qt (d:=47) (S':=V5 ..) Z Z (fun aU=>?_) (fun aU=>?_)
 replace hm:=QA hm aU
 refine wF Z Q96 (wD 0 5 Z tS_62 tA_62 Z (wP Z (wP Z (wP Z ?_))))
 refine Qt (d:=52) (S':=V10 ..) Z Z (fun aV=>?_) (fun aV=>?_)
 replace hm:=QA hm aV
 refine wF Z Q96 (wD 0 5 Z tS_62 tA_62 Z (wP Z (wP Z (wP Z ?_))))
 refine Qt (d:=57) (S':=V15 ..) Z Z (fun aW=>?_) (fun aW=>?_)
 replace hm:=QA hm aW
 refine wF Z QaM (wD 0 6 Z Q92 Q9s Z (wN Z Q66 (wP Z (wP Z (QH (d:=62) (v':=.bool (j.length == q)) (S':=V20 ..) Z Z (Q3c (a:=j.length) (b:=q)) (wP Z (wP Z ?_)))))))
 refine Qt (d:=64) (S':=V22 ..) Z Z (fun aX=>?_) (fun aX=>?_)
 replace hm:=QA hm aX
 refine wP Z (wF Z QaM (wD 0 6 Z Q92 Q9s Z ?_))
 obtain ⟨b8,b6,hm⟩:=Q6 hm
 refine wC [1] [0] Z fn_140 Z (Qap N rc ih aD z a0 l0 a1 aA l1 a2 a3 aB aC j _ b6) (asK [1,2,0] Z) Z (H':=[_]) Z ?_
 rintro _ _ _ ⟨rfl,rfl,rfl⟩
 refine wP Z (wP Z (Q3 ?_))
 have hE:=(Zi hm).symm
 refine Qs [0] Z (H':=[_]) Z ?_
 refine Q9 b8 hE [4] Z (asK [0,1] Z) Z
 replace hm:=Qz hm aX
 refine wO Z (wO Z (wO Z (wO Z (wP Z (wP Z (Q3 ?_))))))
 have hE:=(Zi hm).symm
 refine Qs [1] Z (H':=[_]) Z ?_
 refine Q9 false hE [4] Z (asK [1,2] Z) Z
 replace hm:=Qz hm aW
 refine wO Z (wO Z (wO Z (wO Z (wO Z (wP Z (wP Z (wO Z (wO Z (wO Z (wO Z (wP Z (wP Z (Q3 ?_)))))))))))))
 have hE:=(Zi hm).symm
 refine Qs [1] Z (H':=[_]) Z ?_
 refine Q9 false hE [4] Z (asK [1,2] Z) Z
 replace hm:=Qz hm aV
 refine wO Z (wO Z (wO Z (wP Z (wP Z (wO Z (wO Z (wO Z (wO Z (wO Z (wP Z (wP Z (wO Z (wO Z ?_)))))))))))))
 refine wO Z (wO Z (wP Z (wP Z (Q3 ?_))))
 have hE:=(Zi hm).symm
 refine Qs [1] Z (H':=[_]) Z ?_
 refine Q9 false hE [4] Z (asK [1,2] Z) Z
 replace hm:=Qz hm aU
 refine wO Z (wO Z (wO Z (wP Z (wP Z (wO Z (wO Z (wO Z (wP Z (wP Z (wO Z (wO Z (wO Z (wO Z ?_)))))))))))))
 refine wO Z (wP Z (wP Z (wO Z (wO Z (wO Z (wO Z (wP Z (wP Z (Q3 ?_)))))))))
 have hE:=(Zi hm).symm
 refine Qs [1] Z (H':=[_]) Z ?_
 refine Q9 false hE [4] Z (asK [1,2] Z) Z
 rintro aE hE
 try dsimp only
 have hm:=hLj_3
 rw [hE] at hm
 refine Qb (Qg (Q7 ?_))
 have hE:=(Zi hm).symm
 replace hE:=hE.symm
 subst hE
 refine Ql (Hr:=[_]) [0] Tryz.results138 (Qc Z) ⟨Z,Z,Z⟩ (asK [0,1] Z) Z Z (.inl Z)
 replace hm:=Qz hm aR
 refine Q2 [] (S':=[]) Z (Qq (Qh (Q4 (Q5 (Q1 (wP Z (Q3 (Q4 (Qb ?_)))))))))
 have hE:=(Zi hm).symm
 replace hE:=hE.symm
 subst hE
 refine Ql (Hr:=[_]) [1] Tryz.results138 (Qc Z) ⟨Z,Z,Z⟩ (asK [0,1] Z) Z Z (.inl Z)
theorem Q93 : ∀ (N:Nat),∀ (qg0:Nat) (qp1:OA) (qc2:Nat) (l0:List Qn) (qp3:OA) (qc4:Nat) (l1:List Qp) (a2:Int) (a3:Int) (a4:Int) (a5:Int) (a6:Int) (a7:ByteArray) (a8:Int) (a9:Int) (qp5:OA) (qc6:Nat) (l10:List Qo) (o0:Bool),Q4O N l0 l1 a2 a3 a4 a5 a6 a7 a8 a9 l10 = some o0 → Q1o Tryz.prog 138 [.pointer (some ⟨qg0,0,none⟩),.agg #[.int .u8 a4,.int .u8 a5,.int .i64 a6,.string a7,.int .i64 a8,.int .u8 a9,.slice qp5 l10.length qc6]] [.sli 2 Qf qp1 qc2 l0,.sli 5 Qe qp3 qc4 l1,.sli 7 QB qp5 qc6 l10] [.blk qg0 [.slice qp1 l0.length qc2,.slice qp3 l1.length qc4,.int .i64 a2,.int .i64 a3] 124] (fun v Φr Hr=>v = .bool o0 ∧ Φr = [.sli 2 Qf qp1 qc2 l0,.sli 5 Qe qp3 qc4 l1] ∧ Hr = [.blk qg0 [.slice qp1 l0.length qc2,.slice qp3 l1.length qc4,.int .i64 a2,.int .i64 a3] 124]):=by
 intro N
 induction N with
 | zero=>intro qg0 qp1 qc2 l0 qp3 qc4 l1 a2 a3 a4 a5 a6 a7 a8 a9 qp5 qc6 l10 o0 hm; cases hm
 | succ N ih=>intro qg0 qp1 qc2 l0 qp3 qc4 l1 a2 a3 a4 a5 a6 a7 a8 a9 qp5 qc6 l10 o0 hm; exact Qbb N (Q4O N) ih qg0 qp1 qc2 l0 qp3 qc4 l1 a2 a3 a4 a5 a6 a7 a8 a9 qp5 qc6 l10 o0 hm
theorem Qbv (N:Nat) (aD:Nat) (a1:OA) (a6:Nat) (l0:List Qn) (aA:OA) (aB:Nat) (l1:List Qp) (a2:Int) (a3:Int) (a4:Int) (a5:Int) (aI:OA) (aJ:Nat) (l6:List Q3B) (a7:Int) (a8:Int) (a9:Int) (aN:ByteArray) (aO:Int) (aP:Int) (aG:OA) (aH:Nat) (aE:List Qo) (o0:Bool) (o1:Int) (o2:Int) (hm:Q7H N l0 l1 a2 a3 a4 a5 l6 a7 a8 a9 aN aO aP aE = some (o0,o1,o2)):Q1o Tryz.prog 102 [.pointer (some ⟨aD,0,none⟩),.agg #[.int .u8 a4,.int .i64 a5,.slice aI l6.length aJ,.int .u8 a7,.int .u8 a8,.int .i64 a9,.string aN,.int .i64 aO,.int .u8 aP,.slice aG aE.length aH]] [.sli 2 Qf a1 a6 l0,.sli 5 Qe aA aB l1,.sli 5 Q2x aI aJ l6,.sli 7 QB aG aH aE] [.blk aD [.slice a1 l0.length a6,.slice aA l1.length aB,.int .i64 a2,.int .i64 a3] 124] (fun v Φr Hr=>v = .bool o0 ∧ Φr = [.sli 2 Qf a1 a6 l0,.sli 5 Qe aA aB l1] ∧ Hr = [.blk aD [.slice a1 l0.length a6,.slice aA l1.length aB,.int .i64 o1,.int .i64 o2] 124]):=by
 unfold Q7H at hm
 refine QD Tryz.func102 Z Tryz.ntmps102 Z (S:=[_,_]) Z (fun C=>(Q5 (Q1 (wB Z (fun g3=>(wP Z (Q3 (Q4 (Q2 [3,0] (S':=[_,_]) Z (Q5 (Q5 (Q1 (wF Z Q9S (wD 0 0 Z tS_53 tA_53 Z (Q3 ?_)))))))))))))))
 refine Q4 (Q2 [8,3,0] (S':=V3 ..) Z (Qw (Q5 ?_)))
 obtain ⟨b9,hm,hLj_1⟩:=Q6 hm
 refine QI (σ:=Bool) (fun aF=>b9 = aF) (fun aF=>[(8,.int .u8 a4),(3,.pointer (some ⟨g3,0,none⟩)),(0,.pointer (some ⟨aD,0,none⟩)),(9,.bool aF)]) (fun aF=>[.sli 5 Q2x aI aJ l6,.sli 7 QB aG aH aE,.sli 2 Qf a1 a6 l0,.sli 5 Qe aA aB l1]) (fun aF=>[.blk g3 [.int .u8 a4,.int .i64 a5,.slice aI l6.length aJ,.int .u8 a7,.int .u8 a8,.int .i64 a9,.string aN,.int .i64 aO,.int .u8 aP,.slice aG aE.length aH] 67,.blk aD [.slice a1 l0.length a6,.slice aA l1.length aB,.int .i64 a2,.int .i64 a3] 124]) ?_ ?_
 refine Q5 (Q1 (wP Z (wP Z (Q3 (Q4 (Q2 [9,8,3,0] (S':=V4 ..) Z ?_))))))
 refine Qj Z (fun aQ=>?_) (fun aQ=>?_)
 replace hm:=QA hm aQ
 refine Qq ?_
 have hE:=(Zi hm).symm
 refine Q9 (a4 == 1) hE [8,3,0,9] Z (asK [2,3,0,1] Z) Z
 replace hm:=Qz hm aQ
 refine Q2 [8,3,0] (S':=V3 ..) Z (Q1 (wP Z (wP Z (Q3 ?_))))
 have hE:=(Zi hm).symm
 refine Q9 (a4 == 2) hE [8,3,0,9] Z (asK [2,3,0,1] Z) Z
 rintro aF hE
 try dsimp only
 have hm:=hLj_1
 rw [hE] at hm
 refine Qj Z (fun aQ=>?_) (fun aQ=>?_)
 replace hm:=QA hm aQ
 refine Q2 [3,0] (S':=[_,_]) Z (Q5 (Q5 ?_))
 obtain ⟨bA,hm,hLj_2⟩:=Q6 hm
 unfold Q8n at hm
 refine QI (σ:=Bool) (fun aC=>bA = aC) (fun aC=>[(3,.pointer (some ⟨g3,0,none⟩)),(0,.pointer (some ⟨aD,0,none⟩)),(31,.bool aC)]) (fun aC=>[.sli 5 Q2x aI aJ l6,.sli 7 QB aG aH aE,.sli 2 Qf a1 a6 l0,.sli 5 Qe aA aB l1]) (fun aC=>[.blk g3 [.int .u8 a4,.int .i64 a5,.slice aI l6.length aJ,.int .u8 a7,.int .u8 a8,.int .i64 a9,.string aN,.int .i64 aO,.int .u8 aP,.slice aG aE.length aH] 67,.blk aD [.slice a1 l0.length a6,.slice aA l1.length aB,.int .i64 a2,.int .i64 a3] 124]) ?_ ?_
 refine Q1 (wP Z (wF Z tF_67_1 (wD 0 1 Z Q1A Q1N Z (wF Z QaN (wD 0 2 Z tS_60 tA_60 Z (wN Z tE_60 ?_))))))
 obtain ⟨bS,bB,hm⟩:=Q6 hm
 refine wC [1] [0] Z fn_135 Z (Q8B N aD a1 a6 l0 aA aB l1 a2 a3 a5 ((l6.length:Nat):Int) _ bB) (asK [2,3] Z) Z (H':=[_]) Z ?_
 rintro _ _ _ ⟨rfl,rfl,rfl⟩
 refine wP Z (wP Z ?_)
 refine Qt (d:=20) (S':=V10 ..) Z Z (fun aS=>?_) (fun aS=>?_)
 replace hm:=QA hm aS
 refine wO Z (wO Z (wO Z (wO Z (wP Z (wP Z (wO Z (wO Z (wO Z (wO Z (wP Z (Q3 ?_)))))))))))
 have hE:=(Zi hm).symm
 refine Qs [1,0] Z (H':=[_,_]) Z ?_
 refine Q9 true hE [3,0,31] Z (asK [2,3,0,1] Z) Z
 replace hm:=Qz hm aS
 refine wF Z tF_67_3 (wF Z tF_65_0 (wD 1 3 Z tS_61 tA_61 Z (wP Z (wP Z (wP Z ?_)))))
 refine Qt (d:=26) (S':=V16 ..) Z Z (fun aT=>?_) (fun aT=>?_)
 replace hm:=QA hm aT
 refine wO Z (wO Z (wO Z (wO Z (wP Z (Q3 ?_)))))
 have hE:=(Zi hm).symm
 refine Qs [1,0] Z (H':=[_,_]) Z ?_
 refine Q9 true hE [3,0,31] Z (asK [2,3,0,1] Z) Z
 replace hm:=Qz hm aT
 refine wF Z tF_67_3 (QR 1 3 Z Z Z Zq Z Z Z (cs:=V7 ..) Z Q2S Q5J Z Z ?_)
 obtain ⟨bL,bC,hm⟩:=Q6 hm
 refine wC [] [0,1] Z fn_136 Z (Q4J N a7 a8 a9 aN aO aP aG aH aE false false false _ bC) (asK [3] Z) Z (H':=[_,_]) Z ?_
 rintro _ _ _ ⟨rfl,rfl,rfl⟩
 refine wP Z (wP Z (Q3 ?_))
 have hE:=(Zi hm).symm
 refine Qs [1,0] Z (H':=[_,_]) Z ?_
 refine Q9 (!bL) hE [3,0,31] Z (asK [2,3,0,1] Z) Z
 rintro aC hE
 try dsimp only
 have hm:=hLj_2
 rw [hE] at hm
 refine Qj Z (fun aU=>?_) (fun aU=>?_)
 replace hm:=QA hm aU
 refine Q2 [] (S':=[]) Z (Q5 (Q1 (wP Z (Q3 (Q4 (Qb (Q7 (Qg (Q7 ?_)))))))))
 have hE:=(Zi hm).symm
 obtain ⟨hE0,hF1⟩:=Prod.mk.inj hE
 obtain ⟨hE1,hE2⟩:=Prod.mk.inj hF1
 clear hE hF1
 replace hE0:=hE0.symm
 subst hE0
 replace hE1:=hE1.symm
 subst hE1
 replace hE2:=hE2.symm
 subst hE2
 refine Ql (Hr:=[_]) [1] Tryz.results102 (Qc Z) ⟨Z,Z,Z⟩ (asK [2,3] Z) Z Z (.inl Z)
 replace hm:=Qz hm aU
 refine Q2 [3,0] (S':=[_,_]) Z (Qq (Q4 (Q5 ?_)))
 obtain ⟨b6,hm,hLj_3⟩:=Q1w hm
 refine QI (σ:=Int) (fun q=>b6 = .inl q) (fun q=>[(3,.pointer (some ⟨g3,0,none⟩)),(0,.pointer (some ⟨aD,0,none⟩))]) (fun q=>[.sli 5 Q2x aI aJ l6,.sli 7 QB aG aH aE,.sli 2 Qf a1 a6 l0,.sli 5 Qe aA aB l1]) (fun q=>[.blk g3 [.int .u8 a4,.int .i64 a5,.slice aI l6.length aJ,.int .u8 a7,.int .u8 a8,.int .i64 a9,.string aN,.int .i64 aO,.int .u8 aP,.slice aG aE.length aH] 67,.blk aD [.slice a1 l0.length a6,.slice aA l1.length aB,.int .i64 q,.int .i64 a3] 124]) ?_ ?_
 refine Q5 (Q1 (wF Z QaN (wD 0 2 Z tS_60 tA_60 Z (wN Z tE_60 (wP Z (Q3 (Q4 (Q2 [35,34,33,3,0] (S':=V5 ..) Z (Qw (Q1E (σ:=Nat × Nat × Int) (fun (aR,z,j)=>Q1M (Q6B N l6 l0 l1 a3 a4) aR (z,j) = some b6) (fun (aR,z,j)=>aR) (fun (aR,z,j)=>[(35,.int .i64 ((z:Nat):Int)),(34,.int .i64 ((l6.length:Nat):Int)),(33,.slice aI l6.length aJ),(3,.pointer (some ⟨g3,0,none⟩)),(0,.pointer (some ⟨aD,0,none⟩))]) (fun (aR,z,j)=>[.sli 5 Q2x aI aJ l6,.sli 7 QB aG aH aE,.sli 2 Qf a1 a6 l0,.sli 5 Qe aA aB l1]) (fun (aR,z,j)=>[.blk g3 [.int .u8 a4,.int .i64 a5,.slice aI l6.length aJ,.int .u8 a7,.int .u8 a8,.int .i64 a9,.string aN,.int .i64 aO,.int .u8 aP,.slice aG aE.length aH] 67,.blk aD [.slice a1 l0.length a6,.slice aA l1.length aB,.int .i64 j,.int .i64 a3] 124]) (N,0,a2) hm [35,34,33,3,0] Z (asK [0,1,2,3] Z) Z (fun s_ hm=>?_)))))))))))
 obtain ⟨aR,z,j⟩:=s_
 try dsimp only at hm ⊢
 obtain ⟨bT,bU,bD,hq,hLu1⟩:=Q1e hm
 clear hm
 subst bD
 replace hm:=hq
 clear hq
 unfold Q6B at hm
 try dsimp only at hm
 refine Q5 (Q1 (wP Z (QH (d:=36) (v':=.bool (decide (z < l6.length))) (S':=V5 ..) Z Z (Q2z (a:=z) (b:=l6.length)) (Q3 (Q4 (Q5 ?_))))))
 refine Qj Z (fun aV=>?_) (fun aV=>?_)
 replace hm:=QA hm aV
 refine Q2 [35,34,33,3,0] (S':=V5 ..) Z (Qq (Q4 (Q5 (Qw (Q5 (Q1 ?_))))))
 obtain ⟨aW,bE,hm⟩:=Q6 hm
 refine Q1F 0 z Z Z Z Zq Z Z Z Z Z bE tE_60 Q9A (fun bV bW bR bM=>(Q22 R_ArgD_opens 1 Z (fun bX bF _=>?_)))
 subst bF
 refine Q21 0 0 Z Z Z Zq Z Z Z (cs:=V5 ..) Z Q9A tA_59 Z Z (QE Z Z Z Zq Z tZ_59 Z (fun g6=>(wS 0 0 Z Q9A (all':=V5 ..) Z (H':=V3 ..) Z (Q3 (Q4 (Q2 [6,35,34,33,3,0] (S':=V6 ..) Z (Q5 (Q1 (wP Z (QR 0 0 Z Z Z Zq Z Z Z (cs:=V5 ..) Z Q9A tA_59 Z Z (wF Z Q9S (wD 1 0 Z tS_53 tA_53 Z (wP Z ?_)))))))))))))
 obtain ⟨⟨bN,b8⟩,bG,hm⟩:=Q6 hm
 try dsimp only at hm
 refine wC [2] [0,1] Z fn_137 Z (QbD N aD a1 a6 l0 aA aB l1 j a3 aW.k aW.var aW.v.k aW.v.n aW.v.s (a4 == 1) _ _ bG) (asK [4,5] Z) Z (H':=[_,_]) Z ?_
 rintro _ _ _ ⟨rfl,rfl,rfl⟩
 refine wP Z (Q3 (Q4 (Q2 [45,35,34,33,3,0] (S':=V6 ..) Z ?_)))
 refine Qj Z (fun aX=>?_) (fun aX=>?_)
 replace hm:=QA hm aX
 refine Q2 [] (S':=[]) Z (Q5 (Q1 (wP Z (Q3 (Q4 (Qb (Qg (Q7 (Q7 (Qg (Q7 (Qg (Q7 ?_)))))))))))))
 have hE:=(Zi hm).symm
 replace hE:=Qv hLu1 hE
 replace hE:=Qv hLj_3 hE
 obtain ⟨hE0,hF1⟩:=Prod.mk.inj hE
 obtain ⟨hE1,hE2⟩:=Prod.mk.inj hF1
 clear hE hF1
 replace hE0:=hE0.symm
 subst hE0
 replace hE1:=hE1.symm
 subst hE1
 replace hE2:=hE2.symm
 subst hE2
 refine Ql (Hr:=[_]) [0] Tryz.results102 (Qc Z) ⟨Z,Z,Z⟩ (asK [0,1] Z) Z Z (.inl Z)
 replace hm:=Qz hm aX
 refine Q2 [35,34,33,3,0] (S':=V5 ..) Z (Qq (Qh (Q4 (Q1 (wP Z ?_)))))
 obtain ⟨bH,hm⟩:=Qu hm
 refine QH (d:=46) (v':=.int .i64 ((z + 1:Nat):Int)) (S':=V5 ..) Z Z (Q1J (a:=z) (b:=1) bH) (Q1b (S':=V5 ..) Z Z Z Z Z (Q3 ?_))
 have hE:=(Zi hm).symm
 replace hE:=QO hLu1 hE
 refine Qs [2,0] Z (H':=[_,_]) Z ?_
 refine Q1a (_,z + 1,b8) (Nat.lt_succ_self _) hE [35,34,33,3,0] Z (asK [4,5,0,1] Z) Z
 replace hm:=Qz hm aV
 refine Q2 [3,0] (S':=[_,_]) Z (Q1x (Qk (Qk (QJ ?_))))
 have hE:=(Zi hm).symm
 replace hE:=Qv hLu1 hE
 refine Q9 j hE [3,0] Z (asK [0,1,2,3] Z) Z
 rintro q hE
 try dsimp only
 have hm:=QO hLj_3 hE
 refine Q5 ?_
 obtain ⟨bI,hm,hLj_4⟩:=Q6 hm
 refine QI (σ:=Int) (fun a0=>bI = a0) (fun a0=>[]) (fun a0=>[.sli 2 Qf a1 a6 l0,.sli 5 Qe aA aB l1]) (fun a0=>[.blk aD [.slice a1 l0.length a6,.slice aA l1.length aB,.int .i64 q,.int .i64 a0] 124]) ?_ ?_
 refine Q5 (Q1 (wF Z Q9S (wD 0 0 Z tS_53 tA_53 Z (wP Z (Q3 (Q4 (Q2 [49,0] (S':=[_,_]) Z ?_)))))))
 refine Qj Z (fun aY=>?_) (fun aY=>?_)
 replace hm:=QA hm aY
 refine Q2 [0] (S':=[_]) Z (Q1 (wP Z (wP Z (wF Z tF_124_2 (wD 1 3 Z Q1A Q1N Z (wP Z ?_))))))
 obtain ⟨bJ,hm⟩:=Qu hm
 refine QH (d:=54) (v':=.int .i64 (a3 + 1)) (S':=V5 ..) Z Z (i64_in bJ) (wP Z (wF Z tF_124_2 (wS 1 3 Z Q1A (all':=V4 ..) Z (H':=[_,_]) Z (Q3 ?_))))
 have hE:=(Zi hm).symm
 refine Qs [1] Z (H':=[_]) Z ?_
 refine Q9 (a3 + 1) hE [] Z (asK [2,3] Z) Z
 replace hm:=Qz hm aY
 refine Q2 [] (S':=[]) Z (Qq ?_)
 have hE:=(Zi hm).symm
 refine Qs [1] Z (H':=[_]) Z ?_
 refine Q9 a3 hE [] Z (asK [2,3] Z) Z
 rintro a0 hE
 try dsimp only
 have hm:=hLj_4
 rw [hE] at hm
 refine Q5 (Q1 (wP Z (Q3 (Q4 (Qb (Qg (Q7 ?_)))))))
 have hE:=(Zi hm).symm
 obtain ⟨hE0,hF1⟩:=Prod.mk.inj hE
 obtain ⟨hE1,hE2⟩:=Prod.mk.inj hF1
 clear hE hF1
 replace hE0:=hE0.symm
 subst hE0
 replace hE1:=hE1.symm
 subst hE1
 replace hE2:=hE2.symm
 subst hE2
 refine Ql (Hr:=[_]) [0] Tryz.results102 (Qc Z) ⟨Z,Z,Z⟩ (asK [0,1] Z) Z Z (.inl Z)
 replace hm:=Qz hm aQ
 refine Q2 [8,3,0] (S':=V3 ..) Z (Q5 (Q1 (wP Z (wP Z (Q3 (Q4 (Q2 [57,3,0] (S':=V3 ..) Z ?_)))))))
 refine Qj Z (fun aZ=>?_) (fun aZ=>?_)
 replace hm:=QA hm aZ
 refine Q2 [3,0] (S':=[_,_]) Z (Q5 (Q1 (wF Z tF_67_1 (wD 0 1 Z Q1A Q1N Z (wP Z (wP Z ?_))))))
 refine Qt (d:=62) (S':=V5 ..) Z Z (fun b0=>?_) (fun b0=>?_)
 replace hm:=QA hm b0
 refine wF Z QaN (wD 0 2 Z tS_60 tA_60 Z (wN Z tE_60 (wP Z (QH (d:=66) (v':=.bool (l6.length == 0)) (S':=V9 ..) Z Z (Q3c (a:=l6.length) (b:=0)) (wP Z (wP Z ?_))))))
 refine Qt (d:=68) (S':=V11 ..) Z Z (fun b1=>?_) (fun b1=>?_)
 replace hm:=QA hm b1
 refine wP Z (wF Z tF_67_3 (QR 0 3 Z Z Z Zq Z Z Z (cs:=V7 ..) Z Q2S Q5J Z Z ?_))
 obtain ⟨bY,bK,hm⟩:=Q6 hm
 refine wC [1] [0] Z fn_138 Z (Q93 N aD a1 a6 l0 aA aB l1 a2 a3 a7 a8 a9 aN aO aP aG aH aE _ bK) (asK [2,3,1] Z) Z (H':=[_]) Z ?_
 rintro _ _ _ ⟨rfl,rfl,rfl⟩
 refine wP Z (wP Z (Q3 (Q4 (Q2 [4] (S':=[_]) Z (Qb (Qg (Q7 ?_)))))))
 have hE:=(Zi hm).symm
 obtain ⟨hE0,hF1⟩:=Prod.mk.inj hE
 obtain ⟨hE1,hE2⟩:=Prod.mk.inj hF1
 clear hE hF1
 replace hE0:=hE0.symm
 subst hE0
 replace hE1:=hE1.symm
 subst hE1
 replace hE2:=hE2.symm
 subst hE2
 refine Ql (Hr:=[_]) [0] Tryz.results102 (Qc Z) ⟨Z,Z,Z⟩ (asK [0,1] Z) Z Z (.inl Z)
 replace hm:=Qz hm b1
 refine wO Z (wO Z (wO Z (wO Z (wP Z (wP Z (Q3 (Q4 (Q2 [4] (S':=[_]) Z (Qb (Qg (Q7 ?_)))))))))))
 have hE:=(Zi hm).symm
 obtain ⟨hE0,hF1⟩:=Prod.mk.inj hE
 obtain ⟨hE1,hE2⟩:=Prod.mk.inj hF1
 clear hE hF1
 replace hE0:=hE0.symm
 subst hE0
 replace hE1:=hE1.symm
 subst hE1
 replace hE2:=hE2.symm
 subst hE2
 refine Ql (Hr:=[_]) [1] Tryz.results102 (Qc Z) ⟨Z,Z,Z⟩ (asK [2,3] Z) Z Z (.inl Z)
 replace hm:=Qz hm b0
 refine wO Z (wO Z (wO Z (wO Z (wP Z (wP Z (wO Z (wO Z (wO Z (wO Z (wP Z (wP Z (Q3 (Q4 ?_)))))))))))))
 refine Q2 [4] (S':=[_]) Z (Qb (Qg (Q7 ?_)))
 have hE:=(Zi hm).symm
 obtain ⟨hE0,hF1⟩:=Prod.mk.inj hE
 obtain ⟨hE1,hE2⟩:=Prod.mk.inj hF1
 clear hE hF1
 replace hE0:=hE0.symm
 subst hE0
 replace hE1:=hE1.symm
 subst hE1
 replace hE2:=hE2.symm
 subst hE2
 refine Ql (Hr:=[_]) [1] Tryz.results102 (Qc Z) ⟨Z,Z,Z⟩ (asK [2,3] Z) Z Z (.inl Z)
 replace hm:=Qz hm aZ
 refine Q2 [] (S':=[]) Z (Qq (Qh (Q4 (Q5 (Q1 (wP Z (Q3 (Q4 (Qb ?_)))))))))
 have hE:=(Zi hm).symm
 obtain ⟨hE0,hF1⟩:=Prod.mk.inj hE
 obtain ⟨hE1,hE2⟩:=Prod.mk.inj hF1
 clear hE hF1
 replace hE0:=hE0.symm
 subst hE0
 replace hE1:=hE1.symm
 subst hE1
 replace hE2:=hE2.symm
 subst hE2
 refine Ql (Hr:=[_]) [1] Tryz.results102 (Qc Z) ⟨Z,Z,Z⟩ (asK [2,3] Z) Z Z (.inl Z)
theorem QaV (N:Nat) (a0:Int) (a1:Int) (a2:Int) (a3:ByteArray) (a4:Int) (a5:Int) (qp0:OA) (qc1:Nat) (l6:List Qo) (qg2:Nat) (qg3:Nat) (qp4:OA) (qc5:Nat) (l7:List Qn) (qp6:OA) (qc7:Nat) (l8:List Qp) (a9:Int) (a10:Int) (o0:Bool) (hm:Q6C N a0 a1 a2 a3 a4 a5 l6 l7 l8 a9 a10 = some o0):Q1o Tryz.prog 180 [.agg #[.int .u8 a0,.int .u8 a1,.int .i64 a2,.string a3,.int .i64 a4,.int .u8 a5,.slice qp0 l6.length qc1],.pointer (some ⟨qg2,0,none⟩)] [.sli 7 QB qp0 qc1 l6,.sli 2 Qf qp4 qc5 l7,.sli 5 Qe qp6 qc7 l8] [.blk qg2 [.pointer (some ⟨qg3,0,none⟩)] 120,.blk qg3 [.slice qp4 l7.length qc5,.slice qp6 l8.length qc7,.int .i64 a9,.int .i64 a10] 124] (fun v Φr Hr=>v = .bool o0 ∧ Φr = [.sli 2 Qf qp4 qc5 l7,.sli 5 Qe qp6 qc7 l8] ∧ Hr = [.blk qg2 [.pointer (some ⟨qg3,0,none⟩)] 120,.blk qg3 [.slice qp4 l7.length qc5,.slice qp6 l8.length qc7,.int .i64 a9,.int .i64 a10] 124]):=by
 unfold Q6C at hm
 refine QD Tryz.func180 Z Tryz.ntmps180 Z (S:=[_,_]) Z (fun C=>(Q5 (Q1 (wB Z (fun g2=>(wP Z (Q3 (Q4 (Q2 [2,1] (S':=[_,_]) Z (Q5 (Q1 (wD 1 0 Z Q9y Q9p Z (QR 0 0 Z Z Z Zq Z Z Z (cs:=V7 ..) Z Q2S Q5J Z Z ?_)))))))))))))
 obtain ⟨v6,hc6,hm⟩:=Q6 hm
 refine wC [2] [0,1] Z fn_138 Z (Q93 N qg3 qp4 qc5 l7 qp6 qc7 l8 a9 a10 a0 a1 a2 a3 a4 a5 qp0 qc1 l6 _ hc6) (asK [1,2,0] Z) Z (H':=[_,_]) Z ?_
 rintro _ _ _ ⟨rfl,rfl,rfl⟩
 refine wP Z (wP Z (Q3 (Q4 (Q2 [3] (S':=[_]) Z (Qb ?_)))))
 have hE:=(Zi hm).symm
 replace hE:=hE.symm
 subst hE
 refine Ql (Hr:=[_,_]) [2,0] Tryz.results180 (Qc Z) ⟨Z,Z,Z⟩ (asK [0,1] Z) Z Z (.inl Z)
theorem Q9L (N:Nat) (aC:OA) (aD:Nat) (l0:List Qo) (a6:Nat) (q:Nat) (z:OA) (a0:Nat) (l1:List Qn) (a1:OA) (a5:Nat) (l2:List Qp) (a3:Int) (a4:Int) (o0:Int) (hm:Q5v N l0 l1 l2 a3 a4 = some o0):Q1o Tryz.prog 214 [.slice aC l0.length aD,.func (.func 180) #[] #[.pointer (some ⟨a6,0,none⟩)]] [.sli 7 QB aC aD l0,.sli 2 Qf z a0 l1,.sli 5 Qe a1 a5 l2] [.blk a6 [.pointer (some ⟨q,0,none⟩)] 120,.blk q [.slice z l1.length a0,.slice a1 l2.length a5,.int .i64 a3,.int .i64 a4] 124] (fun v Φr Hr=>v = .int .i64 o0 ∧ Φr = [.sli 2 Qf z a0 l1,.sli 5 Qe a1 a5 l2] ∧ Hr = [.blk a6 [.pointer (some ⟨q,0,none⟩)] 120,.blk q [.slice z l1.length a0,.slice a1 l2.length a5,.int .i64 a3,.int .i64 a4] 124]):=by
 unfold Q5v at hm
 refine QD Tryz.func214 Z Tryz.ntmps214 Z (S:=[_,_]) Z (fun C=>(Q5 (Q1 (wP Z (Q3 (Q4 (Q2 [0,1] (S':=[_,_]) Z (Q5 ?_))))))))
 obtain ⟨aF,hm,hLj_1⟩:=Q1w hm
 refine QI (σ:=Unit) (fun _=>aF = .inl ()) (fun _=>[]) (fun _=>[.sli 2 Qf z a0 l1,.sli 5 Qe a1 a5 l2]) (fun _=>[.blk a6 [.pointer (some ⟨q,0,none⟩)] 120,.blk q [.slice z l1.length a0,.slice a1 l2.length a5,.int .i64 a3,.int .i64 a4] 124]) ?_ ?_
 refine Q5 (Q1 (wP Z (wN Z Q66 (wP Z (Q3 (Q4 (Q2 [8,7,0,1] (S':=V4 ..) Z (Qw (Q1E (σ:=Nat × Nat) (fun (a7,j)=>Q1M (Q4j N l0 l1 l2 a3 a4) a7 j = some aF) (fun (a7,j)=>a7) (fun (a7,j)=>[(8,.int .i64 ((j:Nat):Int)),(7,.int .i64 ((l0.length:Nat):Int)),(0,.slice aC l0.length aD),(1,.func (.func 180) #[] #[.pointer (some ⟨a6,0,none⟩)])]) (fun (a7,j)=>[.sli 7 QB aC aD l0,.sli 2 Qf z a0 l1,.sli 5 Qe a1 a5 l2]) (fun (a7,j)=>[.blk a6 [.pointer (some ⟨q,0,none⟩)] 120,.blk q [.slice z l1.length a0,.slice a1 l2.length a5,.int .i64 a3,.int .i64 a4] 124]) (N,0) hm [8,7,0,1] Z (asK [0,1,2] Z) Z (fun s_ hm=>?_))))))))))
 obtain ⟨a7,j⟩:=s_
 try dsimp only at hm ⊢
 obtain ⟨aQ,aR,aH,hq,hLu1⟩:=Q1e hm
 clear hm
 subst aH
 replace hm:=hq
 clear hq
 unfold Q4j at hm
 try dsimp only at hm
 refine Q5 (Q1 (wP Z (QH (d:=9) (v':=.bool (decide (j < l0.length))) (S':=V4 ..) Z Z (Q2z (a:=j) (b:=l0.length)) (Q3 (Q4 (Q5 ?_))))))
 refine Qj Z (fun aG=>?_) (fun aG=>?_)
 replace hm:=QA hm aG
 refine Q2 [8,7,0,1] (S':=V4 ..) Z (Qq (Q4 (Q5 (Qw (Q5 (Q1 (wP Z (wP Z (Q3 (Q4 (Q2 [5,8,7,0,1] (S':=V5 ..) Z (Q5 (Q1 ?_)))))))))))))
 refine wP Z (wP Z (wP Z ?_))
 obtain ⟨a8,aI,hm⟩:=Q6 hm
 refine Q1F 0 j Z Z Z Zq Z Z Z Z Z aI Q66 Q2S (fun aS aT aP aN=>(Q22 Q36 1 Z (fun aJ aK _=>?_)))
 subst aK
 refine Q21 1 0 Z Z Z Zq Z Z Z (cs:=V7 ..) Z Q2S Q5J Z Z ?_
 obtain ⟨aU,aL,hm⟩:=Q6 hm
 refine Q1R [0,1] [] Z Z Z Zq Z Z Z fn_180 Z Z (QaV N a8.kind a8.value.k a8.value.n a8.value.s a8.var a8.op aJ.1 aJ.2 a8.kids a6 q z a0 l1 a1 a5 l2 a3 a4 _ aL) (asK [0,4,5] Z) Z (H':=[]) Z ?_
 rintro _ _ _ ⟨rfl,rfl,rfl⟩
 refine Q3 (Q4 (Q2 [16,5,8,7,0,1] (S':=V6 ..) Z ?_))
 refine Qj Z (fun aB=>?_) (fun aB=>?_)
 replace hm:=QA hm aB
 refine Q2 [5] (S':=[_]) Z (Q5 (Q1 (wP Z (wP Z (Q3 (Q4 (Q2 [4] (S':=[_]) Z (Qb (Qg (Q7 (Q7 (Qg (Q7 ?_)))))))))))))
 have hE:=(Zi hm).symm
 replace hE:=Qv hLu1 hE
 replace hE:=Qv hLj_1 hE
 replace hE:=hE.symm
 subst hE
 refine Ql (Hr:=[_,_]) [0,1] Tryz.results214 (Qc Z) ⟨Z,Z,Z⟩ (asK [0,1] Z) Z Z (.inl Z)
 replace hm:=Qz hm aB
 refine Q2 [8,7,0,1] (S':=V4 ..) Z (Qq (Qh (Q4 (Q1 (wP Z ?_)))))
 obtain ⟨aM,hm⟩:=Qu hm
 refine QH (d:=18) (v':=.int .i64 ((j + 1:Nat):Int)) (S':=V4 ..) Z Z (Q1J (a:=j) (b:=1) aM) (Q1b (S':=V4 ..) Z Z Z Z Z (Q3 ?_))
 have hE:=(Zi hm).symm
 replace hE:=QO hLu1 hE
 refine Q1a (_,j + 1) (Nat.lt_succ_self _) hE [8,7,0,1] Z (asK [5,0,1] Z) Z
 replace hm:=Qz hm aG
 refine Q2 [] (S':=[]) Z (Q1x (Qk (Qk (QJ ?_))))
 have hE:=(Zi hm).symm
 replace hE:=Qv hLu1 hE
 refine Q9 () hE [] Z (asK [1,2] Z) Z
 rintro _ hE
 try dsimp only
 have hm:=QO hLj_1 hE
 try dsimp only at hm
 refine Q5 (Q1 (wP Z (Q3 (Q4 (Qb ?_)))))
 have hE:=(Zi hm).symm
 replace hE:=hE.symm
 subst hE
 refine Ql (Hr:=[_,_]) [0,1] Tryz.results214 (Qc Z) ⟨Z,Z,Z⟩ (asK [0,1] Z) Z Z (.inl Z)
theorem Q8R (N:Nat) (qp0:OA) (qc1:Nat) (l0:List Qo) (qg2:Nat) (qg3:Nat) (qp4:OA) (qc5:Nat) (l1:List Qn) (qp6:OA) (qc7:Nat) (l2:List Qp) (a3:Int) (a4:Int) (o0:Bool) (hm:Q4h N l0 l1 l2 a3 a4 = some o0):Q1o Tryz.prog 179 [.slice qp0 l0.length qc1,.func (.func 180) #[] #[.pointer (some ⟨qg2,0,none⟩)]] [.sli 7 QB qp0 qc1 l0,.sli 2 Qf qp4 qc5 l1,.sli 5 Qe qp6 qc7 l2] [.blk qg2 [.pointer (some ⟨qg3,0,none⟩)] 120,.blk qg3 [.slice qp4 l1.length qc5,.slice qp6 l2.length qc7,.int .i64 a3,.int .i64 a4] 124] (fun v Φr Hr=>v = .bool o0 ∧ Φr = [.sli 2 Qf qp4 qc5 l1,.sli 5 Qe qp6 qc7 l2] ∧ Hr = [.blk qg2 [.pointer (some ⟨qg3,0,none⟩)] 120,.blk qg3 [.slice qp4 l1.length qc5,.slice qp6 l2.length qc7,.int .i64 a3,.int .i64 a4] 124]):=by
 unfold Q4h at hm
 refine QD Tryz.func179 Z Tryz.ntmps179 Z (S:=[_,_]) Z (fun C=>(Q5 (Q1 (wP Z (Q3 (Q4 (Q2 [0,1] (S':=[_,_]) Z (Q5 (Q1 (wP Z (wP Z ?_)))))))))))
 obtain ⟨v7,hc7,hm⟩:=Q6 hm
 refine wC [0,1] [] Z fn_214 Z (Q9L N qp0 qc1 l0 qg2 qg3 qp4 qc5 l1 qp6 qc7 l2 a3 a4 _ hc7) (asK [0,1,2] Z) Z (H':=[]) Z ?_
 rintro _ _ _ ⟨rfl,rfl,rfl⟩
 refine wP Z (wP Z (Q3 (Q4 (Q2 [4] (S':=[_]) Z (Qb ?_)))))
 have hE:=(Zi hm).symm
 replace hE:=hE.symm
 subst hE
 refine Ql (Hr:=[_,_]) [0,1] Tryz.results179 (Qc Z) ⟨Z,Z,Z⟩ (asK [0,1] Z) Z Z (.inl Z)
theorem Q8A (N:Nat) (qg0:Nat) (qp1:OA) (qc2:Nat) (l0:List Qn) (qp3:OA) (qc4:Nat) (l1:List Qp) (a2:Int) (a3:Int) (qp5:OA) (qc6:Nat) (l4:List Qo) (o0:Bool) (hm:Q5N N l0 l1 a2 a3 l4 = some o0):Q1o Tryz.prog 140 [.pointer (some ⟨qg0,0,none⟩),.slice qp5 l4.length qc6] [.sli 2 Qf qp1 qc2 l0,.sli 5 Qe qp3 qc4 l1,.sli 7 QB qp5 qc6 l4] [.blk qg0 [.slice qp1 l0.length qc2,.slice qp3 l1.length qc4,.int .i64 a2,.int .i64 a3] 124] (fun v Φr Hr=>v = .bool o0 ∧ Φr = [.sli 2 Qf qp1 qc2 l0,.sli 5 Qe qp3 qc4 l1] ∧ Hr = [.blk qg0 [.slice qp1 l0.length qc2,.slice qp3 l1.length qc4,.int .i64 a2,.int .i64 a3] 124]):=by
 unfold Q5N at hm
 refine QD Tryz.func140 Z Tryz.ntmps140 Z (S:=[_,_]) Z (fun C=>(Q5 (Q1 (wB Z (fun g2=>(wP Z (Q3 (Q4 (Q2 [2,1] (S':=[_,_]) Z (Q5 (Q1 (wP Z (QY Z Z Z Zq Z Z ?_)))))))))))))
 obtain ⟨v7,hc7,hm⟩:=Q6 hm
 refine wC [0,1] [] Z fn_179 Z (Q8R N qp5 qc6 l4 g2 qg0 qp1 qc2 l0 qp3 qc4 l1 a2 a3 _ hc7) (asK [2,0,1] Z) Z (H':=[]) Z ?_
 rintro _ _ _ ⟨rfl,rfl,rfl⟩
 refine wP Z (wP Z (Q3 (Q4 (Q2 [4] (S':=[_]) Z (Qb ?_)))))
 have hE:=(Zi hm).symm
 replace hE:=hE.symm
 subst hE
 refine Ql (Hr:=[_]) [1] Tryz.results140 (Qc Z) ⟨Z,Z,Z⟩ (asK [0,1] Z) Z Z (.inl Z)
theorem QbC (N:Nat) (a8:Nat) (j:OA) (q:Nat) (l0:List Qn) (s:OA) (z:Nat) (l1:List Qp) (a2:Int) (a3:Int) (a4:Int) (a5:Int) (a6:Int) (aP:OA) (aQ:Nat) (l7:List Qo) (o0:Bool) (hm:Q83 N l0 l1 a2 a3 a4 a5 a6 l7 = some o0):Q1o Tryz.prog 105 [.pointer (some ⟨a8,0,none⟩),.agg #[.int .u8 a4,.int .i64 a5,.int .i64 a6,.slice aP l7.length aQ]] [.sli 2 Qf j q l0,.sli 5 Qe s z l1,.sli 7 QB aP aQ l7] [.blk a8 [.slice j l0.length q,.slice s l1.length z,.int .i64 a2,.int .i64 a3] 124] (fun v Φr Hr=>v = .bool o0 ∧ Φr = [.sli 2 Qf j q l0,.sli 5 Qe s z l1] ∧ Hr = [.blk a8 [.slice j l0.length q,.slice s l1.length z,.int .i64 a2,.int .i64 a3] 124]):=by
 unfold Q83 at hm
 refine QD Tryz.func105 Z Tryz.ntmps105 Z (S:=[_,_]) Z (fun C=>(Q5 (Q1 (wB Z (fun g3=>(wP Z (Q3 (Q4 (Q2 [3,0] (S':=[_,_]) Z (Q5 (Q5 (Q1 (wF Z tF_81_0 (wD 0 0 Z tS_79 tA_79 Z (Q3 ?_)))))))))))))))
 refine Q4 (Q2 [6,3,0] (S':=V3 ..) Z (Qw (Q5 (Q1 (wP Z (wP Z (Q3 (Q4 (Q2 [7,6,3,0] (S':=V4 ..) Z ?_)))))))))
 refine Qj Z (fun aR=>?_) (fun aR=>?_)
 replace hm:=QA hm aR
 refine Q2 [3,0] (S':=[_,_]) Z (Q5 (Q1 (wF Z tF_81_2 (wD 0 2 Z Q1A Q1N Z (wP Z (wP Z ?_))))))
 refine Qt (d:=12) (S':=V5 ..) Z Z (fun aE=>?_) (fun aE=>?_)
 replace hm:=QA hm aE
 refine wP Z (wF Z QaP (wD 0 1 Z Q1A Q1N Z (wF Z Q98 (wD 0 3 Z Q92 Q9s Z (wN Z Q66 ?_)))))
 obtain ⟨b2,aS,hm⟩:=Q6 hm
 refine wC [1] [0] Z fn_135 Z (Q8B N a8 j q l0 s z l1 a2 a3 a5 ((l7.length:Nat):Int) _ aS) (asK [0,1] Z) Z (H':=[_]) Z ?_
 rintro _ _ _ ⟨rfl,rfl,rfl⟩
 refine wP Z (wP Z ?_)
 refine Qt (d:=21) (S':=V14 ..) Z Z (fun aF=>?_) (fun aF=>?_)
 replace hm:=QA hm aF
 refine wP Z (wF Z Q98 (wD 1 3 Z Q92 Q9s Z ?_))
 obtain ⟨b3,aT,hm⟩:=Q6 hm
 refine wC [0] [1] Z fn_140 Z (Q8A N a8 j q l0 s z l1 a2 a3 aP aQ l7 _ aT) (asK [0,1,4] Z) Z (H':=[_]) Z ?_
 rintro _ _ _ ⟨rfl,rfl,rfl⟩
 refine wP Z (wP Z (Q3 (Q4 (Q2 [4] (S':=[_]) Z (Qb (Qg (Q7 ?_)))))))
 have hE:=(Zi hm).symm
 replace hE:=hE.symm
 subst hE
 refine Ql (Hr:=[_]) [0] Tryz.results105 (Qc Z) ⟨Z,Z,Z⟩ (asK [0,1] Z) Z Z (.inl Z)
 replace hm:=Qz hm aF
 refine wO Z (wO Z (wO Z (wO Z (wP Z (wP Z (Q3 (Q4 (Q2 [4] (S':=[_]) Z (Qb (Qg (Q7 ?_)))))))))))
 have hE:=(Zi hm).symm
 replace hE:=hE.symm
 subst hE
 refine Ql (Hr:=[_]) [0] Tryz.results105 (Qc Z) ⟨Z,Z,Z⟩ (asK [0,1] Z) Z Z (.inl Z)
 replace hm:=Qz hm aE
 refine wO Z (wO Z (wO Z (wO Z (wO Z (wO Z (wO Z (wP Z (wP Z (wO Z (wO Z (wO Z (wO Z (wP Z ?_)))))))))))))
 refine wP Z (Q3 (Q4 (Q2 [4] (S':=[_]) Z (Qb (Qg (Q7 ?_))))))
 have hE:=(Zi hm).symm
 replace hE:=hE.symm
 subst hE
 refine Ql (Hr:=[_]) [1] Tryz.results105 (Qc Z) ⟨Z,Z,Z⟩ (asK [0,1] Z) Z Z (.inl Z)
 replace hm:=Qz hm aR
 refine Q2 [6,3,0] (S':=V3 ..) Z (Q5 (Q1 (wP Z (wP Z (Q3 (Q4 (Q2 [27,6,3,0] (S':=V4 ..) Z ?_)))))))
 refine Qj Z (fun aG=>?_) (fun aG=>?_)
 replace hm:=QA hm aG
 refine Q2 [3,0] (S':=[_,_]) Z (Q5 ?_)
 obtain ⟨aU,hm,hLj_1⟩:=Q6 hm
 unfold Q8X at hm
 refine QI (σ:=Bool) (fun a0=>aU = a0) (fun a0=>[(4,.bool a0)]) (fun a0=>[.sli 2 Qf j q l0,.sli 5 Qe s z l1]) (fun a0=>[.blk a8 [.slice j l0.length q,.slice s l1.length z,.int .i64 a2,.int .i64 a3] 124]) ?_ ?_
 rcases QG hm with ⟨aA,hm⟩ | ⟨aA,hm⟩
 rcases QG hm with ⟨aD,hm⟩ | ⟨aD,hm⟩
 rcases QG hm with ⟨aH,hm⟩ | ⟨aH,hm⟩
 refine Q18 [0,1,2,3,4,5,6,7,8,9,10,11,12,13,14,15,16,17,18,19,20,21,22] Z Z (fun hok=>(Q8 hok 0 Z Z Z Zq Z Z Z QaP (Qm hok 1 0 1 Z Z Z Zq Z Z Z Z (cs:=[_]) Z Q1A Q1N Z Z (xP hok 2 Z (xP hok 3 Z (Q1D (d:=32) (v':=.bool true) (S':=V5 ..) Z Z (Q1l aA) (Q8 hok 4 Z Z Z Zq Z Z Z Q98 (Qm hok 5 0 3 Z Z Z Zq Z Z Z Z (cs:=[_]) Z Q92 Q9s Z Z (Q4u hok 6 Z Z Z Zq Z Z Z Q66 (xP hok 7 Z (Q1D (d:=36) (v':=.bool (l7.length == 0)) (S':=V9 ..) Z Z (Q3c (a:=l7.length) (b:=0)) (xP hok 8 Z (xP hok 9 Z (Q1D (d:=38) (v':=.bool true) (S':=V11 ..) Z Z (Q1l aD) ?_))))))))))))))
 refine Q8 hok 10 Z Z Z Zq Z Z Z tF_81_2 (Qm hok 11 0 2 Z Z Z Zq Z Z Z Z (cs:=[_]) Z Q1A Q1N Z Z (xP hok 12 Z (xP hok 13 Z (xP hok 14 Z (Q1D (d:=43) (v':=.bool true) (S':=V16 ..) Z Z (Q1l aH) (Q8 hok 15 Z Z Z Zq Z Z Z tF_81_2 (Qm hok 16 0 2 Z Z Z Zq Z Z Z Z (cs:=[_]) Z Q1A Q1N Z Z (xP hok 17 Z (xP hok 18 Z (Q8 hok 19 Z Z Z Zq Z Z Z tF_124_2 (Qm hok 20 1 3 Z Z Z Zq Z Z Z Z (cs:=[_]) Z Q1A Q1N Z Z (xP hok 21 Z (xP hok 22 Z ?_)))))))))))))
 refine xS hok 23 Z (wP Z (Q3 (QV [0,1,2] [] Z Z (Q11 hok Z ?_))))
 have hE:=(Zi hm).symm
 refine Qs [1] Z (H':=[_]) Z ?_
 refine Q9 (decide (a6 < a3)) hE [4] Z (asK [0,1] Z) Z
 refine Q18 [0,1,2,3,4,5,6,7,8,9,10,11,12,13,14,15,16,17,18,19,20,21,22] Z Z (fun hok=>(Q8 hok 0 Z Z Z Zq Z Z Z QaP (Qm hok 1 0 1 Z Z Z Zq Z Z Z Z (cs:=[_]) Z Q1A Q1N Z Z (xP hok 2 Z (xP hok 3 Z (Q1D (d:=32) (v':=.bool true) (S':=V5 ..) Z Z (Q1l aA) (Q8 hok 4 Z Z Z Zq Z Z Z Q98 (Qm hok 5 0 3 Z Z Z Zq Z Z Z Z (cs:=[_]) Z Q92 Q9s Z Z (Q4u hok 6 Z Z Z Zq Z Z Z Q66 (xP hok 7 Z (Q1D (d:=36) (v':=.bool (l7.length == 0)) (S':=V9 ..) Z Z (Q3c (a:=l7.length) (b:=0)) (xP hok 8 Z (xP hok 9 Z (Q1D (d:=38) (v':=.bool true) (S':=V11 ..) Z Z (Q1l aD) ?_))))))))))))))
 refine Q8 hok 10 Z Z Z Zq Z Z Z tF_81_2 (Qm hok 11 0 2 Z Z Z Zq Z Z Z Z (cs:=[_]) Z Q1A Q1N Z Z (xP hok 12 Z (xP hok 13 Z (xP hok 14 Z (Q1D (d:=43) (v':=.bool false) (S':=V16 ..) Z Z (Q1l aH) (xO hok 15 Z (xO hok 16 Z (xO hok 17 Z (xO hok 18 Z (xO hok 19 Z (xO hok 20 Z (xO hok 21 Z (xP hok 22 Z ?_)))))))))))))
 refine xS hok 23 Z (wP Z (Q3 (QV [0,1,2] [] Z Z (Q11 hok Z ?_))))
 have hE:=(Zi hm).symm
 refine Qs [1] Z (H':=[_]) Z ?_
 refine Q9 false hE [4] Z (asK [0,1] Z) Z
 refine Q18 [0,1,2,3,4,5,6,7,8,9,10,11,12,13,14,15,16,17,18,19,20,21,22] Z Z (fun hok=>(Q8 hok 0 Z Z Z Zq Z Z Z QaP (Qm hok 1 0 1 Z Z Z Zq Z Z Z Z (cs:=[_]) Z Q1A Q1N Z Z (xP hok 2 Z (xP hok 3 Z (Q1D (d:=32) (v':=.bool true) (S':=V5 ..) Z Z (Q1l aA) (Q8 hok 4 Z Z Z Zq Z Z Z Q98 (Qm hok 5 0 3 Z Z Z Zq Z Z Z Z (cs:=[_]) Z Q92 Q9s Z Z (Q4u hok 6 Z Z Z Zq Z Z Z Q66 (xP hok 7 Z (Q1D (d:=36) (v':=.bool (l7.length == 0)) (S':=V9 ..) Z Z (Q3c (a:=l7.length) (b:=0)) (xP hok 8 Z (xP hok 9 Z (Q1D (d:=38) (v':=.bool false) (S':=V11 ..) Z Z (Q1l aD) ?_))))))))))))))
 refine xO hok 10 Z (xO hok 11 Z (xO hok 12 Z (xP hok 13 Z (xP hok 14 Z (xO hok 15 Z (xO hok 16 Z (xO hok 17 Z (xO hok 18 Z (xO hok 19 Z (xO hok 20 Z (xO hok 21 Z (xP hok 22 Z (xS hok 23 Z ?_)))))))))))))
 refine wP Z (Q3 (QV [0,1,2] [] Z Z (Q11 hok Z ?_)))
 have hE:=(Zi hm).symm
 refine Qs [1] Z (H':=[_]) Z ?_
 refine Q9 false hE [4] Z (asK [0,1] Z) Z
 refine Q18 [0,1,2,3,4,5,6,7,8,9,10,11,12,13,14,15,16,17,18,19,20,21,22] Z Z (fun hok=>(Q8 hok 0 Z Z Z Zq Z Z Z QaP (Qm hok 1 0 1 Z Z Z Zq Z Z Z Z (cs:=[_]) Z Q1A Q1N Z Z (xP hok 2 Z (xP hok 3 Z (Q1D (d:=32) (v':=.bool false) (S':=V5 ..) Z Z (Q1l aA) (xO hok 4 Z (xO hok 5 Z (xO hok 6 Z (xO hok 7 Z (xP hok 8 Z (xP hok 9 Z (xO hok 10 Z (xO hok 11 Z ?_))))))))))))))
 refine xO hok 12 Z (xP hok 13 Z (xP hok 14 Z (xO hok 15 Z (xO hok 16 Z (xO hok 17 Z (xO hok 18 Z (xO hok 19 Z (xO hok 20 Z (xO hok 21 Z (xP hok 22 Z (xS hok 23 Z (wP Z (Q3 ?_)))))))))))))
 refine QV [0,1,2] [] Z Z (Q11 hok Z ?_)
 have hE:=(Zi hm).symm
 refine Qs [1] Z (H':=[_]) Z ?_
 refine Q9 false hE [4] Z (asK [0,1] Z) Z
 rintro a0 hE
 try dsimp only
 have hm:=hLj_1
 rw [hE] at hm
 refine Qb (Qg (Q7 ?_))
 have hE:=(Zi hm).symm
 replace hE:=hE.symm
 subst hE
 refine Ql (Hr:=[_]) [0] Tryz.results105 (Qc Z) ⟨Z,Z,Z⟩ (asK [0,1] Z) Z Z (.inl Z)
 replace hm:=Qz hm aG
 refine Q2 [6,3,0] (S':=V3 ..) Z (Q5 (Q1 (wP Z (wP Z (Q3 (Q4 (Q2 [52,3,0] (S':=V3 ..) Z ?_)))))))
 refine Qj Z (fun aI=>?_) (fun aI=>?_)
 replace hm:=QA hm aI
 refine Q2 [3,0] (S':=[_,_]) Z (Q5 ?_)
 obtain ⟨aV,hm,hLj_2⟩:=Q6 hm
 unfold Q8Y at hm
 refine QI (σ:=Bool) (fun a1=>aV = a1) (fun a1=>[(4,.bool a1)]) (fun a1=>[.sli 2 Qf j q l0,.sli 5 Qe s z l1]) (fun a1=>[.blk a8 [.slice j l0.length q,.slice s l1.length z,.int .i64 a2,.int .i64 a3] 124]) ?_ ?_
 refine Q1 (wF Z QaP (wD 0 1 Z Q1A Q1N Z (wP Z (wP Z ?_))))
 refine Qt (d:=57) (S':=V5 ..) Z Z (fun aJ=>?_) (fun aJ=>?_)
 replace hm:=QA hm aJ
 refine wF Z tF_81_2 (wD 0 2 Z Q1A Q1N Z (wP Z (wP Z (wP Z ?_))))
 refine Qt (d:=62) (S':=V10 ..) Z Z (fun aK=>?_) (fun aK=>?_)
 replace hm:=QA hm aK
 refine wF Z Q98 (wD 0 3 Z Q92 Q9s Z (wN Z Q66 (wP Z (QH (d:=66) (v':=.bool (decide (0 < l7.length))) (S':=V14 ..) Z Z (natgt (a:=l7.length) (b:=0)) (wP Z (wP Z ?_))))))
 refine Qt (d:=68) (S':=V16 ..) Z Z (fun aL=>?_) (fun aL=>?_)
 replace hm:=QA hm aL
 refine wP Z (wF Z Q98 (wD 0 3 Z Q92 Q9s Z ?_))
 obtain ⟨b0,aW,hm⟩:=Q6 hm
 refine wC [1] [0] Z fn_140 Z (Q8A N a8 j q l0 s z l1 a2 a3 aP aQ l7 _ aW) (asK [0,1,2] Z) Z (H':=[_]) Z ?_
 rintro _ _ _ ⟨rfl,rfl,rfl⟩
 refine wP Z (wP Z (Q3 ?_))
 have hE:=(Zi hm).symm
 refine Qs [0] Z (H':=[_]) Z ?_
 refine Q9 b0 hE [4] Z (asK [0,1] Z) Z
 replace hm:=Qz hm aL
 refine wO Z (wO Z (wO Z (wO Z (wP Z (wP Z (Q3 ?_))))))
 have hE:=(Zi hm).symm
 refine Qs [1] Z (H':=[_]) Z ?_
 refine Q9 false hE [4] Z (asK [0,1] Z) Z
 replace hm:=Qz hm aK
 refine wO Z (wO Z (wO Z (wO Z (wP Z (wP Z (wO Z (wO Z (wO Z (wO Z (wP Z (wP Z (Q3 ?_))))))))))))
 have hE:=(Zi hm).symm
 refine Qs [1] Z (H':=[_]) Z ?_
 refine Q9 false hE [4] Z (asK [0,1] Z) Z
 replace hm:=Qz hm aJ
 refine wO Z (wO Z (wO Z (wP Z (wP Z (wO Z (wO Z (wO Z (wO Z (wP Z (wP Z (wO Z (wO Z (wO Z ?_)))))))))))))
 refine wO Z (wP Z (wP Z (Q3 ?_)))
 have hE:=(Zi hm).symm
 refine Qs [1] Z (H':=[_]) Z ?_
 refine Q9 false hE [4] Z (asK [0,1] Z) Z
 rintro a1 hE
 try dsimp only
 have hm:=hLj_2
 rw [hE] at hm
 refine Qb (Qg (Q7 ?_))
 have hE:=(Zi hm).symm
 replace hE:=hE.symm
 subst hE
 refine Ql (Hr:=[_]) [0] Tryz.results105 (Qc Z) ⟨Z,Z,Z⟩ (asK [0,1] Z) Z Z (.inl Z)
 replace hm:=Qz hm aI
 refine Q2 [3] (S':=[_]) Z (Qq (Qh (Q4 (Q5 ?_))))
 obtain ⟨aX,hm,hLj_3⟩:=Q6 hm
 unfold Q8Z at hm
 refine QI (σ:=Bool) (fun a7=>aX = a7) (fun a7=>[(4,.bool a7)]) (fun a7=>[.sli 2 Qf j q l0,.sli 5 Qe s z l1]) (fun a7=>[.blk a8 [.slice j l0.length q,.slice s l1.length z,.int .i64 a2,.int .i64 a3] 124]) ?_ ?_
 refine Q1 (wF Z tF_81_0 (wD 0 0 Z tS_79 tA_79 Z (wP Z (wP Z ?_))))
 refine Qt (d:=77) (S':=V4 ..) Z Z (fun aM=>?_) (fun aM=>?_)
 replace hm:=QA hm aM
 refine wF Z QaP (wD 0 1 Z Q1A Q1N Z (wP Z (wP Z (wP Z ?_))))
 refine Qt (d:=82) (S':=V9 ..) Z Z (fun aN=>?_) (fun aN=>?_)
 replace hm:=QA hm aN
 refine wF Z tF_81_2 (wD 0 2 Z Q1A Q1N Z (wP Z (wP Z (wP Z ?_))))
 refine Qt (d:=87) (S':=V14 ..) Z Z (fun aO=>?_) (fun aO=>?_)
 replace hm:=QA hm aO
 refine wF Z Q98 (wD 0 3 Z Q92 Q9s Z (wN Z Q66 (wP Z (QH (d:=91) (v':=.bool (l7.length == 0)) (S':=V18 ..) Z Z (Q3c (a:=l7.length) (b:=0)) (wP Z (wP Z (Q3 ?_)))))))
 have hE:=(Zi hm).symm
 refine Qs [1] Z (H':=[_]) Z ?_
 refine Q9 (l7.length == 0) hE [4] Z (asK [0,1] Z) Z
 replace hm:=Qz hm aO
 refine wO Z (wO Z (wO Z (wO Z (wP Z (wP Z (Q3 ?_))))))
 have hE:=(Zi hm).symm
 refine Qs [1] Z (H':=[_]) Z ?_
 refine Q9 false hE [4] Z (asK [0,1] Z) Z
 replace hm:=Qz hm aN
 refine wO Z (wO Z (wO Z (wP Z (wP Z (wO Z (wO Z (wO Z (wO Z (wP Z (wP Z (Q3 ?_)))))))))))
 have hE:=(Zi hm).symm
 refine Qs [1] Z (H':=[_]) Z ?_
 refine Q9 false hE [4] Z (asK [0,1] Z) Z
 replace hm:=Qz hm aM
 refine wO Z (wO Z (wO Z (wP Z (wP Z (wO Z (wO Z (wO Z (wP Z (wP Z (wO Z (wO Z (wO Z (wO Z ?_)))))))))))))
 refine wP Z (wP Z (Q3 ?_))
 have hE:=(Zi hm).symm
 refine Qs [1] Z (H':=[_]) Z ?_
 refine Q9 false hE [4] Z (asK [0,1] Z) Z
 rintro a7 hE
 try dsimp only
 have hm:=hLj_3
 rw [hE] at hm
 refine Qb ?_
 have hE:=(Zi hm).symm
 replace hE:=hE.symm
 subst hE
 refine Ql (Hr:=[_]) [0] Tryz.results105 (Qc Z) ⟨Z,Z,Z⟩ (asK [0,1] Z) Z Z (.inl Z)
theorem QaW (N:Nat) (a0:Int) (a1:Int) (a2:Int) (qp0:OA) (qc1:Nat) (l3:List Qo) (qg2:Nat) (qg3:Nat) (qp4:OA) (qc5:Nat) (l4:List Qn) (qp6:OA) (qc7:Nat) (l5:List Qp) (a6:Int) (a7:Int) (o0:Bool) (hm:Q6D N a0 a1 a2 l3 l4 l5 a6 a7 = some o0):Q1o Tryz.prog 104 [.agg #[.int .u8 a0,.int .i64 a1,.int .i64 a2,.slice qp0 l3.length qc1],.pointer (some ⟨qg2,0,none⟩)] [.sli 7 QB qp0 qc1 l3,.sli 2 Qf qp4 qc5 l4,.sli 5 Qe qp6 qc7 l5] [.blk qg2 [.pointer (some ⟨qg3,0,none⟩)] 120,.blk qg3 [.slice qp4 l4.length qc5,.slice qp6 l5.length qc7,.int .i64 a6,.int .i64 a7] 124] (fun v Φr Hr=>v = .bool o0 ∧ Φr = [.sli 2 Qf qp4 qc5 l4,.sli 5 Qe qp6 qc7 l5] ∧ Hr = [.blk qg2 [.pointer (some ⟨qg3,0,none⟩)] 120,.blk qg3 [.slice qp4 l4.length qc5,.slice qp6 l5.length qc7,.int .i64 a6,.int .i64 a7] 124]):=by
 unfold Q6D at hm
 refine QD Tryz.func104 Z Tryz.ntmps104 Z (S:=[_,_]) Z (fun C=>(Q5 (Q1 (wB Z (fun g2=>(wP Z (Q3 (Q4 (Q2 [2,1] (S':=[_,_]) Z (Q5 (Q1 (wD 1 0 Z Q9y Q9p Z (QR 0 0 Z Z Z Zq Z Z Z (cs:=V4 ..) Z tS_81 tA_81 Z Z ?_)))))))))))))
 obtain ⟨v6,hc6,hm⟩:=Q6 hm
 refine wC [2] [0,1] Z fn_105 Z (QbC N qg3 qp4 qc5 l4 qp6 qc7 l5 a6 a7 a0 a1 a2 qp0 qc1 l3 _ hc6) (asK [1,2,0] Z) Z (H':=[_,_]) Z ?_
 rintro _ _ _ ⟨rfl,rfl,rfl⟩
 refine wP Z (wP Z (Q3 (Q4 (Q2 [3] (S':=[_]) Z (Qb ?_)))))
 have hE:=(Zi hm).symm
 replace hE:=hE.symm
 subst hE
 refine Ql (Hr:=[_,_]) [2,0] Tryz.results104 (Qc Z) ⟨Z,Z,Z⟩ (asK [0,1] Z) Z Z (.inl Z)
theorem Qab (N:Nat) (aA:OA) (aB:Nat) (l0:List Q1c) (a5:Nat) (q:Nat) (s:OA) (z:Nat) (l1:List Qn) (a0:OA) (a1:Nat) (l2:List Qp) (a3:Int) (a4:Int) (o0:Int) (hm:Q5Z N l0 l1 l2 a3 a4 = some o0):Q1o Tryz.prog 139 [.slice aA l0.length aB,.func (.func 104) #[] #[.pointer (some ⟨a5,0,none⟩)]] [.sli 4 Q1n aA aB l0,.sli 2 Qf s z l1,.sli 5 Qe a0 a1 l2] [.blk a5 [.pointer (some ⟨q,0,none⟩)] 120,.blk q [.slice s l1.length z,.slice a0 l2.length a1,.int .i64 a3,.int .i64 a4] 124] (fun v Φr Hr=>v = .int .i64 o0 ∧ Φr = [.sli 2 Qf s z l1,.sli 5 Qe a0 a1 l2] ∧ Hr = [.blk a5 [.pointer (some ⟨q,0,none⟩)] 120,.blk q [.slice s l1.length z,.slice a0 l2.length a1,.int .i64 a3,.int .i64 a4] 124]):=by
 unfold Q5Z at hm
 refine QD Tryz.func139 Z Tryz.ntmps139 Z (S:=[_,_]) Z (fun C=>(Q5 (Q1 (wP Z (Q3 (Q4 (Q2 [0,1] (S':=[_,_]) Z (Q5 ?_))))))))
 obtain ⟨aE,hm,hLj_1⟩:=Q1w hm
 refine QI (σ:=Unit) (fun _=>aE = .inl ()) (fun _=>[]) (fun _=>[.sli 2 Qf s z l1,.sli 5 Qe a0 a1 l2]) (fun _=>[.blk a5 [.pointer (some ⟨q,0,none⟩)] 120,.blk q [.slice s l1.length z,.slice a0 l2.length a1,.int .i64 a3,.int .i64 a4] 124]) ?_ ?_
 refine Q5 (Q1 (wP Z (wN Z tE_50 (wP Z (Q3 (Q4 (Q2 [8,7,0,1] (S':=V4 ..) Z (Qw (Q1E (σ:=Nat × Nat) (fun (a6,j)=>Q1M (Q4F N l0 l1 l2 a3 a4) a6 j = some aE) (fun (a6,j)=>a6) (fun (a6,j)=>[(8,.int .i64 ((j:Nat):Int)),(7,.int .i64 ((l0.length:Nat):Int)),(0,.slice aA l0.length aB),(1,.func (.func 104) #[] #[.pointer (some ⟨a5,0,none⟩)])]) (fun (a6,j)=>[.sli 4 Q1n aA aB l0,.sli 2 Qf s z l1,.sli 5 Qe a0 a1 l2]) (fun (a6,j)=>[.blk a5 [.pointer (some ⟨q,0,none⟩)] 120,.blk q [.slice s l1.length z,.slice a0 l2.length a1,.int .i64 a3,.int .i64 a4] 124]) (N,0) hm [8,7,0,1] Z (asK [0,1,2] Z) Z (fun s_ hm=>?_))))))))))
 obtain ⟨a6,j⟩:=s_
 try dsimp only at hm ⊢
 obtain ⟨aP,aQ,aG,hq,hLu1⟩:=Q1e hm
 clear hm
 subst aG
 replace hm:=hq
 clear hq
 unfold Q4F at hm
 try dsimp only at hm
 refine Q5 (Q1 (wP Z (QH (d:=9) (v':=.bool (decide (j < l0.length))) (S':=V4 ..) Z Z (Q2z (a:=j) (b:=l0.length)) (Q3 (Q4 (Q5 ?_))))))
 refine Qj Z (fun aF=>?_) (fun aF=>?_)
 replace hm:=QA hm aF
 refine Q2 [8,7,0,1] (S':=V4 ..) Z (Qq (Q4 (Q5 (Qw (Q5 (Q1 (wP Z (wP Z (Q3 (Q4 (Q2 [5,8,7,0,1] (S':=V5 ..) Z (Q5 (Q1 ?_)))))))))))))
 refine wP Z (wP Z (wP Z ?_))
 obtain ⟨aD,aH,hm⟩:=Q6 hm
 refine Q1F 0 j Z Z Z Zq Z Z Z Z Z aH tE_50 tS_81 (fun aR aS aO aM=>(Q22 R_Api_ActD_opens 1 Z (fun aI aJ _=>?_)))
 subst aJ
 refine Q21 1 0 Z Z Z Zq Z Z Z (cs:=V4 ..) Z tS_81 tA_81 Z Z ?_
 obtain ⟨aT,aK,hm⟩:=Q6 hm
 refine Q1R [0,1] [] Z Z Z Zq Z Z Z fn_104 Z Z (QaW N aD.kind aD.type aD.which aI.1 aI.2 aD.exprs a5 q s z l1 a0 a1 l2 a3 a4 _ aK) (asK [0,4,5] Z) Z (H':=[]) Z ?_
 rintro _ _ _ ⟨rfl,rfl,rfl⟩
 refine Q3 (Q4 (Q2 [16,5,8,7,0,1] (S':=V6 ..) Z ?_))
 refine Qj Z (fun a9=>?_) (fun a9=>?_)
 replace hm:=QA hm a9
 refine Q2 [5] (S':=[_]) Z (Q5 (Q1 (wP Z (wP Z (Q3 (Q4 (Q2 [4] (S':=[_]) Z (Qb (Qg (Q7 (Q7 (Qg (Q7 ?_)))))))))))))
 have hE:=(Zi hm).symm
 replace hE:=Qv hLu1 hE
 replace hE:=Qv hLj_1 hE
 replace hE:=hE.symm
 subst hE
 refine Ql (Hr:=[_,_]) [0,1] Tryz.results139 (Qc Z) ⟨Z,Z,Z⟩ (asK [0,1] Z) Z Z (.inl Z)
 replace hm:=Qz hm a9
 refine Q2 [8,7,0,1] (S':=V4 ..) Z (Qq (Qh (Q4 (Q1 (wP Z ?_)))))
 obtain ⟨aL,hm⟩:=Qu hm
 refine QH (d:=18) (v':=.int .i64 ((j + 1:Nat):Int)) (S':=V4 ..) Z Z (Q1J (a:=j) (b:=1) aL) (Q1b (S':=V4 ..) Z Z Z Z Z (Q3 ?_))
 have hE:=(Zi hm).symm
 replace hE:=QO hLu1 hE
 refine Q1a (_,j + 1) (Nat.lt_succ_self _) hE [8,7,0,1] Z (asK [5,0,1] Z) Z
 replace hm:=Qz hm aF
 refine Q2 [] (S':=[]) Z (Q1x (Qk (Qk (QJ ?_))))
 have hE:=(Zi hm).symm
 replace hE:=Qv hLu1 hE
 refine Q9 () hE [] Z (asK [1,2] Z) Z
 rintro _ hE
 try dsimp only
 have hm:=QO hLj_1 hE
 try dsimp only at hm
 refine Q5 (Q1 (wP Z (Q3 (Q4 (Qb ?_)))))
 have hE:=(Zi hm).symm
 replace hE:=hE.symm
 subst hE
 refine Ql (Hr:=[_,_]) [0,1] Tryz.results139 (Qc Z) ⟨Z,Z,Z⟩ (asK [0,1] Z) Z Z (.inl Z)
theorem Q9a (N:Nat) (qp0:OA) (qc1:Nat) (l0:List Q1c) (qg2:Nat) (qg3:Nat) (qp4:OA) (qc5:Nat) (l1:List Qn) (qp6:OA) (qc7:Nat) (l2:List Qp) (a3:Int) (a4:Int) (o0:Bool) (hm:Q4E N l0 l1 l2 a3 a4 = some o0):Q1o Tryz.prog 103 [.slice qp0 l0.length qc1,.func (.func 104) #[] #[.pointer (some ⟨qg2,0,none⟩)]] [.sli 4 Q1n qp0 qc1 l0,.sli 2 Qf qp4 qc5 l1,.sli 5 Qe qp6 qc7 l2] [.blk qg2 [.pointer (some ⟨qg3,0,none⟩)] 120,.blk qg3 [.slice qp4 l1.length qc5,.slice qp6 l2.length qc7,.int .i64 a3,.int .i64 a4] 124] (fun v Φr Hr=>v = .bool o0 ∧ Φr = [.sli 2 Qf qp4 qc5 l1,.sli 5 Qe qp6 qc7 l2] ∧ Hr = [.blk qg2 [.pointer (some ⟨qg3,0,none⟩)] 120,.blk qg3 [.slice qp4 l1.length qc5,.slice qp6 l2.length qc7,.int .i64 a3,.int .i64 a4] 124]):=by
 unfold Q4E at hm
 refine QD Tryz.func103 Z Tryz.ntmps103 Z (S:=[_,_]) Z (fun C=>(Q5 (Q1 (wP Z (Q3 (Q4 (Q2 [0,1] (S':=[_,_]) Z (Q5 (Q1 (wP Z (wP Z ?_)))))))))))
 obtain ⟨v7,hc7,hm⟩:=Q6 hm
 refine wC [0,1] [] Z fn_139 Z (Qab N qp0 qc1 l0 qg2 qg3 qp4 qc5 l1 qp6 qc7 l2 a3 a4 _ hc7) (asK [0,1,2] Z) Z (H':=[]) Z ?_
 rintro _ _ _ ⟨rfl,rfl,rfl⟩
 refine wP Z (wP Z (Q3 (Q4 (Q2 [4] (S':=[_]) Z (Qb ?_)))))
 have hE:=(Zi hm).symm
 replace hE:=hE.symm
 subst hE
 refine Ql (Hr:=[_,_]) [0,1] Tryz.results103 (Qc Z) ⟨Z,Z,Z⟩ (asK [0,1] Z) Z Z (.inl Z)
theorem Qbn (N:Nat) (aC:Nat) (a8:OA) (a9:Nat) (l0:List Qn) (aA:OA) (aB:Nat) (l1:List Qp) (a2:Int) (a3:Int) (a4:ByteArray) (a5:Int) (a6:Int) (aE:OA) (aF:Nat) (l7:List QN) (aG:OA) (aH:Nat) (l8:List Q1c) (o0:Bool) (o1:Int) (o2:Int) (hm:Q7s N l0 l1 a2 a3 a4 a5 a6 l7 l8 = some (o0,o1,o2)):Q1o Tryz.prog 61 [.pointer (some ⟨aC,0,none⟩),.agg #[.string a4,.int .i64 a5,.int .i64 a6,.slice aE l7.length aF,.slice aG l8.length aH]] [.sli 2 Qf a8 a9 l0,.sli 5 Qe aA aB l1,.sli 10 QZ aE aF l7,.sli 4 Q1n aG aH l8] [.blk aC [.slice a8 l0.length a9,.slice aA l1.length aB,.int .i64 a2,.int .i64 a3] 124] (fun v Φr Hr=>v = .bool o0 ∧ Φr = [.sli 2 Qf a8 a9 l0,.sli 5 Qe aA aB l1] ∧ Hr = [.blk aC [.slice a8 l0.length a9,.slice aA l1.length aB,.int .i64 o1,.int .i64 o2] 124]):=by
 unfold Q7s at hm
 refine QD Tryz.func61 Z Tryz.ntmps61 Z (S:=[_,_]) Z (fun C=>(Q5 (Q1 (wB Z (fun g2=>(wB Z (fun g3=>(wP Z (Q3 (Q4 (Q2 [3,2] (S':=[_,_]) Z (Q5 (Q18 [0,1,2,3,5,6] Z Z (fun hok=>(Qm hok 0 1 0 Z Z Z Zq Z Z Z Z (cs:=[_]) Z Q9y Q9p Z Z (Qm hok 1 1 0 Z Z Z Zq Z Z Z Z (cs:=[_]) Z Q9y Q9p Z Z (xP hok 2 Z ?_)))))))))))))))))
 refine Q8 hok 3 Z Z Z Zq Z Z Z Q5z (xS hok 4 Z (wS 2 2 Z Q1A (all':=V4 ..) Z (H':=V3 ..) Z (Q3 (QV [0,1,2,3] [1] Z Z (xP hok 5 Z (Q8 hok 6 Z Z Z Zq Z Z Z tF_124_2 (xS hok 7 Z (wS 2 3 Z Q1A (all':=V4 ..) Z (H':=V3 ..) Z (Q3 (QV [0,1,2,3] [] Z Z (Q11 hok Z (Q4 (Q2 [3,2] (S':=[_,_]) Z ?_)))))))))))))
 refine Q5 (Q5 ?_)
 obtain ⟨b4,hm,hLj_1⟩:=Q6 hm
 unfold Q7V at hm
 refine QI (σ:=Bool) (fun a7=>b4 = a7) (fun a7=>[(3,.pointer (some ⟨g3,0,none⟩)),(2,.pointer (some ⟨g2,0,none⟩)),(38,.bool a7)]) (fun a7=>[.sli 10 QZ aE aF l7,.sli 4 Q1n aG aH l8,.sli 2 Qf a8 a9 l0,.sli 5 Qe aA aB l1]) (fun a7=>[.blk g3 [.string a4,.int .i64 a5,.int .i64 a6,.slice aE l7.length aF,.slice aG l8.length aH] 52,.blk g2 [.pointer (some ⟨aC,0,none⟩)] 120,.blk aC [.slice a8 l0.length a9,.slice aA l1.length aB,.int .i64 0,.int .i64 0] 124]) ?_ ?_
 refine Q1 (wF Z tF_52_0 (wD 0 0 Z Q27 Q2E Z ?_))
 obtain ⟨bI,b5,hm⟩:=Q6 hm
 refine wC [] [0,1,2] Z fn_58 Z (Q68 N a4 _ b5) (asK [] Z) Z (H':=V3 ..) Z ?_
 rintro _ _ _ ⟨rfl,rfl,rfl⟩
 refine wP Z (wP Z ?_)
 refine Qt (d:=17) (S':=V6 ..) Z Z (fun aO=>?_) (fun aO=>?_)
 replace hm:=QA hm aO
 refine wO Z (wO Z (wO Z (wP Z (wP Z (wO Z (wO Z (wO Z (wP Z (wP Z (wO Z (wO Z (wO Z (wO Z ?_)))))))))))))
 refine wP Z (wP Z (wO Z (wO Z (wO Z (wO Z (wP Z (Q3 ?_)))))))
 have hE:=(Zi hm).symm
 refine Q9 true hE [3,2,38] Z (asK [2,3,0,1] Z) Z
 replace hm:=Qz hm aO
 refine wF Z tF_52_1 (wD 0 1 Z Q1A Q1N Z (wP Z (wP Z (wP Z ?_))))
 refine Qt (d:=22) (S':=V11 ..) Z Z (fun aP=>?_) (fun aP=>?_)
 replace hm:=QA hm aP
 refine wO Z (wO Z (wO Z (wP Z (wP Z (wO Z (wO Z (wO Z (wO Z (wP Z (wP Z (wO Z (wO Z (wO Z ?_)))))))))))))
 refine wO Z (wP Z (Q3 ?_))
 have hE:=(Zi hm).symm
 refine Q9 true hE [3,2,38] Z (asK [2,3,0,1] Z) Z
 replace hm:=Qz hm aP
 refine wF Z tF_52_1 (wD 0 1 Z Q1A Q1N Z (wP Z (wP Z (wP Z ?_))))
 refine Qt (d:=27) (S':=V16 ..) Z Z (fun aQ=>?_) (fun aQ=>?_)
 replace hm:=QA hm aQ
 refine wO Z (wO Z (wO Z (wO Z (wP Z (wP Z (wO Z (wO Z (wO Z (wO Z (wP Z (Q3 ?_)))))))))))
 have hE:=(Zi hm).symm
 refine Q9 true hE [3,2,38] Z (asK [2,3,0,1] Z) Z
 replace hm:=Qz hm aQ
 refine wF Z Q62 (wD 0 3 Z Q9z tA_49 Z (wN Z Q8u (wP Z (QH (d:=31) (v':=.bool (decide (8 < l7.length))) (S':=V20 ..) Z Z (natgt (a:=l7.length) (b:=8)) (wP Z (wP Z ?_))))))
 refine Qt (d:=33) (S':=V22 ..) Z Z (fun aR=>?_) (fun aR=>?_)
 replace hm:=QA hm aR
 refine wO Z (wO Z (wO Z (wO Z (wP Z (Q3 ?_)))))
 have hE:=(Zi hm).symm
 refine Q9 true hE [3,2,38] Z (asK [2,3,0,1] Z) Z
 replace hm:=Qz hm aR
 refine wF Z Q8l (wD 0 4 Z tS_50 tA_50 Z (wN Z tE_50 (wP Z (QH (d:=37) (v':=.bool (decide (8 < l8.length))) (S':=V26 ..) Z Z (natgt (a:=l8.length) (b:=8)) (wP Z (Q3 ?_))))))
 have hE:=(Zi hm).symm
 refine Q9 (decide (8 < l8.length)) hE [3,2,38] Z (asK [2,3,0,1] Z) Z
 rintro a7 hE
 try dsimp only
 have hm:=hLj_1
 rw [hE] at hm
 refine Qj Z (fun aS=>?_) (fun aS=>?_)
 replace hm:=QA hm aS
 refine Q2 [] (S':=[]) Z (Q5 (Q1 (wP Z (Q3 (Q4 (Qb (Q7 ?_)))))))
 have hE:=(Zi hm).symm
 obtain ⟨hE0,hF1⟩:=Prod.mk.inj hE
 obtain ⟨hE1,hE2⟩:=Prod.mk.inj hF1
 clear hE hF1
 replace hE0:=hE0.symm
 subst hE0
 replace hE1:=hE1.symm
 subst hE1
 replace hE2:=hE2.symm
 subst hE2
 refine Ql (Hr:=[_]) [2] Tryz.results61 (Qc Z) ⟨Z,Z,Z⟩ (asK [2,3] Z) Z Z (.inl Z)
 replace hm:=Qz hm aS
 refine Q2 [3,2] (S':=[_,_]) Z (Qq (Q4 (Q5 ?_)))
 obtain ⟨aX,hm,hLj_2⟩:=Q1w hm
 refine QI (σ:=Int × Int) (fun (z,a0)=>aX = .inl (z,a0)) (fun (z,a0)=>[(3,.pointer (some ⟨g3,0,none⟩)),(2,.pointer (some ⟨g2,0,none⟩))]) (fun (z,a0)=>[.sli 10 QZ aE aF l7,.sli 4 Q1n aG aH l8,.sli 2 Qf a8 a9 l0,.sli 5 Qe aA aB l1]) (fun (z,a0)=>[.blk g3 [.string a4,.int .i64 a5,.int .i64 a6,.slice aE l7.length aF,.slice aG l8.length aH] 52,.blk g2 [.pointer (some ⟨aC,0,none⟩)] 120,.blk aC [.slice a8 l0.length a9,.slice aA l1.length aB,.int .i64 z,.int .i64 a0] 124]) ?_ ?_
 refine Q5 (Q1 (wF Z Q62 (wD 0 3 Z Q9z tA_49 Z (wN Z Q8u (wP Z (Q3 (Q4 (Q2 [42,41,40,3,2] (S':=V5 ..) Z (Qw (Q1E (σ:=Nat × Nat × Int × Int) (fun (aJ,a1,j,q)=>Q1M (Q6j N l7 l0 l1) aJ (a1,j,q) = some aX) (fun (aJ,a1,j,q)=>aJ) (fun (aJ,a1,j,q)=>[(42,.int .i64 ((a1:Nat):Int)),(41,.int .i64 ((l7.length:Nat):Int)),(40,.slice aE l7.length aF),(3,.pointer (some ⟨g3,0,none⟩)),(2,.pointer (some ⟨g2,0,none⟩))]) (fun (aJ,a1,j,q)=>[.sli 10 QZ aE aF l7,.sli 4 Q1n aG aH l8,.sli 2 Qf a8 a9 l0,.sli 5 Qe aA aB l1]) (fun (aJ,a1,j,q)=>[.blk g3 [.string a4,.int .i64 a5,.int .i64 a6,.slice aE l7.length aF,.slice aG l8.length aH] 52,.blk g2 [.pointer (some ⟨aC,0,none⟩)] 120,.blk aC [.slice a8 l0.length a9,.slice aA l1.length aB,.int .i64 j,.int .i64 q] 124]) (N,0,0,0) hm [42,41,40,3,2] Z (asK [0,1,2,3] Z) Z (fun s_ hm=>?_)))))))))))
 obtain ⟨aJ,a1,j,q⟩:=s_
 try dsimp only at hm ⊢
 obtain ⟨bJ,bK,b6,hq,hLu1⟩:=Q1e hm
 clear hm
 subst b6
 replace hm:=hq
 clear hq
 unfold Q6j at hm
 try dsimp only at hm
 refine Q5 (Q1 (wP Z (QH (d:=43) (v':=.bool (decide (a1 < l7.length))) (S':=V5 ..) Z Z (Q2z (a:=a1) (b:=l7.length)) (Q3 (Q4 (Q5 ?_))))))
 refine Qj Z (fun aT=>?_) (fun aT=>?_)
 replace hm:=QA hm aT
 refine Q2 [42,41,40,3,2] (S':=V5 ..) Z (Qq (Q4 (Q5 (Qw (Q5 (Q1 ?_))))))
 obtain ⟨aD,b7,hm⟩:=Q6 hm
 refine Q1F 0 a1 Z Z Z Zq Z Z Z Z Z b7 Q8u Q4A (fun bL bM bH bC=>(Q22 Q6t 1 Z (fun aW b8 _=>?_)))
 subst b8
 refine Q21 2 0 Z Z Z Zq Z Z Z (cs:=V10 ..) Z Q4A Q9t Z Z (QE Z Z Z Zq Z Q9B Z (fun g6=>(wS 0 0 Z Q4A (all':=V10 ..) Z (H':=V4 ..) Z (Q3 (Q4 (Q2 [6,42,41,40,3,2] (S':=V6 ..) Z (Q5 (Q1 (wD 2 0 Z Q9y Q9p Z (QR 0 0 Z Z Z Zq Z Z Z (cs:=V10 ..) Z Q4A Q9t Z Z ?_))))))))))
 obtain ⟨⟨bD,aZ,b0⟩,b9,hm⟩:=Q6 hm
 try dsimp only at hm
 refine wC [3] [0,1,2] Z fn_102 Z (Qbv N aC a8 a9 l0 aA aB l1 j q aD.kind aD.type aW.1.1 aW.1.2 aD.args aD.test.kind aD.test.value.k aD.test.value.n aD.test.value.s aD.test.var aD.test.op aW.2.1 aW.2.2 aD.test.kids _ _ _ b9) (asK [6,7,0,1] Z) Z (H':=V3 ..) Z ?_
 rintro _ _ _ ⟨rfl,rfl,rfl⟩
 refine wP Z (Q3 (Q4 (Q2 [49,42,41,40,3,2] (S':=V6 ..) Z ?_)))
 refine Qj Z (fun aU=>?_) (fun aU=>?_)
 replace hm:=QA hm aU
 refine Q2 [] (S':=[]) Z (Q5 (Q1 (wP Z (Q3 (Q4 (Qb (Qg (Q7 (Q7 (Qg (Q7 ?_)))))))))))
 have hE:=(Zi hm).symm
 replace hE:=Qv hLu1 hE
 replace hE:=Qv hLj_2 hE
 obtain ⟨hE0,hF1⟩:=Prod.mk.inj hE
 obtain ⟨hE1,hE2⟩:=Prod.mk.inj hF1
 clear hE hF1
 replace hE0:=hE0.symm
 subst hE0
 replace hE1:=hE1.symm
 subst hE1
 replace hE2:=hE2.symm
 subst hE2
 refine Ql (Hr:=[_]) [0] Tryz.results61 (Qc Z) ⟨Z,Z,Z⟩ (asK [0,1] Z) Z Z (.inl Z)
 replace hm:=Qz hm aU
 refine Q2 [42,41,40,3,2] (S':=V5 ..) Z (Qq (Qh (Q4 (Q1 (wP Z ?_)))))
 obtain ⟨bA,hm⟩:=Qu hm
 refine QH (d:=50) (v':=.int .i64 ((a1 + 1:Nat):Int)) (S':=V5 ..) Z Z (Q1J (a:=a1) (b:=1) bA) (Q1b (S':=V5 ..) Z Z Z Z Z (Q3 ?_))
 have hE:=(Zi hm).symm
 replace hE:=QO hLu1 hE
 refine Qs [2,3,0] Z (H':=V3 ..) Z ?_
 refine Q1a (_,a1 + 1,aZ,b0) (Nat.lt_succ_self _) hE [42,41,40,3,2] Z (asK [6,7,0,1] Z) Z
 replace hm:=Qz hm aT
 refine Q2 [3,2] (S':=[_,_]) Z (Q1x (Qk (Qk (QJ ?_))))
 have hE:=(Zi hm).symm
 replace hE:=Qv hLu1 hE
 refine Q9 (j,q) hE [3,2] Z (asK [0,1,2,3] Z) Z
 rintro ⟨z,a0⟩ hE
 try dsimp only
 have hm:=QO hLj_2 hE
 try dsimp only at hm
 refine Q5 ?_
 rcases QG hm with ⟨aM,hm⟩ | ⟨aM,hm⟩
 rcases QG hm with ⟨aV,hm⟩ | ⟨aV,hm⟩
 obtain ⟨bN,bB,hm⟩:=Q6 hm
 refine Q18 [0,1,2,3,4,5,6,7,8,9,10,11,12,13,14,15,16,19,20] Z Z (fun hok=>(Q8 hok 0 Z Z Z Zq Z Z Z QaL (Qm hok 1 0 2 Z Z Z Zq Z Z Z Z (cs:=[_]) Z Q1A Q1N Z Z (Qm hok 2 1 0 Z Z Z Zq Z Z Z Z (cs:=[_]) Z Q9y Q9p Z Z (xP hok 3 Z (Q8 hok 4 Z Z Z Zq Z Z Z Q5z (Qm hok 5 2 2 Z Z Z Zq Z Z Z Z (cs:=[_]) Z Q1A Q1N Z Z (xP hok 6 Z (xP hok 7 Z (Q1D (d:=58) (v':=.bool true) (S':=V9 ..) Z Z (Q1l aM) (Qm hok 8 1 0 Z Z Z Zq Z Z Z Z (cs:=[_]) Z Q9y Q9p Z Z (xP hok 9 Z (Q8 hok 10 Z Z Z Zq Z Z Z Q5z (Qm hok 11 2 2 Z Z Z Zq Z Z Z Z (cs:=[_]) Z Q1A Q1N Z Z ?_))))))))))))))
 refine xP hok 12 Z (xP hok 13 Z (xP hok 14 Z (Q1D (d:=65) (v':=.bool true) (S':=V16 ..) Z Z (Q1l aV) (Q8 hok 15 Z Z Z Zq Z Z Z Q8l (Qm hok 16 0 4 Z Z Z Zq Z Z Z Z (cs:=[_]) Z tS_50 tA_50 Z Z (xS hok 17 Z (QY Z Z Z Zq Z Z (Q3 (QV [0,1,2,3] [0,2,1,2,1,0] Z Z (xS hok 18 Z (wC [1,2] [0] Z fn_103 Z (Q9a N aG aH l8 g2 aC a8 a9 l0 aA aB l1 z a0 _ bB) (asK [1,2,3] Z) Z (H':=[_]) Z ?_)))))))))))
 rintro _ _ _ ⟨rfl,rfl,rfl⟩
 refine Q3 (QV [2,3,4,5] [1,0,1,0,2] Z Z (xP hok 19 Z (xP hok 20 Z (xS hok 21 Z (wP Z (Q3 (QV [0,1,2,3,4,5] [] Z Z (Q11 hok Z (Q4 (Q2 [4] (S':=[_]) Z (Qb ?_)))))))))))
 have hE:=(Zi hm).symm
 obtain ⟨hE0,hF1⟩:=Prod.mk.inj hE
 obtain ⟨hE1,hE2⟩:=Prod.mk.inj hF1
 clear hE hF1
 replace hE0:=hE0.symm
 subst hE0
 replace hE1:=hE1.symm
 subst hE1
 replace hE2:=hE2.symm
 subst hE2
 refine Ql (Hr:=[_]) [1] Tryz.results61 (Qc Z) ⟨Z,Z,Z⟩ (asK [0,1] Z) Z Z (.inl Z)
 refine Q18 [0,1,2,3,4,5,6,7,8,9,10,11,12,13,14,15,16,19,20] Z Z (fun hok=>(Q8 hok 0 Z Z Z Zq Z Z Z QaL (Qm hok 1 0 2 Z Z Z Zq Z Z Z Z (cs:=[_]) Z Q1A Q1N Z Z (Qm hok 2 1 0 Z Z Z Zq Z Z Z Z (cs:=[_]) Z Q9y Q9p Z Z (xP hok 3 Z (Q8 hok 4 Z Z Z Zq Z Z Z Q5z (Qm hok 5 2 2 Z Z Z Zq Z Z Z Z (cs:=[_]) Z Q1A Q1N Z Z (xP hok 6 Z (xP hok 7 Z (Q1D (d:=58) (v':=.bool true) (S':=V9 ..) Z Z (Q1l aM) (Qm hok 8 1 0 Z Z Z Zq Z Z Z Z (cs:=[_]) Z Q9y Q9p Z Z (xP hok 9 Z (Q8 hok 10 Z Z Z Zq Z Z Z Q5z (Qm hok 11 2 2 Z Z Z Zq Z Z Z Z (cs:=[_]) Z Q1A Q1N Z Z ?_))))))))))))))
 refine xP hok 12 Z (xP hok 13 Z (xP hok 14 Z (Q1D (d:=65) (v':=.bool false) (S':=V16 ..) Z Z (Q1l aV) (xO hok 15 Z (xO hok 16 Z (xS hok 17 Z (wO Z (Q3 (QV [0,1,2,3] [2,1,2,1,0] Z Z (xS hok 18 Z (wO Z (Q3 (QV [0,1,2,3] [2,1,2,1,0] Z Z ?_)))))))))))))
 refine xO hok 19 Z (xP hok 20 Z (xS hok 21 Z (wP Z (Q3 (QV [0,1,2,3] [] Z Z (Q11 hok Z (Q4 (Q2 [4] (S':=[_]) Z (Qb ?_)))))))))
 have hE:=(Zi hm).symm
 obtain ⟨hE0,hF1⟩:=Prod.mk.inj hE
 obtain ⟨hE1,hE2⟩:=Prod.mk.inj hF1
 clear hE hF1
 replace hE0:=hE0.symm
 subst hE0
 replace hE1:=hE1.symm
 subst hE1
 replace hE2:=hE2.symm
 subst hE2
 refine Ql (Hr:=[_]) [2] Tryz.results61 (Qc Z) ⟨Z,Z,Z⟩ (asK [2,3] Z) Z Z (.inl Z)
 refine Q18 [0,1,2,3,4,5,6,7,8,9,10,11,12,13,14,15,16,19,20] Z Z (fun hok=>(Q8 hok 0 Z Z Z Zq Z Z Z QaL (Qm hok 1 0 2 Z Z Z Zq Z Z Z Z (cs:=[_]) Z Q1A Q1N Z Z (Qm hok 2 1 0 Z Z Z Zq Z Z Z Z (cs:=[_]) Z Q9y Q9p Z Z (xP hok 3 Z (Q8 hok 4 Z Z Z Zq Z Z Z Q5z (Qm hok 5 2 2 Z Z Z Zq Z Z Z Z (cs:=[_]) Z Q1A Q1N Z Z (xP hok 6 Z (xP hok 7 Z (Q1D (d:=58) (v':=.bool false) (S':=V9 ..) Z Z (Q1l aM) (xO hok 8 Z (xO hok 9 Z (xO hok 10 Z (xO hok 11 Z ?_))))))))))))))
 refine xO hok 12 Z (xP hok 13 Z (xP hok 14 Z (xO hok 15 Z (xO hok 16 Z (xS hok 17 Z (wO Z (Q3 (QV [0,1,2,3] [2,1,0] Z Z (xS hok 18 Z (wO Z (Q3 (QV [0,1,2,3] [2,1,0] Z Z (xO hok 19 Z ?_)))))))))))))
 refine xP hok 20 Z (xS hok 21 Z (wP Z (Q3 (QV [0,1,2,3] [] Z Z (Q11 hok Z (Q4 (Q2 [4] (S':=[_]) Z (Qb ?_))))))))
 have hE:=(Zi hm).symm
 obtain ⟨hE0,hF1⟩:=Prod.mk.inj hE
 obtain ⟨hE1,hE2⟩:=Prod.mk.inj hF1
 clear hE hF1
 replace hE0:=hE0.symm
 subst hE0
 replace hE1:=hE1.symm
 subst hE1
 replace hE2:=hE2.symm
 subst hE2
 refine Ql (Hr:=[_]) [2] Tryz.results61 (Qc Z) ⟨Z,Z,Z⟩ (asK [2,3] Z) Z Z (.inl Z)
theorem Qb8 (N:Nat) (a5:OA) (a6:Nat) (l0:List Qn) (a7:OA) (a8:Nat) (l1:List Qp) (o0:Bool) (hm:Q6e N l0 l1 = some o0):Q1o Tryz.prog 30 [.agg #[.slice a5 l0.length a6,.slice a7 l1.length a8]] [.sli 2 Qf a5 a6 l0,.sli 5 Qe a7 a8 l1] [] (fun v Φr Hr=>v = .bool o0 ∧ Φr = [] ∧ Hr = []):=by
 unfold Q6e at hm
 refine QD Tryz.func30 Z Tryz.ntmps30 Z (S:=[_]) Z (fun C=>(Q5 (Q1 (wB Z (fun g1=>(wP Z (Q3 (Q4 (Q2 [1] (S':=[_]) Z (Q5 (Q1 (QR 0 0 Z Z Z Zq Z Z Z (cs:=[_,_]) Z Q6R Q9r Z Z (Q13 Z Z Z Zq Z tZ_122 tP_122 Z (out:=[_,_]) Z (Q13 Z Z Z Zq Z tZ_124 tP_124 Z (out:=V4 ..) Z (wB Z (fun aE=>?_))))))))))))))))
 refine wP Z (Q3 (Q4 (Q2 [3,1] (S':=[_,_]) Z (Q5 (Q5 ?_)))))
 obtain ⟨b2,hm,hLj_1⟩:=Q6 hm
 refine QI (σ:=Bool) (fun aA=>b2 = aA) (fun aA=>[(3,.pointer (some ⟨aE,0,none⟩)),(1,.pointer (some ⟨g1,0,none⟩)),(21,.bool aA)]) (fun aA=>[.sli 2 Qf a5 a6 l0,.sli 5 Qe a7 a8 l1]) (fun aA=>[.blk aE [.slice a5 l0.length a6,.slice a7 l1.length a8,.int .i64 0,.int .i64 0] 124,.blk g1 [.slice a5 l0.length a6,.slice a7 l1.length a8] 25]) ?_ ?_
 refine Q1 (wF Z Q4V (wD 1 0 Z Q8y Q91 Z (wN Z Q7z (wP Z (QH (d:=15) (v':=.bool (decide (32 < l0.length))) (S':=V5 ..) Z Z (natgt (a:=l0.length) (b:=32)) (wP Z ?_))))))
 refine Qt (d:=16) (S':=V6 ..) Z Z (fun aL=>?_) (fun aL=>?_)
 replace hm:=QA hm aL
 refine wO Z (wO Z (wO Z (wO Z (wP Z (Q3 ?_)))))
 have hE:=(Zi hm).symm
 refine Q9 true hE [3,1,21] Z (asK [0,1] Z) Z
 replace hm:=Qz hm aL
 refine wF Z Q6w (wD 1 1 Z Q9T tA_23 Z (wN Z Q7K (wP Z (QH (d:=20) (v':=.bool (decide (64 < l1.length))) (S':=V10 ..) Z Z (natgt (a:=l1.length) (b:=64)) (wP Z (Q3 ?_))))))
 have hE:=(Zi hm).symm
 refine Q9 (decide (64 < l1.length)) hE [3,1,21] Z (asK [0,1] Z) Z
 rintro aA hE
 try dsimp only
 have hm:=hLj_1
 rw [hE] at hm
 refine Qj Z (fun aM=>?_) (fun aM=>?_)
 replace hm:=QA hm aM
 refine Q2 [] (S':=[]) Z (Q5 (Q1 (wP Z (Q3 (Q4 (Qb (Q7 ?_)))))))
 have hE:=(Zi hm).symm
 replace hE:=hE.symm
 subst hE
 refine Ql (Hr:=[]) [] Tryz.results30 (Qc Z) ⟨Z,Z,Z⟩ (asK [] Z) Z Z (.inl Z)
 replace hm:=Qz hm aM
 refine Q2 [3,1] (S':=[_,_]) Z (Qq (Q4 (Q5 ?_)))
 obtain ⟨aW,hm,hLj_2⟩:=Q1w hm
 refine QI (σ:=Unit) (fun _=>aW = .inl ()) (fun _=>[(3,.pointer (some ⟨aE,0,none⟩)),(1,.pointer (some ⟨g1,0,none⟩))]) (fun _=>[.sli 2 Qf a5 a6 l0,.sli 5 Qe a7 a8 l1]) (fun _=>[.blk aE [.slice a5 l0.length a6,.slice a7 l1.length a8,.int .i64 0,.int .i64 0] 124,.blk g1 [.slice a5 l0.length a6,.slice a7 l1.length a8] 25]) ?_ ?_
 refine Q5 (Q1 (wF Z Q4V (wD 1 0 Z Q8y Q91 Z (wN Z Q7z (wP Z (Q3 (Q4 (Q2 [25,24,23,3,1] (S':=V5 ..) Z (Qw (Q1E (σ:=Nat × Nat) (fun (aG,s)=>Q1M (Q81 N l0 l1) aG s = some aW) (fun (aG,s)=>aG) (fun (aG,s)=>[(25,.int .i64 ((s:Nat):Int)),(24,.int .i64 ((l0.length:Nat):Int)),(23,.slice a5 l0.length a6),(3,.pointer (some ⟨aE,0,none⟩)),(1,.pointer (some ⟨g1,0,none⟩))]) (fun (aG,s)=>[.sli 2 Qf a5 a6 l0,.sli 5 Qe a7 a8 l1]) (fun (aG,s)=>[.blk aE [.slice a5 l0.length a6,.slice a7 l1.length a8,.int .i64 0,.int .i64 0] 124,.blk g1 [.slice a5 l0.length a6,.slice a7 l1.length a8] 25]) (N,0) hm [25,24,23,3,1] Z (asK [0,1] Z) Z (fun s_ hm=>?_)))))))))))
 obtain ⟨aG,s⟩:=s_
 try dsimp only at hm ⊢
 obtain ⟨bL,bM,b3,hq,hLu1⟩:=Q1e hm
 clear hm
 subst b3
 replace hm:=hq
 clear hq
 unfold Q81 at hm
 try dsimp only at hm
 refine Q5 (Q1 (wP Z (QH (d:=26) (v':=.bool (decide (s < l0.length))) (S':=V5 ..) Z Z (Q2z (a:=s) (b:=l0.length)) (Q3 (Q4 (Q5 ?_))))))
 refine Qj Z (fun aN=>?_) (fun aN=>?_)
 replace hm:=QA hm aN
 refine Q2 [25,24,23,3,1] (S':=V5 ..) Z (Qq (Q4 (Q5 (Qw (Q5 (Q1 (wP Z ?_)))))))
 obtain ⟨aO,b4,hm⟩:=Q6 hm
 refine Q1F 0 s Z Z Z Zq Z Z Z Z Z b4 Q7z tS_69 (fun bN bO bJ bF=>(Q22 Q37 1 Z (fun bP b5 _=>?_)))
 subst b5
 refine Q21 0 0 Z Z Z Zq Z Z Z (cs:=[_,_]) Z tS_69 tA_69 Z Z (QE Z Z Z Zq Z tZ_69 Z (fun g5=>(wP Z (wS 0 0 Z tS_69 (all':=[_,_]) Z (H':=V3 ..) Z (Q3 (Q4 (Q2 [4,5,25,24,23,3,1] (S':=V7 ..) Z (Q5 ?_))))))))
 obtain ⟨b6,hm,hLj_3⟩:=Q6 hm
 unfold Qai at hm
 refine QI (σ:=Bool) (fun aB=>b6 = aB) (fun aB=>[(25,.int .i64 ((s:Nat):Int)),(24,.int .i64 ((l0.length:Nat):Int)),(23,.slice a5 l0.length a6),(3,.pointer (some ⟨aE,0,none⟩)),(1,.pointer (some ⟨g1,0,none⟩)),(53,.bool aB)]) (fun aB=>[.sli 2 Qf a5 a6 l0,.sli 5 Qe a7 a8 l1]) (fun aB=>[.blk aE [.slice a5 l0.length a6,.slice a7 l1.length a8,.int .i64 0,.int .i64 0] 124,.blk g1 [.slice a5 l0.length a6,.slice a7 l1.length a8] 25]) ?_ ?_
 obtain ⟨bQ,aJ,hm⟩:=Q6 hm
 rcases QG hm with ⟨aF,hm⟩ | ⟨aF,hm⟩
 refine Q18 [0,1,3,4,5,6,7,8,9,10,11,12,13,14,15,16,17,18,19,21,22,23] Z Z (fun hok=>(Q8 hok 0 Z Z Z Zq Z Z Z QaO (Qm hok 1 0 0 Z Z Z Zq Z Z Z Z (cs:=[_]) Z Q27 Q2E Z Z (xS hok 2 Z (wC [] [0,1,2] Z fn_58 Z (Q68 N aO.name _ aJ) (asK [] Z) Z (H':=V3 ..) Z ?_)))))
 rintro _ _ _ ⟨rfl,rfl,rfl⟩
 refine Q3 (QV [0,1,2,3] [] Z Z (xP hok 3 Z (xP hok 4 Z (Q1D (d:=34) (v':=.bool true) (S':=V11 ..) Z Z (Q1l aF) (xO hok 5 Z (xO hok 6 Z (xO hok 7 Z (xP hok 8 Z (xP hok 9 Z (xO hok 10 Z (xO hok 11 Z (xO hok 12 Z (xP hok 13 Z ?_)))))))))))))
 refine xP hok 14 Z (xO hok 15 Z (xO hok 16 Z (xO hok 17 Z (xO hok 18 Z (xO hok 19 Z (xO hok 21 Z (xS hok 20 Z (wO Z (Q3 (QV [0,1,2,3] [0] Z Z (xO hok 22 Z (xP hok 23 Z (Q11 hok Z ?_)))))))))))))
 have hE:=(Zi hm).symm
 refine Qs [1,2] Z (H':=[_,_]) Z ?_
 refine Q9 true hE [25,24,23,3,1,53] Z (asK [2,3] Z) Z
 rcases QG hm with ⟨aK,hm⟩ | ⟨aK,hm⟩
 refine Q18 [0,1,3,4,5,6,7,8,9,10,11,12,13,14,15,16,17,18,19,21,22,23] Z Z (fun hok=>(Q8 hok 0 Z Z Z Zq Z Z Z QaO (Qm hok 1 0 0 Z Z Z Zq Z Z Z Z (cs:=[_]) Z Q27 Q2E Z Z (xS hok 2 Z (wC [] [0,1,2] Z fn_58 Z (Q68 N aO.name _ aJ) (asK [] Z) Z (H':=V3 ..) Z ?_)))))
 rintro _ _ _ ⟨rfl,rfl,rfl⟩
 refine Q3 (QV [0,1,2,3] [] Z Z (xP hok 3 Z (xP hok 4 Z (Q1D (d:=34) (v':=.bool false) (S':=V11 ..) Z Z (Q1l aF) (Q8 hok 5 Z Z Z Zq Z Z Z Q97 (Qm hok 6 0 1 Z Z Z Zq Z Z Z Z (cs:=[_]) Z Q1A Q1N Z Z (xP hok 7 Z (xP hok 8 Z (xP hok 9 Z (Q1D (d:=39) (v':=.bool true) (S':=V16 ..) Z Z (Q1l aK) (xO hok 10 Z (xO hok 11 Z (xO hok 12 Z ?_)))))))))))))
 refine xP hok 13 Z (xP hok 14 Z (xO hok 15 Z (xO hok 16 Z (xO hok 17 Z (xO hok 18 Z (xO hok 19 Z (xO hok 21 Z (xS hok 20 Z (wO Z (Q3 (QV [0,1,2,3] [0,0] Z Z (xO hok 22 Z (xP hok 23 Z ?_)))))))))))))
 refine Q11 hok Z ?_
 have hE:=(Zi hm).symm
 refine Qs [1,2] Z (H':=[_,_]) Z ?_
 refine Q9 true hE [25,24,23,3,1,53] Z (asK [2,3] Z) Z
 rcases QG hm with ⟨aP,hm⟩ | ⟨aP,hm⟩
 refine Q18 [0,1,3,4,5,6,7,8,9,10,11,12,13,14,15,16,17,18,19,21,22,23] Z Z (fun hok=>(Q8 hok 0 Z Z Z Zq Z Z Z QaO (Qm hok 1 0 0 Z Z Z Zq Z Z Z Z (cs:=[_]) Z Q27 Q2E Z Z (xS hok 2 Z (wC [] [0,1,2] Z fn_58 Z (Q68 N aO.name _ aJ) (asK [] Z) Z (H':=V3 ..) Z ?_)))))
 rintro _ _ _ ⟨rfl,rfl,rfl⟩
 refine Q3 (QV [0,1,2,3] [] Z Z (xP hok 3 Z (xP hok 4 Z (Q1D (d:=34) (v':=.bool false) (S':=V11 ..) Z Z (Q1l aF) (Q8 hok 5 Z Z Z Zq Z Z Z Q97 (Qm hok 6 0 1 Z Z Z Zq Z Z Z Z (cs:=[_]) Z Q1A Q1N Z Z (xP hok 7 Z (xP hok 8 Z (xP hok 9 Z (Q1D (d:=39) (v':=.bool false) (S':=V16 ..) Z Z (Q1l aK) (Q8 hok 10 Z Z Z Zq Z Z Z Q97 (Qm hok 11 0 1 Z Z Z Zq Z Z Z Z (cs:=[_]) Z Q1A Q1N Z Z (xP hok 12 Z ?_)))))))))))))
 refine xP hok 13 Z (xP hok 14 Z (Q1D (d:=44) (v':=.bool true) (S':=V21 ..) Z Z (Q1l aP) (xO hok 15 Z (xO hok 16 Z (xO hok 17 Z (xO hok 18 Z (xO hok 19 Z (xO hok 21 Z (xS hok 20 Z (wO Z (Q3 (QV [0,1,2,3] [0,0,0] Z Z (xO hok 22 Z ?_)))))))))))))
 refine xP hok 23 Z (Q11 hok Z ?_)
 have hE:=(Zi hm).symm
 refine Qs [1,2] Z (H':=[_,_]) Z ?_
 refine Q9 true hE [25,24,23,3,1,53] Z (asK [2,3] Z) Z
 obtain ⟨bG,b7,hm⟩:=Q6 hm
 refine Q18 [0,1,3,4,5,6,7,8,9,10,11,12,13,14,15,16,17,18,19,21,22,23] Z Z (fun hok=>(Q8 hok 0 Z Z Z Zq Z Z Z QaO (Qm hok 1 0 0 Z Z Z Zq Z Z Z Z (cs:=[_]) Z Q27 Q2E Z Z (xS hok 2 Z (wC [] [0,1,2] Z fn_58 Z (Q68 N aO.name _ aJ) (asK [] Z) Z (H':=V3 ..) Z ?_)))))
 rintro _ _ _ ⟨rfl,rfl,rfl⟩
 refine Q3 (QV [0,1,2,3] [] Z Z (xP hok 3 Z (xP hok 4 Z (Q1D (d:=34) (v':=.bool false) (S':=V11 ..) Z Z (Q1l aF) (Q8 hok 5 Z Z Z Zq Z Z Z Q97 (Qm hok 6 0 1 Z Z Z Zq Z Z Z Z (cs:=[_]) Z Q1A Q1N Z Z (xP hok 7 Z (xP hok 8 Z (xP hok 9 Z (Q1D (d:=39) (v':=.bool false) (S':=V16 ..) Z Z (Q1l aK) (Q8 hok 10 Z Z Z Zq Z Z Z Q97 (Qm hok 11 0 1 Z Z Z Zq Z Z Z Z (cs:=[_]) Z Q1A Q1N Z Z (xP hok 12 Z ?_)))))))))))))
 refine xP hok 13 Z (xP hok 14 Z (Q1D (d:=44) (v':=.bool false) (S':=V21 ..) Z Z (Q1l aP) (xP hok 15 Z (xP hok 16 Z (Q8 hok 17 Z Z Z Zq Z Z Z Qbl (Q8 hok 18 Z Z Z Zq Z Z Z QaO (Qm hok 19 0 0 Z Z Z Zq Z Z Z Z (cs:=[_]) Z Q27 Q2E Z Z (xP hok 21 Z (xS hok 20 Z (wC [1] [0,2] Z fn_59 Z (Qbm N aE a5 a6 l0 a7 a8 l1 0 0 aO.name _ b7) (asK [2,3] Z) Z (H':=[_,_]) Z ?_))))))))))
 rintro _ _ _ ⟨rfl,rfl,rfl⟩
 refine Q3 (QV [2,3,4,5] [1,1,1] Z Z (xP hok 22 Z (xP hok 23 Z (Q11 hok Z ?_))))
 have hE:=(Zi hm).symm
 refine Qs [0,2] Z (H':=[_,_]) Z ?_
 refine Q9 (bG != ((s:Nat):Int)) hE [25,24,23,3,1,53] Z (asK [0,1] Z) Z
 rintro aB hE
 try dsimp only
 have hm:=hLj_3
 rw [hE] at hm
 refine Qj Z (fun aQ=>?_) (fun aQ=>?_)
 replace hm:=QA hm aQ
 refine Q2 [] (S':=[]) Z (Q5 (Q1 (wP Z (Q3 (Q4 (Qb (Qg (Q7 (Q7 (Qg (Q7 ?_)))))))))))
 have hE:=(Zi hm).symm
 replace hE:=Qv hLu1 hE
 replace hE:=Qv hLj_2 hE
 replace hE:=hE.symm
 subst hE
 refine Ql (Hr:=[]) [] Tryz.results30 (Qc Z) ⟨Z,Z,Z⟩ (asK [] Z) Z Z (.inl Z)
 replace hm:=Qz hm aQ
 refine Q2 [25,24,23,3,1] (S':=V5 ..) Z (Qq (Qh (Q4 (Q1 (wP Z ?_)))))
 obtain ⟨b8,hm⟩:=Qu hm
 refine QH (d:=54) (v':=.int .i64 ((s + 1:Nat):Int)) (S':=V5 ..) Z Z (Q1J (a:=s) (b:=1) b8) (Q1b (S':=V5 ..) Z Z Z Z Z (Q3 ?_))
 have hE:=(Zi hm).symm
 replace hE:=QO hLu1 hE
 refine Q1a (_,s + 1) (Nat.lt_succ_self _) hE [25,24,23,3,1] Z (asK [0,1] Z) Z
 replace hm:=Qz hm aN
 refine Q2 [3,1] (S':=[_,_]) Z (Q1x (Qk (Qk (QJ ?_))))
 have hE:=(Zi hm).symm
 replace hE:=Qv hLu1 hE
 refine Q9 () hE [3,1] Z (asK [0,1] Z) Z
 rintro _ hE
 try dsimp only
 have hm:=QO hLj_2 hE
 try dsimp only at hm
 refine Q5 ?_
 obtain ⟨aX,hm,hLj_4⟩:=Q1w hm
 refine QI (σ:=Unit) (fun _=>aX = .inl ()) (fun _=>[]) (fun _=>[]) (fun _=>[]) ?_ ?_
 refine Q5 (Q1 (wF Z Q6w (wD 1 1 Z Q9T tA_23 Z (wN Z Q7K (wP Z (Q3 (Q4 (Q2 [58,57,56,3] (S':=V4 ..) Z (Qw (Q4X [0] Z (H':=[_]) Z (Q1E (σ:=Nat × Nat × Int × Int) (fun (aH,z,j,q)=>Q1M (Q82 N l1 l0) aH (z,j,q) = some aX) (fun (aH,z,j,q)=>aH) (fun (aH,z,j,q)=>[(58,.int .i64 ((z:Nat):Int)),(57,.int .i64 ((l1.length:Nat):Int)),(56,.slice a7 l1.length a8),(3,.pointer (some ⟨aE,0,none⟩))]) (fun (aH,z,j,q)=>[.sli 5 Qe a7 a8 l1,.sli 2 Qf a5 a6 l0]) (fun (aH,z,j,q)=>[.blk aE [.slice a5 l0.length a6,.slice a7 l1.length a8,.int .i64 j,.int .i64 q] 124]) (N,0,0,0) hm [58,57,56,3] Z (asK [1,0] Z) Z (fun s_ hm=>?_))))))))))))
 obtain ⟨aH,z,j,q⟩:=s_
 try dsimp only at hm ⊢
 obtain ⟨bR,bS,b9,hq,hLu2⟩:=Q1e hm
 clear hm
 subst b9
 replace hm:=hq
 clear hq
 unfold Q82 at hm
 try dsimp only at hm
 refine Q5 (Q1 (wP Z (QH (d:=59) (v':=.bool (decide (z < l1.length))) (S':=V4 ..) Z Z (Q2z (a:=z) (b:=l1.length)) (Q3 (Q4 (Q5 ?_))))))
 refine Qj Z (fun aR=>?_) (fun aR=>?_)
 replace hm:=QA hm aR
 refine Q2 [58,57,56,3] (S':=V4 ..) Z (Qq (Q4 (Q5 (Qw (Q5 (Q1 (wP Z ?_)))))))
 obtain ⟨aI,bA,hm⟩:=Q6 hm
 refine Q1F 0 z Z Z Z Zq Z Z Z Z Z bA Q7K Q4W (fun bT bU bK bH=>(Q22 Q3T 1 Z (fun aU bB _=>?_)))
 subst bB
 refine Q21 2 0 Z Z Z Zq Z Z Z (cs:=V5 ..) Z Q4W tA_52 Z Z (QE Z Z Z Zq Z tZ_52 Z (fun g7=>(wP Z (wS 0 0 Z Q4W (all':=V5 ..) Z (H':=[_,_]) Z (Q3 (Q4 (Q2 [6,7,58,57,56,3] (S':=V6 ..) Z (Q5 ?_))))))))
 obtain ⟨bC,hm,hLj_5⟩:=Q6 hm
 refine QI (σ:=Int × Int × Bool) (fun (a0,a1,aC)=>bC = (a0,a1,aC)) (fun (a0,a1,aC)=>[(58,.int .i64 ((z:Nat):Int)),(57,.int .i64 ((l1.length:Nat):Int)),(56,.slice a7 l1.length a8),(3,.pointer (some ⟨aE,0,none⟩)),(76,.bool aC)]) (fun (a0,a1,aC)=>[.sli 5 Qe a7 a8 l1,.sli 2 Qf a5 a6 l0]) (fun (a0,a1,aC)=>[.blk aE [.slice a5 l0.length a6,.slice a7 l1.length a8,.int .i64 a0,.int .i64 a1] 124]) ?_ ?_
 obtain ⟨bV,aY,hm⟩:=Q6 hm
 rcases QG hm with ⟨aS,hm⟩ | ⟨aS,hm⟩
 refine Q18 [0,1,2,3,4,6,7,8,9,10,12,13] Z Z (fun hok=>(xP hok 0 Z (xP hok 1 Z (Q8 hok 2 Z Z Z Zq Z Z Z Qbl (Q8 hok 3 Z Z Z Zq Z Z Z tF_52_0 (Qm hok 4 0 0 Z Z Z Zq Z Z Z Z (cs:=[_]) Z Q27 Q2E Z Z (xP hok 6 Z (xS hok 5 Z (wC [1] [0] Z fn_60 Z (Q8z N aE a5 a6 l0 a7 a8 l1 j q aI.name _ aY) (asK [5,4] Z) Z (H':=[_]) Z ?_)))))))))
 rintro _ _ _ ⟨rfl,rfl,rfl⟩
 refine Q3 (QV [2,3,4,5,6,7] [] Z Z (xP hok 7 Z (xP hok 8 Z (Q1D (d:=71) (v':=.bool true) (S':=V14 ..) Z Z (Q1l aS) (xO hok 9 Z (xO hok 10 Z (xS hok 11 Z (wO Z (Q3 (QV [0,1,2,3,4,5,6,7] [1] Z Z (xO hok 12 Z (xP hok 13 Z (Q11 hok Z ?_)))))))))))))
 have hE:=(Zi hm).symm
 refine Qs [0] Z (H':=[_]) Z ?_
 refine Q9 (j,q,true) hE [58,57,56,3,76] Z (asK [1,0] Z) Z
 obtain ⟨⟨aZ,b0,b1⟩,bD,hm⟩:=Q6 hm
 try dsimp only at hm
 refine Q18 [0,1,2,3,4,6,7,8,9,10,12,13] Z Z (fun hok=>(xP hok 0 Z (xP hok 1 Z (Q8 hok 2 Z Z Z Zq Z Z Z Qbl (Q8 hok 3 Z Z Z Zq Z Z Z tF_52_0 (Qm hok 4 0 0 Z Z Z Zq Z Z Z Z (cs:=[_]) Z Q27 Q2E Z Z (xP hok 6 Z (xS hok 5 Z (wC [1] [0] Z fn_60 Z (Q8z N aE a5 a6 l0 a7 a8 l1 j q aI.name _ aY) (asK [5,4] Z) Z (H':=[_]) Z ?_)))))))))
 rintro _ _ _ ⟨rfl,rfl,rfl⟩
 refine Q3 (QV [2,3,4,5,6,7] [] Z Z (xP hok 7 Z (xP hok 8 Z (Q1D (d:=71) (v':=.bool false) (S':=V14 ..) Z Z (Q1l aS) (xP hok 9 Z (Qm hok 10 1 0 Z Z Z Zq Z Z Z Z (cs:=V5 ..) Z Q4W tA_52 Z Z (xS hok 11 Z (wC [0] [1] Z fn_61 Z (Qbn N aE a5 a6 l0 a7 a8 l1 j q aI.name aI.salience aI.vars aU.1.1 aU.1.2 aI.conds aU.2.1 aU.2.2 aI.acts _ _ _ bD) (asK [0,1,2,3] Z) Z (H':=[_]) Z ?_))))))))
 rintro _ _ _ ⟨rfl,rfl,rfl⟩
 refine Q3 (QV [2,3,4,5,6,7,8,9] [1] Z Z (xP hok 12 Z (xP hok 13 Z (Q11 hok Z ?_))))
 have hE:=(Zi hm).symm
 refine Qs [0] Z (H':=[_]) Z ?_
 refine Q9 (b0,b1,!aZ) hE [58,57,56,3,76] Z (asK [1,0] Z) Z
 rintro ⟨a0,a1,aC⟩ hE
 try dsimp only
 have hm:=hLj_5
 rw [hE] at hm
 try dsimp only at hm
 refine Qj Z (fun aT=>?_) (fun aT=>?_)
 replace hm:=QA hm aT
 refine Q2 [] (S':=[]) Z (Q5 (Q1 (wP Z (Q3 (Q4 (Qb (Qg (Q7 (Q7 (Qg (Q7 ?_)))))))))))
 have hE:=(Zi hm).symm
 replace hE:=Qv hLu2 hE
 replace hE:=Qv hLj_4 hE
 replace hE:=hE.symm
 subst hE
 refine Ql (Hr:=[]) [] Tryz.results30 (Qc Z) ⟨Z,Z,Z⟩ (asK [] Z) Z Z (.inl Z)
 replace hm:=Qz hm aT
 refine Q2 [58,57,56,3] (S':=V4 ..) Z (Qq (Qh (Q4 (Q1 (wP Z ?_)))))
 obtain ⟨bE,hm⟩:=Qu hm
 refine QH (d:=77) (v':=.int .i64 ((z + 1:Nat):Int)) (S':=V4 ..) Z Z (Q1J (a:=z) (b:=1) bE) (Q1b (S':=V4 ..) Z Z Z Z Z (Q3 ?_))
 have hE:=(Zi hm).symm
 replace hE:=QO hLu2 hE
 refine Q1a (_,z + 1,a0,a1) (Nat.lt_succ_self _) hE [58,57,56,3] Z (asK [0,1] Z) Z
 replace hm:=Qz hm aR
 refine Q2 [] (S':=[]) Z (Q1x (Qk (Qk (QJ ?_))))
 have hE:=(Zi hm).symm
 replace hE:=Qv hLu2 hE
 refine Qs [] Z (H':=[]) Z ?_
 refine Q9 () hE [] Z (asK [] Z) Z
 rintro _ hE
 try dsimp only
 have hm:=QO hLj_4 hE
 try dsimp only at hm
 refine Q5 (Q1 (wP Z (Q3 (Q4 (Qb ?_)))))
 have hE:=(Zi hm).symm
 replace hE:=hE.symm
 subst hE
 refine Ql (Hr:=[]) [] Tryz.results30 (Qc Z) ⟨Z,Z,Z⟩ (asK [] Z) Z Z (.inl Z)
theorem w_naive_right_1_s (N:Nat) (a0:Int) (a1:Int) (a2:ByteArray) (o0:Bool) (hm:Q8K N a0 a1 a2 = some o0):Q1o Tryz.prog 63 [.agg #[.int .u8 a0,.int .i64 a1,.string a2]] [] [] (fun v Φr Hr=>v = .bool o0 ∧ Φr = [] ∧ Hr = []):=by
 unfold Q8K at hm
 refine QD Tryz.func63 Z Tryz.ntmps63 Z (S:=[_]) Z (fun C=>(Q5 (Q1 (wB Z (fun g1=>(wP Z (Q3 (Q4 (Q2 [1] (S':=[_]) Z (Q5 (Q1 (QR 0 0 Z Z Z Zq Z Z Z (cs:=V3 ..) Z Q1H Q2u Z Z ?_))))))))))))
 obtain ⟨v4,hc4,hm⟩:=Q6 hm
 refine wC [] [0] Z fn_64 Z (Q4K N a0 a1 a2 _ hc4) (asK [] Z) Z (H':=[_]) Z ?_
 rintro _ _ _ ⟨rfl,rfl,rfl⟩
 refine wP Z (wP Z (Q3 (Q4 (Q2 [2] (S':=[_]) Z (Qb ?_)))))
 have hE:=(Zi hm).symm
 replace hE:=hE.symm
 subst hE
 refine Ql (Hr:=[]) [] Tryz.results63 (Qc Z) ⟨Z,Z,Z⟩ (asK [] Z) Z Z (.inl Z)
theorem Q9C (N:Nat) (a0:OA) (a1:Nat) (l0:List V) (o0:Int) (hm:Q56 N l0 = some o0):Q1o Tryz.prog 106 [.slice a0 l0.length a1,.func (.func 63) #[] #[]] [.sli 3 R_V a0 a1 l0] [] (fun v Φr Hr=>v = .int .i64 o0 ∧ Φr = [] ∧ Hr = []):=by
 unfold Q56 at hm
 refine QD Tryz.func106 Z Tryz.ntmps106 Z (S:=[_,_]) Z (fun C=>(Q5 (Q1 (wP Z (Q3 (Q4 (Q2 [0,1] (S':=[_,_]) Z (Q5 ?_))))))))
 obtain ⟨a6,hm,hLj_1⟩:=Q1w hm
 refine QI (σ:=Unit) (fun _=>a6 = .inl ()) (fun _=>[]) (fun _=>[]) (fun _=>[]) ?_ ?_
 refine Q5 (Q1 (wP Z (wN Z Q5a (wP Z (Q3 (Q4 (Q2 [8,7,0,1] (S':=V4 ..) Z (Qw (Q1E (σ:=Nat × Nat) (fun (q,j)=>Q1M (Q48 N l0) q j = some a6) (fun (q,j)=>q) (fun (q,j)=>[(8,.int .i64 ((j:Nat):Int)),(7,.int .i64 ((l0.length:Nat):Int)),(0,.slice a0 l0.length a1),(1,.func (.func 63) #[] #[])]) (fun (q,j)=>[.sli 3 R_V a0 a1 l0]) (fun (q,j)=>[]) (N,0) hm [8,7,0,1] Z (asK [0] Z) Z (fun s_ hm=>?_))))))))))
 obtain ⟨q,j⟩:=s_
 try dsimp only at hm ⊢
 obtain ⟨aH,aI,a9,hq,hLu1⟩:=Q1e hm
 clear hm
 subst a9
 replace hm:=hq
 clear hq
 unfold Q48 at hm
 try dsimp only at hm
 refine Q5 (Q1 (wP Z (QH (d:=9) (v':=.bool (decide (j < l0.length))) (S':=V4 ..) Z Z (Q2z (a:=j) (b:=l0.length)) (Q3 (Q4 (Q5 ?_))))))
 refine Qj Z (fun a7=>?_) (fun a7=>?_)
 replace hm:=QA hm a7
 refine Q2 [8,7,0,1] (S':=V4 ..) Z (Qq (Q4 (Q5 (Qw (Q5 (Q1 (wP Z (wP Z (Q3 (Q4 (Q2 [5,8,7,0,1] (S':=V5 ..) Z (Q5 (Q1 ?_)))))))))))))
 refine wP Z (wP Z (wP Z ?_))
 obtain ⟨a8,aA,hm⟩:=Q6 hm
 refine Q1F 0 j Z Z Z Zq Z Z Z Z Z aA Q5a Q1H (fun aJ aK aG aE=>(Q22 Q6d 1 Z (fun aL aB _=>?_)))
 subst aB
 refine Q21 0 0 Z Z Z Zq Z Z Z (cs:=V3 ..) Z Q1H Q2u Z Z ?_
 obtain ⟨aM,aC,hm⟩:=Q6 hm
 refine Q1R [] [] Z Z Z Zq Z Z Z fn_63 Z Z (w_naive_right_1_s N a8.k a8.n a8.s _ aC) (asK [] Z) Z (H':=[]) Z ?_
 rintro _ _ _ ⟨rfl,rfl,rfl⟩
 refine Q3 (Q4 (Q2 [16,5,8,7,0,1] (S':=V6 ..) Z ?_))
 refine Qj Z (fun z=>?_) (fun z=>?_)
 replace hm:=QA hm z
 refine Q2 [5] (S':=[_]) Z (Q5 (Q1 (wP Z (wP Z (Q3 (Q4 (Q2 [4] (S':=[_]) Z (Qb (Qg (Q7 (Q7 (Qg (Q7 ?_)))))))))))))
 have hE:=(Zi hm).symm
 replace hE:=Qv hLu1 hE
 replace hE:=Qv hLj_1 hE
 replace hE:=hE.symm
 subst hE
 refine Ql (Hr:=[]) [] Tryz.results106 (Qc Z) ⟨Z,Z,Z⟩ (asK [] Z) Z Z (.inl Z)
 replace hm:=Qz hm z
 refine Q2 [8,7,0,1] (S':=V4 ..) Z (Qq (Qh (Q4 (Q1 (wP Z ?_)))))
 obtain ⟨aD,hm⟩:=Qu hm
 refine QH (d:=18) (v':=.int .i64 ((j + 1:Nat):Int)) (S':=V4 ..) Z Z (Q1J (a:=j) (b:=1) aD) (Q1b (S':=V4 ..) Z Z Z Z Z (Q3 ?_))
 have hE:=(Zi hm).symm
 replace hE:=QO hLu1 hE
 refine Q1a (_,j + 1) (Nat.lt_succ_self _) hE [8,7,0,1] Z (asK [2] Z) Z
 replace hm:=Qz hm a7
 refine Q2 [] (S':=[]) Z (Q1x (Qk (Qk (QJ ?_))))
 have hE:=(Zi hm).symm
 replace hE:=Qv hLu1 hE
 refine Q9 () hE [] Z (asK [] Z) Z
 rintro _ hE
 try dsimp only
 have hm:=QO hLj_1 hE
 try dsimp only at hm
 refine Q5 (Q1 (wP Z (Q3 (Q4 (Qb ?_)))))
 have hE:=(Zi hm).symm
 replace hE:=hE.symm
 subst hE
 refine Ql (Hr:=[]) [] Tryz.results106 (Qc Z) ⟨Z,Z,Z⟩ (asK [] Z) Z Z (.inl Z)
theorem Q8G (N:Nat) (qp0:OA) (qc1:Nat) (l0:List V) (o0:Bool) (hm:Q47 N l0 = some o0):Q1o Tryz.prog 62 [.slice qp0 l0.length qc1,.func (.func 63) #[] #[]] [.sli 3 R_V qp0 qc1 l0] [] (fun v Φr Hr=>v = .bool o0 ∧ Φr = [] ∧ Hr = []):=by
 unfold Q47 at hm
 refine QD Tryz.func62 Z Tryz.ntmps62 Z (S:=[_,_]) Z (fun C=>(Q5 (Q1 (wP Z (Q3 (Q4 (Q2 [0,1] (S':=[_,_]) Z (Q5 (Q1 (wP Z (wP Z ?_)))))))))))
 obtain ⟨v7,hc7,hm⟩:=Q6 hm
 refine wC [] [] Z fn_106 Z (Q9C N qp0 qc1 l0 _ hc7) (asK [0] Z) Z (H':=[]) Z ?_
 rintro _ _ _ ⟨rfl,rfl,rfl⟩
 refine wP Z (wP Z (Q3 (Q4 (Q2 [4] (S':=[_]) Z (Qb ?_)))))
 have hE:=(Zi hm).symm
 replace hE:=hE.symm
 subst hE
 refine Ql (Hr:=[]) [] Tryz.results62 (Qc Z) ⟨Z,Z,Z⟩ (asK [] Z) Z Z (.inl Z)
end Go.Proofs.YtbgodclhmgmcgaaGreatDoor
