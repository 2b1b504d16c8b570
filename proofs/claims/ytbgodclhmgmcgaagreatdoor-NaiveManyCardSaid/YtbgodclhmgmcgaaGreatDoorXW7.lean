import Derived.Test.YtbgodclhmgmcgaaGreatDoorXW6
namespace Go.Proofs.YtbgodclhmgmcgaaGreatDoor
open Go.RowKit
set_option maxRecDepth 100000
set_option maxHeartbeats 4000000
theorem Qba (N:Nat) (a8:OA) (a9:Nat) (l0:List Qn) (aA:OA) (aB:Nat) (l1:List Qp) (aC:OA) (aD:Nat) (l2:List QU) (o0:Bool) (hm:Q6g N l0 l1 l2 = some o0):Q1o Tryz.prog 31 [.agg #[.slice a8 l0.length a9,.slice aA l1.length aB],.slice aC l2.length aD] [.sli 2 Qf a8 a9 l0,.sli 5 Qe aA aB l1,.sli 3 Q4N aC aD l2] [] (fun v Φr Hr=>v = .bool o0 ∧ Φr = [] ∧ Hr = []):=by
 unfold Q6g at hm
 refine QD Tryz.func31 Z Tryz.ntmps31 Z (S:=[_,_]) Z (fun C=>(Q5 (Q1 (wB Z (fun g2=>(wP Z (Q3 (Q4 (Q2 [2,1] (S':=[_,_]) Z (Q5 (Q1 (wP Z (Q3 (Q4 (Q5 ?_)))))))))))))))
 obtain ⟨aL,hm,hLj_1⟩:=Q1w hm
 refine QI (σ:=Unit) (fun _=>aL = .inl ()) (fun _=>[]) (fun _=>[]) (fun _=>[]) ?_ ?_
 refine Q5 (Q1 (wP Z (wN Z Q7A (wP Z (Q3 (Q4 (Q2 [10,9,8,5,2] (S':=V5 ..) Z (Qw (Q1E (σ:=Nat × Nat × Int) (fun (a6,j,s)=>Q1M (Q87 N l2 l0) a6 (j,s) = some aL) (fun (a6,j,s)=>a6) (fun (a6,j,s)=>[(10,.int .i64 ((j:Nat):Int)),(9,.int .i64 ((l2.length:Nat):Int)),(8,.slice aC l2.length aD),(5,.int .i64 s),(2,.pointer (some ⟨g2,0,none⟩))]) (fun (a6,j,s)=>[.sli 3 Q4N aC aD l2,.sli 2 Qf a8 a9 l0,.sli 5 Qe aA aB l1]) (fun (a6,j,s)=>[.blk g2 [.slice a8 l0.length a9,.slice aA l1.length aB] 25]) (N,0,0) hm [10,9,8,5,2] Z (asK [2,0,1] Z) Z (fun s_ hm=>?_))))))))))
 obtain ⟨a6,j,s⟩:=s_
 try dsimp only at hm ⊢
 obtain ⟨b6,b7,aQ,hq,hLu1⟩:=Q1e hm
 clear hm
 subst aQ
 replace hm:=hq
 clear hq
 unfold Q87 at hm
 try dsimp only at hm
 refine Q5 (Q1 (wP Z (QH (d:=11) (v':=.bool (decide (j < l2.length))) (S':=V5 ..) Z Z (Q2z (a:=j) (b:=l2.length)) (Q3 (Q4 (Q5 ?_))))))
 refine Qj Z (fun aG=>?_) (fun aG=>?_)
 replace hm:=QA hm aG
 refine Q2 [10,9,8,5,2] (S':=V5 ..) Z (Qq (Q4 (Q5 (Qw (Q5 (Q1 ?_))))))
 obtain ⟨a1,aR,hm⟩:=Q6 hm
 refine Q1F 0 j Z Z Z Zq Z Z Z Z Z aR Q7A Q4s (fun b8 b9 b4 aY=>(Q22 Q74 1 Z (fun aE aS _=>?_)))
 subst aS
 refine Q21 1 0 Z Z Z Zq Z Z Z (cs:=V3 ..) Z Q4s tA_71 Z Z (QE Z Z Z Zq Z tZ_71 Z (fun g7=>(wS 0 0 Z Q4s (all':=V3 ..) Z (H':=[_,_]) Z (Q3 (Q4 (Q2 [7,10,9,8,5,2] (S':=V6 ..) Z (Q5 (Q5 ?_))))))))
 obtain ⟨aT,hm,hLj_2⟩:=Q6 hm
 unfold Qak at hm
 refine QI (σ:=Bool) (fun q=>aT = q) (fun q=>[(7,.pointer (some ⟨g7,0,none⟩)),(10,.int .i64 ((j:Nat):Int)),(9,.int .i64 ((l2.length:Nat):Int)),(8,.slice aC l2.length aD),(2,.pointer (some ⟨g2,0,none⟩)),(53,.bool q)]) (fun q=>[.sli 3 R_V aE.1 aE.2 a1.args,.sli 3 Q4N aC aD l2,.sli 2 Qf a8 a9 l0,.sli 5 Qe aA aB l1]) (fun q=>[.blk g7 [.int .i64 (a1.id),.int .i64 (a1.ty),.slice aE.1 a1.args.length aE.2] 71,.blk g2 [.slice a8 l0.length a9,.slice aA l1.length aB] 25]) ?_ ?_
 rcases QG hm with ⟨z,hm⟩ | ⟨z,hm⟩
 refine Q18 [0,1,2,3,4,5,6,7,8,9,10,11,12,13,14,15,16,17,18,19,20,21,22,23,24,25,26,27,28,29,30,31,32,33,34,35,36,37,39] Z Z (fun hok=>(Q8 hok 0 Z Z Z Zq Z Z Z Q63 (Qm hok 1 0 0 Z Z Z Zq Z Z Z Z (cs:=[_]) Z Q1A Q1N Z Z (xP hok 2 Z (xP hok 3 Z (xP hok 4 Z (Q1D (d:=18) (v':=.bool true) (S':=V10 ..) Z Z (Q1l z) (xO hok 5 Z (xO hok 6 Z (xO hok 7 Z (xP hok 8 Z (xP hok 9 Z (xO hok 10 Z (xO hok 11 Z ?_))))))))))))))
 refine xO hok 12 Z (xP hok 13 Z (xP hok 14 Z (xO hok 15 Z (xO hok 16 Z (xO hok 17 Z (xO hok 18 Z (xO hok 19 Z (xO hok 20 Z (xP hok 21 Z (xP hok 22 Z (xO hok 23 Z (xO hok 24 Z (xO hok 25 Z ?_)))))))))))))
 refine xO hok 26 Z (xO hok 27 Z (xO hok 28 Z (xO hok 29 Z (xO hok 30 Z (xO hok 31 Z (xO hok 32 Z (xO hok 33 Z (xP hok 34 Z (xP hok 35 Z (xO hok 36 Z (xO hok 37 Z (xS hok 38 Z (wO Z ?_)))))))))))))
 refine Q3 (QV [0,1,2,3,4,5] [0] Z Z (xP hok 39 Z (Q11 hok Z ?_)))
 have hE:=(Zi hm).symm
 refine Q9 true hE [7,10,9,8,2,53] Z (asK [0,3,4,5] Z) Z
 rcases QG hm with ⟨a0,hm⟩ | ⟨a0,hm⟩
 refine Q18 [0,1,2,3,4,5,6,7,8,9,10,11,12,13,14,15,16,17,18,19,20,21,22,23,24,25,26,27,28,29,30,31,32,33,34,35,36,37,39] Z Z (fun hok=>(Q8 hok 0 Z Z Z Zq Z Z Z Q63 (Qm hok 1 0 0 Z Z Z Zq Z Z Z Z (cs:=[_]) Z Q1A Q1N Z Z (xP hok 2 Z (xP hok 3 Z (xP hok 4 Z (Q1D (d:=18) (v':=.bool false) (S':=V10 ..) Z Z (Q1l z) (Q8 hok 5 Z Z Z Zq Z Z Z Q63 (Qm hok 6 0 0 Z Z Z Zq Z Z Z Z (cs:=[_]) Z Q1A Q1N Z Z (xP hok 7 Z (xP hok 8 Z (xP hok 9 Z (Q1D (d:=23) (v':=.bool true) (S':=V15 ..) Z Z (Q1l a0) (xO hok 10 Z ?_))))))))))))))
 refine xO hok 11 Z (xO hok 12 Z (xP hok 13 Z (xP hok 14 Z (xO hok 15 Z (xO hok 16 Z (xO hok 17 Z (xO hok 18 Z (xO hok 19 Z (xO hok 20 Z (xP hok 21 Z (xP hok 22 Z (xO hok 23 Z (xO hok 24 Z ?_)))))))))))))
 refine xO hok 25 Z (xO hok 26 Z (xO hok 27 Z (xO hok 28 Z (xO hok 29 Z (xO hok 30 Z (xO hok 31 Z (xO hok 32 Z (xO hok 33 Z (xP hok 34 Z (xP hok 35 Z (xO hok 36 Z (xO hok 37 Z (xS hok 38 Z ?_)))))))))))))
 refine wO Z (Q3 (QV [0,1,2,3,4,5] [0,0] Z Z (xP hok 39 Z (Q11 hok Z ?_))))
 have hE:=(Zi hm).symm
 refine Q9 true hE [7,10,9,8,2,53] Z (asK [0,3,4,5] Z) Z
 rcases QG hm with ⟨a5,hm⟩ | ⟨a5,hm⟩
 refine Q18 [0,1,2,3,4,5,6,7,8,9,10,11,12,13,14,15,16,17,18,19,20,21,22,23,24,25,26,27,28,29,30,31,32,33,34,35,36,37,39] Z Z (fun hok=>(Q8 hok 0 Z Z Z Zq Z Z Z Q63 (Qm hok 1 0 0 Z Z Z Zq Z Z Z Z (cs:=[_]) Z Q1A Q1N Z Z (xP hok 2 Z (xP hok 3 Z (xP hok 4 Z (Q1D (d:=18) (v':=.bool false) (S':=V10 ..) Z Z (Q1l z) (Q8 hok 5 Z Z Z Zq Z Z Z Q63 (Qm hok 6 0 0 Z Z Z Zq Z Z Z Z (cs:=[_]) Z Q1A Q1N Z Z (xP hok 7 Z (xP hok 8 Z (xP hok 9 Z (Q1D (d:=23) (v':=.bool false) (S':=V15 ..) Z Z (Q1l a0) (Q8 hok 10 Z Z Z Zq Z Z Z Q8m ?_))))))))))))))
 refine Qm hok 11 0 1 Z Z Z Zq Z Z Z Z (cs:=[_]) Z Q1A Q1N Z Z (xP hok 12 Z (xP hok 13 Z (xP hok 14 Z (Q1D (d:=28) (v':=.bool true) (S':=V20 ..) Z Z (Q1l a5) (xO hok 15 Z (xO hok 16 Z (xO hok 17 Z (xO hok 18 Z (xO hok 19 Z (xO hok 20 Z (xP hok 21 Z (xP hok 22 Z (xO hok 23 Z ?_)))))))))))))
 refine xO hok 24 Z (xO hok 25 Z (xO hok 26 Z (xO hok 27 Z (xO hok 28 Z (xO hok 29 Z (xO hok 30 Z (xO hok 31 Z (xO hok 32 Z (xO hok 33 Z (xP hok 34 Z (xP hok 35 Z (xO hok 36 Z (xO hok 37 Z ?_)))))))))))))
 refine xS hok 38 Z (wO Z (Q3 (QV [0,1,2,3,4,5] [0,0,0] Z Z (xP hok 39 Z (Q11 hok Z ?_)))))
 have hE:=(Zi hm).symm
 refine Q9 true hE [7,10,9,8,2,53] Z (asK [0,3,4,5] Z) Z
 rcases QG hm with ⟨a7,hm⟩ | ⟨a7,hm⟩
 refine Q18 [0,1,2,3,4,5,6,7,8,9,10,11,12,13,14,15,16,17,18,19,20,21,22,23,24,25,26,27,28,29,30,31,32,33,34,35,36,37,39] Z Z (fun hok=>(Q8 hok 0 Z Z Z Zq Z Z Z Q63 (Qm hok 1 0 0 Z Z Z Zq Z Z Z Z (cs:=[_]) Z Q1A Q1N Z Z (xP hok 2 Z (xP hok 3 Z (xP hok 4 Z (Q1D (d:=18) (v':=.bool false) (S':=V10 ..) Z Z (Q1l z) (Q8 hok 5 Z Z Z Zq Z Z Z Q63 (Qm hok 6 0 0 Z Z Z Zq Z Z Z Z (cs:=[_]) Z Q1A Q1N Z Z (xP hok 7 Z (xP hok 8 Z (xP hok 9 Z (Q1D (d:=23) (v':=.bool false) (S':=V15 ..) Z Z (Q1l a0) (Q8 hok 10 Z Z Z Zq Z Z Z Q8m ?_))))))))))))))
 refine Qm hok 11 0 1 Z Z Z Zq Z Z Z Z (cs:=[_]) Z Q1A Q1N Z Z (xP hok 12 Z (xP hok 13 Z (xP hok 14 Z (Q1D (d:=28) (v':=.bool false) (S':=V20 ..) Z Z (Q1l a5) (Q8 hok 15 Z Z Z Zq Z Z Z Q8m (Qm hok 16 0 1 Z Z Z Zq Z Z Z Z (cs:=[_]) Z Q1A Q1N Z Z (Q8 hok 17 Z Z Z Zq Z Z Z Q4V (Qm hok 18 1 0 Z Z Z Zq Z Z Z Z (cs:=[_]) Z Q8y Q91 Z Z (Q4u hok 19 Z Z Z Zq Z Z Z Q7z (xP hok 20 Z (xP hok 21 Z (xP hok 22 Z (Q1D (d:=36) (v':=.bool true) (S':=V28 ..) Z Z (Q1l a7) ?_)))))))))))))
 refine xO hok 23 Z (xO hok 24 Z (xO hok 25 Z (xO hok 26 Z (xO hok 27 Z (xO hok 28 Z (xO hok 29 Z (xO hok 30 Z (xO hok 31 Z (xO hok 32 Z (xO hok 33 Z (xP hok 34 Z (xP hok 35 Z (xO hok 36 Z ?_)))))))))))))
 refine xO hok 37 Z (xS hok 38 Z (wO Z (Q3 (QV [0,1,2,3,4,5] [1,0,0,0,0] Z Z (xP hok 39 Z (Q11 hok Z ?_))))))
 have hE:=(Zi hm).symm
 refine Q9 true hE [7,10,9,8,2,53] Z (asK [0,3,4,5] Z) Z
 obtain ⟨aM,hm⟩:=Qu hm
 obtain ⟨bA,aN,hm⟩:=Q6 hm
 rcases QG hm with ⟨aH,hm⟩ | ⟨aH,hm⟩
 refine Q18 [0,1,2,3,4,5,6,7,8,9,10,11,12,13,14,15,16,17,18,19,20,21,22,23,24,25,26,27,28,29,30,31,32,33,34,35,36,37,39] Z Z (fun hok=>(Q8 hok 0 Z Z Z Zq Z Z Z Q63 (Qm hok 1 0 0 Z Z Z Zq Z Z Z Z (cs:=[_]) Z Q1A Q1N Z Z (xP hok 2 Z (xP hok 3 Z (xP hok 4 Z (Q1D (d:=18) (v':=.bool false) (S':=V10 ..) Z Z (Q1l z) (Q8 hok 5 Z Z Z Zq Z Z Z Q63 (Qm hok 6 0 0 Z Z Z Zq Z Z Z Z (cs:=[_]) Z Q1A Q1N Z Z (xP hok 7 Z (xP hok 8 Z (xP hok 9 Z (Q1D (d:=23) (v':=.bool false) (S':=V15 ..) Z Z (Q1l a0) (Q8 hok 10 Z Z Z Zq Z Z Z Q8m ?_))))))))))))))
 refine Qm hok 11 0 1 Z Z Z Zq Z Z Z Z (cs:=[_]) Z Q1A Q1N Z Z (xP hok 12 Z (xP hok 13 Z (xP hok 14 Z (Q1D (d:=28) (v':=.bool false) (S':=V20 ..) Z Z (Q1l a5) (Q8 hok 15 Z Z Z Zq Z Z Z Q8m (Qm hok 16 0 1 Z Z Z Zq Z Z Z Z (cs:=[_]) Z Q1A Q1N Z Z (Q8 hok 17 Z Z Z Zq Z Z Z Q4V (Qm hok 18 1 0 Z Z Z Zq Z Z Z Z (cs:=[_]) Z Q8y Q91 Z Z (Q4u hok 19 Z Z Z Zq Z Z Z Q7z (xP hok 20 Z (xP hok 21 Z (xP hok 22 Z (Q1D (d:=36) (v':=.bool false) (S':=V28 ..) Z Z (Q1l a7) ?_)))))))))))))
 refine Q8 hok 23 Z Z Z Zq Z Z Z tF_71_2 (Qm hok 24 0 2 Z Z Z Zq Z Z Z Z (cs:=[_]) Z Q7i Q7g Z Z (Q4u hok 25 Z Z Z Zq Z Z Z Q5a (Q8 hok 26 Z Z Z Zq Z Z Z Q4V (Qm hok 27 1 0 Z Z Z Zq Z Z Z Z (cs:=[_]) Z Q8y Q91 Z Z (Q8 hok 28 Z Z Z Zq Z Z Z Q8m (Qm hok 29 0 1 Z Z Z Zq Z Z Z Z (cs:=[_]) Z Q1A Q1N Z Z (Q4L hok 30 4 a1.ty.toNat Z Z Z Zq Z Z Z Z Z (Q1G aM) aN Q7z tS_69 (fun aZ b0 aU aP=>(Q6c Q37 1 Z (fun b1 aI _=>?_))))))))))
 subst aI
 refine Q8 hok 31 Z Z Z Zq Z Z Z Q97 (Q7n hok 32 0 1 Z Z Z Zq Z Z Z Z (cs:=[_]) Z Q1A Q1N Z Z (xP hok 33 Z (xP hok 34 Z (xP hok 35 Z (Q1D (d:=49) (v':=.bool true) (S':=V41 ..) Z Z (Q1l aH) (xO hok 36 Z (xO hok 37 Z (xS hok 38 Z (wO Z (Q3 (QV [0,1,2,3,4,5,6,7] [0,1,0,1,0,0,0,0] Z Z (xP hok 39 Z (Q11 hok Z ?_)))))))))))))
 have hE:=(Zi hm).symm
 refine Q9 true hE [7,10,9,8,2,53] Z (asK [2,5,6,7] Z) Z
 obtain ⟨b2,aV,hm⟩:=Q6 hm
 refine Q18 [0,1,2,3,4,5,6,7,8,9,10,11,12,13,14,15,16,17,18,19,20,21,22,23,24,25,26,27,28,29,30,31,32,33,34,35,36,37,39] Z Z (fun hok=>(Q8 hok 0 Z Z Z Zq Z Z Z Q63 (Qm hok 1 0 0 Z Z Z Zq Z Z Z Z (cs:=[_]) Z Q1A Q1N Z Z (xP hok 2 Z (xP hok 3 Z (xP hok 4 Z (Q1D (d:=18) (v':=.bool false) (S':=V10 ..) Z Z (Q1l z) (Q8 hok 5 Z Z Z Zq Z Z Z Q63 (Qm hok 6 0 0 Z Z Z Zq Z Z Z Z (cs:=[_]) Z Q1A Q1N Z Z (xP hok 7 Z (xP hok 8 Z (xP hok 9 Z (Q1D (d:=23) (v':=.bool false) (S':=V15 ..) Z Z (Q1l a0) (Q8 hok 10 Z Z Z Zq Z Z Z Q8m ?_))))))))))))))
 refine Qm hok 11 0 1 Z Z Z Zq Z Z Z Z (cs:=[_]) Z Q1A Q1N Z Z (xP hok 12 Z (xP hok 13 Z (xP hok 14 Z (Q1D (d:=28) (v':=.bool false) (S':=V20 ..) Z Z (Q1l a5) (Q8 hok 15 Z Z Z Zq Z Z Z Q8m (Qm hok 16 0 1 Z Z Z Zq Z Z Z Z (cs:=[_]) Z Q1A Q1N Z Z (Q8 hok 17 Z Z Z Zq Z Z Z Q4V (Qm hok 18 1 0 Z Z Z Zq Z Z Z Z (cs:=[_]) Z Q8y Q91 Z Z (Q4u hok 19 Z Z Z Zq Z Z Z Q7z (xP hok 20 Z (xP hok 21 Z (xP hok 22 Z (Q1D (d:=36) (v':=.bool false) (S':=V28 ..) Z Z (Q1l a7) ?_)))))))))))))
 refine Q8 hok 23 Z Z Z Zq Z Z Z tF_71_2 (Qm hok 24 0 2 Z Z Z Zq Z Z Z Z (cs:=[_]) Z Q7i Q7g Z Z (Q4u hok 25 Z Z Z Zq Z Z Z Q5a (Q8 hok 26 Z Z Z Zq Z Z Z Q4V (Qm hok 27 1 0 Z Z Z Zq Z Z Z Z (cs:=[_]) Z Q8y Q91 Z Z (Q8 hok 28 Z Z Z Zq Z Z Z Q8m (Qm hok 29 0 1 Z Z Z Zq Z Z Z Z (cs:=[_]) Z Q1A Q1N Z Z (Q4L hok 30 4 a1.ty.toNat Z Z Z Zq Z Z Z Z Z (Q1G aM) aN Q7z tS_69 (fun aZ b0 aU aP=>(Q6c Q37 1 Z (fun b1 aI _=>?_))))))))))
 subst aI
 refine Q8 hok 31 Z Z Z Zq Z Z Z Q97 (Q7n hok 32 0 1 Z Z Z Zq Z Z Z Z (cs:=[_]) Z Q1A Q1N Z Z (xP hok 33 Z (xP hok 34 Z (xP hok 35 Z (Q1D (d:=49) (v':=.bool false) (S':=V41 ..) Z Z (Q1l aH) (Q8 hok 36 Z Z Z Zq Z Z Z tF_71_2 (Qm hok 37 0 2 Z Z Z Zq Z Z Z Z (cs:=[_]) Z Q7i Q7g Z Z (xS hok 38 Z (wC [] [0,1] Z fn_62 Z (Q8G N aE.1 aE.2 a1.args _ aV) (asK [2] Z) Z (H':=[_,_]) Z ?_)))))))))
 rintro _ _ _ ⟨rfl,rfl,rfl⟩
 refine Q3 (QV [0,1,2,3,4,5,6,7] [0,1,0,1,0,0,0,0] Z Z (xP hok 39 Z (Q11 hok Z ?_)))
 have hE:=(Zi hm).symm
 refine Q9 b2 hE [7,10,9,8,2,53] Z (asK [2,5,6,7] Z) Z
 rintro q hE
 try dsimp only
 have hm:=hLj_2
 rw [hE] at hm
 refine Qj Z (fun aJ=>?_) (fun aJ=>?_)
 replace hm:=QA hm aJ
 refine Q2 [] (S':=[]) Z (Q5 (Q1 (wP Z (Q3 (Q4 (Qb (Q7 (Qg (Q7 (Q7 (Qg (Q7 ?_))))))))))))
 have hE:=(Zi hm).symm
 replace hE:=Qv hLu1 hE
 replace hE:=Qv hLj_1 hE
 replace hE:=hE.symm
 subst hE
 refine Ql (Hr:=[]) [] Tryz.results31 (Qc Z) ⟨Z,Z,Z⟩ (asK [] Z) Z Z (.inl Z)
 replace hm:=Qz hm aJ
 refine Q2 [7,10,9,8,2] (S':=V5 ..) Z (Qq (Q4 (Q1 (wF Z Q63 (wD 0 0 Z Q1A Q1N Z (wP Z (Q3 (Qh (Q4 (Q2 [5,10,9,8,2] (S':=V5 ..) Z (Q1 (wP Z ?_))))))))))))
 obtain ⟨aW,hm⟩:=Qu hm
 refine QH (d:=56) (v':=.int .i64 ((j + 1:Nat):Int)) (S':=V5 ..) Z Z (Q1J (a:=j) (b:=1) aW) (Q1b (S':=V5 ..) Z Z Z Z Z (Q3 ?_))
 have hE:=(Zi hm).symm
 replace hE:=QO hLu1 hE
 refine Qs [1] Z (H':=[_]) Z ?_
 refine Q1a (_,j + 1,a1.id) (Nat.lt_succ_self _) hE [10,9,8,5,2] Z (asK [1,2,3] Z) Z
 replace hm:=Qz hm aG
 refine Q2 [] (S':=[]) Z (Q1x (Qk (Qk (QJ ?_))))
 have hE:=(Zi hm).symm
 replace hE:=Qv hLu1 hE
 refine Qs [] Z (H':=[]) Z ?_
 refine Q9 () hE [] Z (asK [] Z) Z
 rintro _ hE
 try dsimp only
 have hm:=QO hLj_1 hE
 try dsimp only at hm
 refine Q5 (Q1 (wP Z (Q3 (Q4 (Qb ?_)))))
 have hE:=(Zi hm).symm
 replace hE:=hE.symm
 subst hE
 refine Ql (Hr:=[]) [] Tryz.results31 (Qc Z) ⟨Z,Z,Z⟩ (asK [] Z) Z Z (.inl Z)
theorem Q8N (N:Nat) (z:Int) (o2:List Bool) (o6:List V) (hm:Q77 N z = some (o2,o6)):Q1o Tryz.prog 43 [.int .i64 z] [] [] (fun v Φr Hr=>∃ (o0:OA) (o1:Nat) (o3:Nat) (o4:OA) (o5:Nat) (o7:Nat),v = .agg #[.slice o0 o3 o1,.slice o4 o7 o5] ∧ Φr = [] ∧ Hr = [.own 4 1 Q1v (.slice o0 o3 o1) o2,.own 57 3 R_V (.slice o4 o7 o5) o6]):=by
 unfold Q77 at hm
 refine QD Tryz.func43 Z Tryz.ntmps43 Z (S:=[_]) Z (fun C=>(Q5 (Q1 (QE Z Z Z Zq Z Q7N Z (fun g2=>(Q3 (Q4 (Q5 (Q5 ?_)))))))))
 obtain ⟨aC,hm,hLj_1⟩:=Q6 hm
 refine QI (σ:=Bool) (fun s=>aC = s) (fun s=>[(0,.int .i64 z),(2,.pointer (some ⟨g2,0,none⟩)),(8,.bool s)]) (fun s=>[]) (fun s=>[.blk g2 [V1,V1] 100]) ?_ ?_
 refine Q1 (wP Z (wP Z (wP Z ?_)))
 refine Qt (d:=5) (S':=V4 ..) Z Z (fun a8=>?_) (fun a8=>?_)
 replace hm:=QA hm a8
 refine wO Z (wO Z (wP Z (Q3 ?_)))
 have hE:=(Zi hm).symm
 refine Q9 true hE [0,2,8] Z (asK [] Z) Z
 replace hm:=Qz hm a8
 refine wP Z (wP Z (wP Z (Q3 ?_)))
 have hE:=(Zi hm).symm
 refine Q9 (decide (z > 16)) hE [0,2,8] Z (asK [] Z) Z
 rintro s hE
 try dsimp only
 have hm:=hLj_1
 rw [hE] at hm
 refine Qj Z (fun a9=>?_) (fun a9=>?_)
 replace hm:=QA hm a9
 refine Q2 [2] (S':=[_]) Z (Q5 (Q1 (Q13 Z Z Z Zq Z Q7N tP_100 Z (out:=[_,_]) Z (wS 0 0 Z Q2v (all':=[_,_]) Z (H':=[_]) Z (Q3 (Q4 (Q2 [2] (S':=[_]) Z (Qb (Q7 ?_)))))))))
 have hE:=(Zi hm).symm
 obtain ⟨hE0,hE1⟩:=Prod.mk.inj hE
 clear hE
 replace hE0:=hE0.symm
 subst hE0
 replace hE1:=hE1.symm
 subst hE1
 refine Q23 4 1 Q1v (Q23 57 3 R_V ?_)
 refine Ql (Hr:=[_,_]) [1,0] Tryz.results43 (QW 2 Z Z Q2v Q57 Z Z) ⟨none,0,0,none,0,0,Z,Z,Z⟩ (asK [] Z) Z Z (.inl Z)
 replace hm:=Qz hm a9
 refine Q2 [0,2] (S':=[_,_]) Z (Qq (Q4 (Q5 ?_)))
 obtain ⟨a1,hm⟩:=Qu hm
 obtain ⟨a5,hm⟩:=Qu hm
 obtain ⟨a6,hm⟩:=Qu hm
 obtain ⟨a7,hm⟩:=Qu hm
 refine QI (σ:=OA × OA) (fun _=>True) (fun (j,q)=>[(2,.pointer (some ⟨g2,0,none⟩))]) (fun (j,q)=>[]) (fun (j,q)=>[.blk g2 [.slice j z.toNat z.toNat,.slice q z.toNat z.toNat] 100,.own 4 1 Q1v (.slice j z.toNat z.toNat) (List.replicate z.toNat false),.own 57 3 R_V (.slice q z.toNat z.toNat) (List.replicate z.toNat (⟨0,0,(⟨#[]⟩ : ByteArray)⟩ : V))]) ?_ ?_
 refine Q18 [0,2,4] Z Z (fun hok=>(xP hok 0 Z (xP hok 2 Z ?_)))
 refine Q3n hok 1 3 Z Z Z Z Z Z ?_ ?_
 refine Q9b (m:=z.toNat) Q1v false Z Z Z Zq Z Z Z (Q1G a1) (Q1G a1) tE_98 tR_4 Z Z (fun _ _=>⟨(),Z,Qr⟩) (Nat.le_trans (Nat.mul_le_mul_left _ a5) (by decide)) (Nat.le_trans a5 (by decide)) (fun aA=>(Q3 (QV [] [] Z Z (xS hok 3 Z (Q9b (m:=z.toNat) R_V (⟨0,0,(⟨#[]⟩ : ByteArray)⟩ : V) Z Z Z Zq Z Z Z (Q1G a6) (Q1G a6) Q5a tR_57 Z Z (fun _ _=>⟨(),Z,Qr⟩) (Nat.le_trans (Nat.mul_le_mul_left _ a7) (by decide)) (Nat.le_trans a7 (by decide)) (fun aB=>(Q3 (QV [] [] Z Z (Q6U hok 4 Z Z Z Zq Z Z Q7N tP_100 Z (out:=[_,_]) Z (xS hok 5 Z (wS 2 0 Z Q2v (all':=[_,_]) Z (H':=V3 ..) Z (Q3 (QV [] [] Z Z (Q11 hok Z (Qs [2,1,0] Z (H':=V3 ..) Z ?_)))))))))))))))
 refine Q9 (some ⟨aA,0,none⟩,some ⟨aB,0,none⟩) trivial [2] Z (asK [] Z) Z
 refine Q9b (m:=z.toNat) R_V (⟨0,0,(⟨#[]⟩ : ByteArray)⟩ : V) Z Z Z Zq Z Z Z (Q1G a6) (Q1G a6) Q5a tR_57 Z Z (fun _ _=>⟨(),Z,Qr⟩) (Nat.le_trans (Nat.mul_le_mul_left _ a7) (by decide)) (Nat.le_trans a7 (by decide)) (fun aB=>(Q3 (QV [] [] Z Z (xS hok 1 Z (Q9b (m:=z.toNat) Q1v false Z Z Z Zq Z Z Z (Q1G a1) (Q1G a1) tE_98 tR_4 Z Z (fun _ _=>⟨(),Z,Qr⟩) (Nat.le_trans (Nat.mul_le_mul_left _ a5) (by decide)) (Nat.le_trans a5 (by decide)) (fun aA=>(Q3 (QV [] [] Z Z (Q6U hok 4 Z Z Z Zq Z Z Q7N tP_100 Z (out:=[_,_]) Z (xS hok 5 Z (wS 2 0 Z Q2v (all':=[_,_]) Z (H':=V3 ..) Z (Q3 (QV [] [] Z Z (Q11 hok Z (Qs [2,0,1] Z (H':=V3 ..) Z ?_)))))))))))))))
 refine Q9 (some ⟨aA,0,none⟩,some ⟨aB,0,none⟩) trivial [2] Z (asK [] Z) Z
 rintro ⟨j,q⟩ _
 try dsimp only
 refine Qb ?_
 have hE:=(Zi hm).symm
 obtain ⟨hE0,hE1⟩:=Prod.mk.inj hE
 clear hE
 replace hE0:=hE0.symm
 subst hE0
 replace hE1:=hE1.symm
 subst hE1
 refine Ql (Hr:=[_,_]) [1,2] Tryz.results43 (QW 0 Z Z Q2v Q57 Z Z) ⟨j,z.toNat,z.toNat,q,z.toNat,z.toNat,Z,Z,Z⟩ (asK [] Z) Z Z (.inl Z)
theorem Clone67f_s (p:OA) (c:Nat) (l:List Int) (hb:l.length ≤ 17592186044416):Q1o Tryz.prog 67 [.slice p l.length c] [.sli 1 Q2i p c l] [] (fun v Φr Hr=>∃ p' c',v = .slice p' l.length c' ∧ Φr = [] ∧ Hr = [.own 3 1 Q2i v l]):=by
 refine QD Tryz.func67 Z Tryz.ntmps67 Z (S:=[_]) Z (fun C=>(wc_know (fun F w h=>sli_nil (h _ (Q10 (k:=0) Z))) (fun isnil=>(Q5 (Q1 (wP Z (Q3 (Q4 (Q5 (Q5 (Q1 (wP Z (wl_eqlNil Z Z Z Zq Z Z Z Q71 (Q3 (Q4 ?_)))))))))))))))
 refine Q2 [4,2,0] (S':=V3 ..) Z ?_
 refine Qj Z (fun h4=>?_) (fun h4=>?_)
 replace h4:=Qbj h4
 obtain rfl:=isnil h4
 subst h4
 refine Q3i 3 1 Q2i (Q5 (Q1 (Q1b (S':=[_,_]) Z Z Z Z Z (Q3 (Q4 (Qb (Q7 (Ql (Hr:=[.own 3 1 Q2i (V1) []]) [0] Tryz.results67 (Qc Z) ?_ (asK [] Z) Z Z (.inl Z)))))))))
 exact ⟨none,0,Z,Z,Z⟩
 replace h4:=QaD h4
 refine Qq (Q4 (Q5 (Q1 (Qy Z Z Z Zq Z Q71 Q1A tZ_3 Z (zs:=[]) (by kernel_rfl) Z (out:=[]) Z (fun g5=>(wP Z (Q2f (sz:=1) (m:=0) Q2i [] 0 Z (fun F w hφ=>Z) Z (by decide) (H':=[_]) Z (wl_append 0 0 Z Z Z Zq Z Z Z Z Z Q71 tR_3 Z Z (by simp; omega) (by simp; omega) (H2:=fun p7 c7=>[.own 3 1 Q2i (.slice p7 (l).length c7) l]) (fun _ _=>Z) (fun p7 c7=>(Q1b (S':=V5 ..) Z Z Z Z Z (Q3 (Q4 (Q2 [2,4,0] (S':=V3 ..) Z (Qb (Ql (Hr:=[.own 3 1 Q2i (.slice p7 (l).length c7) l]) [0] Tryz.results67 (Qc Z) ?_ (asK [] Z) Z Z (.inl Z))))))))))))))))
 exact ⟨_,_,Z,Z,Z⟩
theorem Clone68f_s (p:OA) (c:Nat) (l:List V) (hb:l.length ≤ 4398046511104):Q1o Tryz.prog 68 [.slice p l.length c] [.sli 3 R_V p c l] [] (fun v Φr Hr=>∃ p' c',v = .slice p' l.length c' ∧ Φr = [] ∧ Hr = [.own 57 3 R_V v l]):=by
 refine QD Tryz.func68 Z Tryz.ntmps68 Z (S:=[_]) Z (fun C=>(wc_know (fun F w h=>sli_nil (h _ (Q10 (k:=0) Z))) (fun isnil=>(Q5 (Q1 (wP Z (Q3 (Q4 (Q5 (Q5 (Q1 (wP Z (wl_eqlNil Z Z Z Zq Z Z Z Q5a (Q3 (Q4 ?_)))))))))))))))
 refine Q2 [4,2,0] (S':=V3 ..) Z ?_
 refine Qj Z (fun h4=>?_) (fun h4=>?_)
 replace h4:=Qbj h4
 obtain rfl:=isnil h4
 subst h4
 refine Q3i 57 3 R_V (Q5 (Q1 (Q1b (S':=[_,_]) Z Z Z Z Z (Q3 (Q4 (Qb (Q7 (Ql (Hr:=[.own 57 3 R_V (V1) []]) [0] Tryz.results68 (Qc Z) ?_ (asK [] Z) Z Z (.inl Z)))))))))
 exact ⟨none,0,Z,Z,Z⟩
 replace h4:=QaD h4
 refine Qq (Q4 (Q5 (Q1 (Qy Z Z Z Zq Z Q5a Q1H Q2Y Z (zs:=[]) (by kernel_rfl) Z (out:=[]) Z (fun g5=>(wP Z (Q2f (sz:=3) (m:=0) R_V [] 0 Z (fun F w hφ=>Z) Z (by decide) (H':=[_]) Z (wl_append 0 0 Z Z Z Zq Z Z Z Z Z Q5a tR_57 Z Z (by simp; omega) (by simp; omega) (H2:=fun p7 c7=>[.own 57 3 R_V (.slice p7 (l).length c7) l]) (fun _ _=>Z) (fun p7 c7=>(Q1b (S':=V5 ..) Z Z Z Z Z (Q3 (Q4 (Q2 [2,4,0] (S':=V3 ..) Z (Qb (Ql (Hr:=[.own 57 3 R_V (.slice p7 (l).length c7) l]) [0] Tryz.results68 (Qc Z) ?_ (asK [] Z) Z Z (.inl Z))))))))))))))))
 exact ⟨_,_,Z,Z,Z⟩
theorem QbF (N:Nat) (a0:Int) (qp0:OA) (qn1:Nat) (qc2:Nat) (l1:List Int) (qp3:OA) (qn4:Nat) (qc5:Nat) (l2:List V) (qg6:Nat) (qp7:OA) (qn8:Nat) (qc9:Nat) (l3:List QL)  (hm:Q6V N a0 l1 l2 l3 = some ()):Q1o Tryz.prog 33 [.agg #[.int .i64 a0,.slice qp0 qn1 qc2],.slice qp3 qn4 qc5,.pointer (some ⟨qg6,0,none⟩)] [] [.own 3 1 Q2i (.slice qp0 qn1 qc2) l1,.own 57 3 R_V (.slice qp3 qn4 qc5) l2,.blk qg6 [.slice qp7 qn8 qc9] 31,.own 41 2 Q12 (.slice qp7 qn8 qc9) l3] (fun v Φr Hr=>∃ (o0:OA) (o1:Nat),v = .tuple #[] ∧ Φr = [] ∧ Hr = [.own 57 3 R_V (.slice qp3 qn4 qc5) l2,.blk qg6 [.slice o0 ((l3 ++ ([(⟨a0,l1⟩ : QL)])).length) o1] 31,.own 41 2 Q12 (.slice o0 ((l3 ++ ([(⟨a0,l1⟩ : QL)])).length) o1) (l3 ++ ([(⟨a0,l1⟩ : QL)]))]):=by
 unfold Q6V at hm
 refine QD Tryz.func33 Z Tryz.ntmps33 Z (S:=V3 ..) Z (fun C=>(Q5 (Q1 (wB Z (fun g3=>(Q3 (Q4 (Q2 [3,2] (S':=[_,_]) Z (Q1 (wD 3 0 Z tS_31 tA_31 Z (QR 0 0 Z Z Z Zq Z Z Z (cs:=[_,_]) Z tS_41 tA_41 Z Z (Qy Z Z Z Zq Z tE_31 tS_41 tZ_41 Z (zs:=[.int .i64 0,V1]) (by kernel_rfl) Z (out:=[_,_]) Z (fun g7=>(Q15 2 Z (fun hzqn1 _=>?_)))))))))))))))
 subst hzqn1
 refine Q2w 2 Z (H':=V5 ..) Z (Q3f (.sli 1 Q2i qp0 qc2 l1) (fun F w hφ=>Q1K (hφ _ (Q10 (k:=0) Z))) ?_)
 obtain ⟨hg8,hm⟩:=Qu hm
 refine Q1S ([(⟨a0,l1⟩ : QL)]) 4 0 Z Z Z Zq Z Z Z Z Z (fun F w hφ=>⟨[.int .i64 a0,.slice qp0 l1.length qc2],[],Z,Z,⟨(qp0,qc2),Z,(QS (hφ _ (Q10 (k:=0) Z)) Qr)⟩,Z⟩) tE_31 tR_41 Z Z (Nat.le_trans hg8 (by decide)) (Nat.le_trans (Nat.mul_le_mul_right _ hg8) (by decide)) (H2:=fun p8 c8=>[_,_,_,_,.own 41 2 Q12 (.slice p8 ((l3 ++ ([(⟨a0,l1⟩ : QL)])).length) c8) (l3 ++ ([(⟨a0,l1⟩ : QL)]))]) (fun _ _=>Z) (fun p8 c8=>(Q2s 0 Z (H':=V4 ..) Z (wS 2 0 Z tS_31 (all':=[_]) Z (H':=V4 ..) Z (Q3 ?_))))
 have hE:=(Zi hm).symm
 refine Q4o (Hr:=V3 ..) [1,2,3] Tryz.results33 ⟨p8,c8,Z,Z,Z⟩ (asK [] Z) Z Z (.inr Z)
theorem Qb9 (N:Nat) (qp0:OA) (qc1:Nat) (l0:List Int) (qp2:OA) (qc3:Nat) (l1:List V) (qg4:Nat) (qg5:Nat) (qp6:OA) (qn7:Nat) (qc8:Nat) (l2:List QL) (qg9:Nat) (a3:Int)  (hm:Q8k N l0 l1 l2 a3 = some ()):Q1o Tryz.prog 66 [.slice qp0 l0.length qc1,.slice qp2 l1.length qc3,.pointer (some ⟨qg4,0,none⟩),.pointer (some ⟨qg9,0,none⟩)] [.sli 1 Q2i qp0 qc1 l0,.sli 3 R_V qp2 qc3 l1] [.blk qg4 [.func (.func 33) #[] #[.pointer (some ⟨qg5,0,none⟩)]] 88,.blk qg5 [.slice qp6 qn7 qc8] 31,.own 41 2 Q12 (.slice qp6 qn7 qc8) l2,.blk qg9 [.int .i64 a3] 3] (fun v Φr Hr=>∃ (o0:OA) (o1:Nat),v = .tuple #[] ∧ Φr = [] ∧ Hr = [.blk qg4 [.func (.func 33) #[] #[.pointer (some ⟨qg5,0,none⟩)]] 88,.blk qg5 [.slice o0 ((l2 ++ ([(⟨a3,l0⟩ : QL)])).length) o1] 31,.own 41 2 Q12 (.slice o0 ((l2 ++ ([(⟨a3,l0⟩ : QL)])).length) o1) (l2 ++ ([(⟨a3,l0⟩ : QL)])),.blk qg9 [.int .i64 a3] 3]):=by
 unfold Q8k at hm
 refine QD Tryz.func66 Z Tryz.ntmps66 Z (S:=V4 ..) Z (fun C=>?_)
 obtain ⟨hg9,hm⟩:=Qu hm
 obtain ⟨hg12,hm⟩:=Qu hm
 obtain ⟨_,hc13,hm⟩:=Q6 hm
 try dsimp only at hm
 refine Q18 [0,1,2,4,5] Z Z (fun hok=>(Qm hok 0 0 0 Z Z Z Zq Z Z Z Z (cs:=[_]) Z tS_88 tA_88 Z Z (Qm hok 1 3 0 Z Z Z Zq Z Z Z Z (cs:=[_]) Z Q1A Q1N Z Z (xP hok 2 Z (xP hok 5 Z (xS hok 3 Z (wC [] [0,1,2,3] Z fn_67 Z (Clone67f_s qp0 qc1 l0 hg9) (asK [0] Z) Z (H':=V4 ..) Z ?_)))))))
 rintro _ _ _ ⟨p9,c9,rfl,rfl,rfl⟩
 refine Q3 (QV [0,1] [4,1] Z Z (Q6U hok 4 Z Z Z Zq Z Z tZ_41 tP_41 Z (out:=[_,_]) Z (xS hok 6 Z (wC [] [0,1,2,3,4] Z fn_68 Z (Clone68f_s qp2 qc3 l1 hg12) (asK [1] Z) Z (H':=V5 ..) Z ?_))))
 rintro _ _ _ ⟨p12,c12,rfl,rfl,rfl⟩
 refine Q3 (QV [0,1] [5,2] Z Z (xS hok 7 Z (Q1R [1,0,3,4] [2,5] Z Z Z Zq Z Z Z fn_33 Z Z (QbF N a3 p9 l0.length c9 l0 p12 l1.length c12 l1 qg5 qp6 qn7 qc8 l2 hc13) (asK [] Z) Z (H':=[_,_]) Z ?_)))
 rintro _ _ _ ⟨p13_0,c13_1,rfl,rfl,rfl⟩
 refine Q3 (QV [0,1] [4] Z Z (Q11 hok Z ?_))
 have hE:=(Zi hm).symm
 refine Q4o (Hr:=V4 ..) [3,1,2,4] Tryz.results66 ⟨p13_0,c13_1,Z,Z,Z⟩ (asK [] Z) Z Z (.inr Z)
theorem QbB (N:Nat) (a0:Int) (a1:Int) (a2:ByteArray) (o0:Int) (o1:Int) (o2:ByteArray) (o3:Nat) (hm:Q9P N a0 a1 a2 = some (o0,o1,o2,o3)):Q1o Tryz.prog 80 [.agg #[.int .u8 a0,.int .i64 a1,.string a2]] [] [] (fun v Φr Hr=>v = .tuple #[.agg #[.int .u8 o0,.int .i64 o1,.string o2],.int .i64 ((o3:Nat):Int)] ∧ Φr = [] ∧ Hr = []):=by
 unfold Q9P at hm
 refine QD Tryz.func80 Z Tryz.ntmps80 Z (S:=[_]) Z (fun C=>(Q5 (Q1 (wB Z (fun g1=>(QE Z Z Z Zq Z Q2Y Z (fun g2=>(wP Z (Q3 (Q4 (Q2 [2,1] (S':=[_,_]) Z (Q5 (Q5 (Q1 (QR 1 0 Z Z Z Zq Z Z Z (cs:=V3 ..) Z Q1H Q2u Z Z ?_)))))))))))))))
 obtain ⟨v5,hc5,hm⟩:=Q6 hm
 refine wC [] [0,1] Z fn_64 Z (Q4K N a0 a1 a2 _ hc5) (asK [] Z) Z (H':=[_,_]) Z ?_
 rintro _ _ _ ⟨rfl,rfl,rfl⟩
 refine wP Z (Q3 (Q4 (Q2 [6,2,1] (S':=V3 ..) Z ?_)))
 refine Qj Z (fun hb6=>?_) (fun hb6=>?_)
 replace hm:=QA hm hb6
 refine Q2 [2] (S':=[_]) Z (Q5 (Q1 (Q13 Z Z Z Zq Z Q2Y Q8x Z (out:=V3 ..) Z (wS 0 0 Z Q1H (all':=V3 ..) Z (H':=[_,_]) Z (wP Z (Q3 (Q4 (Q2 [3,2] (S':=[_,_]) Z (Qb (Q7 ?_))))))))))
 have hE:=(Zi hm).symm
 obtain ⟨hE0,hF1⟩:=Prod.mk.inj hE
 obtain ⟨hE1,hF2⟩:=Prod.mk.inj hF1
 obtain ⟨hE2,hE3⟩:=Prod.mk.inj hF2
 clear hE hF1 hF2
 replace hE0:=hE0.symm
 subst hE0
 replace hE1:=hE1.symm
 subst hE1
 replace hE2:=hE2.symm
 subst hE2
 replace hE3:=hE3.symm
 subst hE3
 refine Q1r (Hr:=[]) [] Tryz.results80 (QW 0 Z Z Q1H Q2u Z Z) (Qc Z) ⟨Z,Z,Z⟩ (asK [] Z) Z Z (.inl Z)
 replace hm:=Qz hm hb6
 refine Q2 [2,1] (S':=[_,_]) Z (Qq (Q4 (Q5 (Q1 (QR 1 0 Z Z Z Zq Z Z Z (cs:=V3 ..) Z Q1H Q2u Z Z (wS 0 0 Z Q1H (all':=V3 ..) Z (H':=[_,_]) Z (wP Z (Q3 (Q4 (Q2 [3,2] (S':=[_,_]) Z (Qb ?_)))))))))))
 have hE:=(Zi hm).symm
 obtain ⟨hE0,hF1⟩:=Prod.mk.inj hE
 obtain ⟨hE1,hF2⟩:=Prod.mk.inj hF1
 obtain ⟨hE2,hE3⟩:=Prod.mk.inj hF2
 clear hE hF1 hF2
 replace hE0:=hE0.symm
 subst hE0
 replace hE1:=hE1.symm
 subst hE1
 replace hE2:=hE2.symm
 subst hE2
 replace hE3:=hE3.symm
 subst hE3
 refine Q1r (Hr:=[]) [] Tryz.results80 (QW 0 Z Z Q1H Q2u Z Z) (Qc Z) ⟨Z,Z,Z⟩ (asK [] Z) Z Z (.inl Z)
theorem w_expr_Eval_1_s (N:Nat) (qg0:Nat) (a0:Int) (a1:Int) (a2:Int) (a3:ByteArray) (a4:Int) (a5:Int) (qp1:OA) (qc2:Nat) (l6:List Qo) (o0:Int) (o1:Int) (o2:ByteArray) (o3:Nat) (hm:Q9X N a0 a1 a2 a3 a4 a5 l6 = some (o0,o1,o2,o3)):Q1o Tryz.prog 79 [.pointer (some ⟨qg0,0,none⟩)] [.sli 7 QB qp1 qc2 l6] [.blk qg0 [.int .u8 a0,.int .u8 a1,.int .i64 a2,.string a3,.int .i64 a4,.int .u8 a5,.slice qp1 l6.length qc2] 65] (fun v Φr Hr=>v = .tuple #[.agg #[.int .u8 o0,.int .i64 o1,.string o2],.int .i64 ((o3:Nat):Int)] ∧ Φr = [.sli 7 QB qp1 qc2 l6] ∧ Hr = [.blk qg0 [.int .u8 a0,.int .u8 a1,.int .i64 a2,.string a3,.int .i64 a4,.int .u8 a5,.slice qp1 l6.length qc2] 65]):=by
 unfold Q9X at hm
 refine QD Tryz.func79 Z Tryz.ntmps79 Z (S:=[_]) Z (fun C=>(Q5 (Q1 (QE Z Z Z Zq Z Q2Y Z (fun g1=>(wP Z (Q3 (Q4 (Q2 [1,0] (S':=[_,_]) Z (Q5 (Q1 (wF Z tF_65_1 (QR 1 1 Z Z Z Zq Z Z Z (cs:=V3 ..) Z Q1H Q2u Z Z ?_)))))))))))))
 obtain ⟨⟨v5_0,v5_1,v5_2,v5_3⟩,hc5,hm⟩:=Q6 hm
 try dsimp only at hm
 refine wC [] [0,1] Z fn_80 Z (QbB N a1 a2 a3 _ _ _ _ hc5) (asK [] Z) Z (H':=[_,_]) Z ?_
 rintro _ _ _ ⟨rfl,rfl,rfl⟩
 refine wP Z (wP Z (wS 0 0 Z Q1H (all':=V3 ..) Z (H':=[_,_]) Z (wP Z (Q3 (Q4 (Q2 [2,1] (S':=[_,_]) Z (Qb ?_)))))))
 have hE:=(Zi hm).symm
 obtain ⟨hE0,hF1⟩:=Prod.mk.inj hE
 obtain ⟨hE1,hF2⟩:=Prod.mk.inj hF1
 obtain ⟨hE2,hE3⟩:=Prod.mk.inj hF2
 clear hE hF1 hF2
 replace hE0:=hE0.symm
 subst hE0
 replace hE1:=hE1.symm
 subst hE1
 replace hE2:=hE2.symm
 subst hE2
 replace hE3:=hE3.symm
 subst hE3
 refine Q1r (Hr:=[_]) [1] Tryz.results79 (QW 0 Z Z Q1H Q2u Z Z) (Qc Z) ⟨Z,Z,Z⟩ (asK [0] Z) Z Z (.inl Z)
theorem w_expr_Eval_2_s (N:Nat) (a8:Nat) (a0:Int) (a1:Int) (a2:Int) (a3:ByteArray) (a4:Int) (a5:Int) (q:OA) (z:Nat) (l6:List Qo) (a9:Nat) (a6:OA) (a7:Nat) (l7:List V) (o0:Int) (o1:Int) (o2:ByteArray) (o3:Nat) (hm:Q9Y N a0 a1 a2 a3 a4 a5 l6 l7 = some (o0,o1,o2,o3)):Q1o Tryz.prog 81 [.pointer (some ⟨a8,0,none⟩),.pointer (some ⟨a9,0,none⟩)] [.sli 7 QB q z l6,.sli 3 R_V a6 a7 l7] [.blk a8 [.int .u8 a0,.int .u8 a1,.int .i64 a2,.string a3,.int .i64 a4,.int .u8 a5,.slice q l6.length z] 65,.blk a9 [.slice a6 l7.length a7] 43] (fun v Φr Hr=>v = .tuple #[.agg #[.int .u8 o0,.int .i64 o1,.string o2],.int .i64 ((o3:Nat):Int)] ∧ Φr = [.sli 7 QB q z l6,.sli 3 R_V a6 a7 l7] ∧ Hr = [.blk a8 [.int .u8 a0,.int .u8 a1,.int .i64 a2,.string a3,.int .i64 a4,.int .u8 a5,.slice q l6.length z] 65,.blk a9 [.slice a6 l7.length a7] 43]):=by
 unfold Q9Y at hm
 refine QD Tryz.func81 Z Tryz.ntmps81 Z (S:=[_,_]) Z (fun C=>(Q5 (Q1 (QE Z Z Z Zq Z Q2Y Z (fun g2=>(wP Z (Q3 (Q4 (Q2 [2,0,1] (S':=V3 ..) Z (Q5 (Q5 ?_)))))))))))
 obtain ⟨aF,hm,hLj_1⟩:=Q6 hm
 refine QI (σ:=Bool) (fun j=>aF = j) (fun j=>[(2,.pointer (some ⟨g2,0,none⟩)),(0,.pointer (some ⟨a8,0,none⟩)),(1,.pointer (some ⟨a9,0,none⟩)),(13,.bool j)]) (fun j=>[.sli 7 QB q z l6,.sli 3 R_V a6 a7 l7]) (fun j=>[.blk g2 [.int .u8 0,.int .i64 0,.string ((⟨#[]⟩ : ByteArray))] 57,.blk a8 [.int .u8 a0,.int .u8 a1,.int .i64 a2,.string a3,.int .i64 a4,.int .u8 a5,.slice q l6.length z] 65,.blk a9 [.slice a6 l7.length a7] 43]) ?_ ?_
 refine Q1 (wF Z Q9R (wD 1 4 Z Q1A Q1N Z (wP Z (wP Z ?_))))
 refine Qt (d:=7) (S':=V6 ..) Z Z (fun aD=>?_) (fun aD=>?_)
 replace hm:=QA hm aD
 refine wO Z (wO Z (wO Z (wO Z (wO Z (wP Z (Q3 ?_))))))
 have hE:=(Zi hm).symm
 refine Q9 true hE [2,0,1,13] Z (asK [0,1] Z) Z
 replace hm:=Qz hm aD
 refine wF Z Q9R (wD 1 4 Z Q1A Q1N Z (wD 2 0 Z Q7i Q7g Z (wN Z Q5a (wP Z (wP Z (Q3 ?_))))))
 have hE:=(Zi hm).symm
 refine Q9 (decide (a4 ≥ ((l7.length:Nat):Int))) hE [2,0,1,13] Z (asK [0,1] Z) Z
 rintro j hE
 try dsimp only
 have hm:=hLj_1
 rw [hE] at hm
 refine Qj Z (fun aA=>?_) (fun aA=>?_)
 replace hm:=QA hm aA
 refine Q2 [2] (S':=[_]) Z (Q5 (Q1 (Q13 Z Z Z Zq Z Q2Y Q8x Z (out:=V3 ..) Z (wS 0 0 Z Q1H (all':=V3 ..) Z (H':=V3 ..) Z (wP Z (Q3 (Q4 (Q2 [3,2] (S':=[_,_]) Z (Qb (Q7 ?_))))))))))
 have hE:=(Zi hm).symm
 obtain ⟨hE0,hF1⟩:=Prod.mk.inj hE
 obtain ⟨hE1,hF2⟩:=Prod.mk.inj hF1
 obtain ⟨hE2,hE3⟩:=Prod.mk.inj hF2
 clear hE hF1 hF2
 replace hE0:=hE0.symm
 subst hE0
 replace hE1:=hE1.symm
 subst hE1
 replace hE2:=hE2.symm
 subst hE2
 replace hE3:=hE3.symm
 subst hE3
 refine Q1r (Hr:=[_,_]) [1,2] Tryz.results81 (QW 0 Z Z Q1H Q2u Z Z) (Qc Z) ⟨Z,Z,Z⟩ (asK [0,1] Z) Z Z (.inl Z)
 replace hm:=Qz hm aA
 refine Q2 [2,0,1] (S':=V3 ..) Z (Qq (Q4 (Q5 (Q1 (wD 2 0 Z Q7i Q7g Z (wF Z Q9R (wD 1 4 Z Q1A Q1N Z ?_)))))))
 obtain ⟨aG,hm⟩:=Qu hm
 obtain ⟨aE,aH,hm⟩:=Q6 hm
 refine Q1F 1 a4.toNat Z Z Z Zq Z Z Z Z (Q1G aG) aH Q5a Q1H (fun aY aZ aX aN=>(Q22 Q6d 1 Z (fun b0 aI _=>?_)))
 subst aI
 refine Q21 0 0 Z Z Z Zq Z Z Z (cs:=V3 ..) Z Q1H Q2u Z Z ?_
 obtain ⟨⟨aO,aP,aQ,aR⟩,aJ,hm⟩:=Q6 hm
 try dsimp only at hm
 refine wC [] [0,1,2] Z fn_80 Z (QbB N aE.k aE.n aE.s _ _ _ _ aJ) (asK [] Z) Z (H':=V3 ..) Z ?_
 rintro _ _ _ ⟨rfl,rfl,rfl⟩
 refine wP Z (wP Z (wS 0 0 Z Q1H (all':=V3 ..) Z (H':=V3 ..) Z (wP Z (Q3 (Q4 (Q2 [3,2] (S':=[_,_]) Z (Qb ?_)))))))
 have hE:=(Zi hm).symm
 obtain ⟨hE0,hF1⟩:=Prod.mk.inj hE
 obtain ⟨hE1,hF2⟩:=Prod.mk.inj hF1
 obtain ⟨hE2,hE3⟩:=Prod.mk.inj hF2
 clear hE hF1 hF2
 replace hE0:=hE0.symm
 subst hE0
 replace hE1:=hE1.symm
 subst hE1
 replace hE2:=hE2.symm
 subst hE2
 replace hE3:=hE3.symm
 subst hE3
 refine Q1r (Hr:=[_,_]) [1,2] Tryz.results81 (QW 0 Z Z Q1H Q2u Z Z) (Qc Z) ⟨Z,Z,Z⟩ (asK [2,3] Z) Z Z (.inl Z)
theorem Q8f (N:Nat) (a0:Int)  (hm:Q6N N a0 = some ()):Q1o Tryz.prog 119 [.int .i64 a0] [] [] (fun v Φr Hr=>v = .agg #[.int .u8 1,.int .i64 a0,.string ((⟨#[]⟩ : ByteArray))] ∧ Φr = [] ∧ Hr = []):=by
 unfold Q6N at hm
 refine QD Tryz.func119 Z Tryz.ntmps119 Z (S:=[_]) Z (fun C=>(Q5 (Q1 (QE Z Z Z Zq Z Q2Y Z (fun g2=>(Q3 (Q4 (Q5 (Q1 (wP Z (Q13 Z Z Z Zq Z Q2Y Q8x Z (out:=V3 ..) Z (wS 0 0 Z Q1H (all':=V3 ..) Z (H':=[_]) Z (Q3 (Q4 (Q2 [2] (S':=[_]) Z ?_)))))))))))))))
 refine Qb ?_
 have hE:=(Zi hm).symm
 refine Ql (Hr:=[]) [] Tryz.results119 (QW 0 Z Z Q1H Q2u Z Z) ⟨Z,Z,Z⟩ (asK [] Z) Z Z (.inl Z)
theorem Q8U (N:Nat) (a0:Bool) (o0:Int) (hm:Q7f N a0 = some o0):Q1o Tryz.prog 117 [.bool a0] [] [] (fun v Φr Hr=>v = .agg #[.int .u8 1,.int .i64 o0,.string ((⟨#[]⟩ : ByteArray))] ∧ Φr = [] ∧ Hr = []):=by
 unfold Q7f at hm
 refine QD Tryz.func117 Z Tryz.ntmps117 Z (S:=[_]) Z (fun C=>(Q5 (Q1 (QE Z Z Z Zq Z Q2Y Z (fun g2=>(Q3 (Q4 (Q5 (Q5 (Q1 (wP Z (Q3 (Q4 (Q2 [3,2] (S':=[_,_]) Z ?_))))))))))))))
 refine Qj Z (fun hb3=>?_) (fun hb3=>?_)
 replace hm:=QA hm hb3
 refine Q2 [2] (S':=[_]) Z (Q5 (Q1 ?_))
 obtain ⟨_,hc4,hm⟩:=Q6 hm
 try dsimp only at hm
 refine wC [] [0] Z fn_119 Z (Q8f N 1 hc4) (asK [] Z) Z (H':=[_]) Z ?_
 rintro _ _ _ ⟨rfl,rfl,rfl⟩
 refine wS 0 0 Z Q1H (all':=V3 ..) Z (H':=[_]) Z (Q3 (Q4 (Q2 [2] (S':=[_]) Z (Qb (Q7 ?_)))))
 have hE:=(Zi hm).symm
 replace hE:=hE.symm
 subst hE
 refine Ql (Hr:=[]) [] Tryz.results117 (QW 0 Z Z Q1H Q2u Z Z) ⟨Z,Z,Z⟩ (asK [] Z) Z Z (.inl Z)
 replace hm:=Qz hm hb3
 refine Q2 [2] (S':=[_]) Z (Qq (Q4 (Q5 (Q1 ?_))))
 obtain ⟨_,hc5,hm⟩:=Q6 hm
 try dsimp only at hm
 refine wC [] [0] Z fn_119 Z (Q8f N 0 hc5) (asK [] Z) Z (H':=[_]) Z ?_
 rintro _ _ _ ⟨rfl,rfl,rfl⟩
 refine wS 0 0 Z Q1H (all':=V3 ..) Z (H':=[_]) Z (Q3 (Q4 (Q2 [2] (S':=[_]) Z (Qb ?_))))
 have hE:=(Zi hm).symm
 replace hE:=hE.symm
 subst hE
 refine Ql (Hr:=[]) [] Tryz.results117 (QW 0 Z Z Q1H Q2u Z Z) ⟨Z,Z,Z⟩ (asK [] Z) Z Z (.inl Z)
theorem w_value_does_s0 (N:Nat) (a0:Int)  (hm:Q2a N a0 = some (.inl ())):Q1o Tryz.prog 118 [.int .u8 a0] [] [] (fun v Φr Hr=>v = .func (.func 148) #[] #[] ∧ Φr = [] ∧ Hr = []):=by
 unfold Q2a at hm
 refine QD Tryz.func118 Z Tryz.ntmps118 Z (S:=[_]) Z (fun C=>(Q5 (Q1 (wP Z (Q3 (Q4 (Q2 [0] (S':=[_]) Z (Q5 (Q1 (QE Z Z Z Zq Z QaS Z (fun j=>(wS 0 0 Z Q7M (all':=[_]) Z (H':=[_]) Z (Q3 (Q4 (Q5 ?_)))))))))))))))
 refine Q1 (Q4b (Q1q (QT Q1O)) false Q1p Z Z Z Zq Z (fun g4=>(QK (i:=1) (u:=.func (.func 148) #[] #[]) (cs:=[.func (.func 148) #[] #[]]) 0 Z Z (.inr Z) Z Z Z Z QF trivial Z (fun F w hφ=>⟨Z,Z⟩) (H':=[Q2h (Q1q (QT Q1O)) false Q1p g4 ([(1,.func (.func 148) #[] #[])]),.blk j [.func (.func 147) #[] #[]] 220]) Z (QK (i:=2) (u:=.func (.func 149) #[] #[]) (cs:=[.func (.func 149) #[] #[]]) 0 Z Z (.inr Z) Z Z Z Z QF trivial Z (fun F w hφ=>⟨Z,Z⟩) (H':=[Q2h (Q1q (QT Q1O)) false Q1p g4 ([(1,.func (.func 148) #[] #[]),(2,.func (.func 149) #[] #[])]),.blk j [.func (.func 147) #[] #[]] 220]) Z (QK (i:=3) (u:=.func (.func 150) #[] #[]) (cs:=[.func (.func 150) #[] #[]]) 0 Z Z (.inr Z) Z Z Z Z QF trivial Z (fun F w hφ=>⟨Z,Z⟩) (H':=[Q2h (Q1q (QT Q1O)) false Q1p g4 ([(1,.func (.func 148) #[] #[]),(2,.func (.func 149) #[] #[]),(3,.func (.func 150) #[] #[])]),.blk j [.func (.func 147) #[] #[]] 220]) Z (QK (i:=4) (u:=.func (.func 151) #[] #[]) (cs:=[.func (.func 151) #[] #[]]) 0 Z Z (.inr Z) Z Z Z Z QF trivial Z (fun F w hφ=>⟨Z,Z⟩) (H':=[Q2h (Q1q (QT Q1O)) false Q1p g4 ([(1,.func (.func 148) #[] #[]),(2,.func (.func 149) #[] #[]),(3,.func (.func 150) #[] #[]),(4,.func (.func 151) #[] #[])]),.blk j [.func (.func 147) #[] #[]] 220]) Z (QY Z Z Z Zq Z Z (QK (i:=7) (u:=.func (.func 152) #[] #[.pointer (some ⟨j,0,none⟩)]) (cs:=[.func (.func 152) #[] #[.pointer (some ⟨j,0,none⟩)]]) 0 Z Z (.inr Z) Z Z Z Z QF trivial Z (fun F w hφ=>⟨Z,Z⟩) (H':=[Q2h (Q1q (QT Q1O)) false Q1p g4 ([(1,.func (.func 148) #[] #[]),(2,.func (.func 149) #[] #[]),(3,.func (.func 150) #[] #[]),(4,.func (.func 151) #[] #[]),(7,.func (.func 152) #[] #[.pointer (some ⟨j,0,none⟩)])]),.blk j [.func (.func 147) #[] #[]] 220]) Z (QY Z Z Z Zq Z Z (QK (i:=8) (u:=.func (.func 153) #[] #[.pointer (some ⟨j,0,none⟩)]) (cs:=[.func (.func 153) #[] #[.pointer (some ⟨j,0,none⟩)]]) 0 Z Z (.inr Z) Z Z Z Z QF trivial Z (fun F w hφ=>⟨Z,Z⟩) (H':=[Q2h (Q1q (QT Q1O)) false Q1p g4 ([(1,.func (.func 148) #[] #[]),(2,.func (.func 149) #[] #[]),(3,.func (.func 150) #[] #[]),(4,.func (.func 151) #[] #[]),(7,.func (.func 152) #[] #[.pointer (some ⟨j,0,none⟩)]),(8,.func (.func 153) #[] #[.pointer (some ⟨j,0,none⟩)])]),.blk j [.func (.func 147) #[] #[]] 220]) Z (QY Z Z Z Zq Z Z (QK (i:=9) (u:=.func (.func 154) #[] #[.pointer (some ⟨j,0,none⟩)]) (cs:=[.func (.func 154) #[] #[.pointer (some ⟨j,0,none⟩)]]) 0 Z Z (.inr Z) Z Z Z Z QF trivial Z (fun F w hφ=>⟨Z,Z⟩) (H':=[Q2h (Q1q (QT Q1O)) false Q1p g4 ([(1,.func (.func 148) #[] #[]),(2,.func (.func 149) #[] #[]),(3,.func (.func 150) #[] #[]),(4,.func (.func 151) #[] #[]),(7,.func (.func 152) #[] #[.pointer (some ⟨j,0,none⟩)]),(8,.func (.func 153) #[] #[.pointer (some ⟨j,0,none⟩)]),(9,.func (.func 154) #[] #[.pointer (some ⟨j,0,none⟩)])]),.blk j [.func (.func 147) #[] #[]] 220]) Z (QY Z Z Z Zq Z Z (QK (i:=10) (u:=.func (.func 155) #[] #[.pointer (some ⟨j,0,none⟩)]) (cs:=[.func (.func 155) #[] #[.pointer (some ⟨j,0,none⟩)]]) 0 Z Z (.inr Z) Z Z Z Z QF trivial Z (fun F w hφ=>⟨Z,Z⟩) (H':=[Q2h (Q1q (QT Q1O)) false Q1p g4 ([(1,.func (.func 148) #[] #[]),(2,.func (.func 149) #[] #[]),(3,.func (.func 150) #[] #[]),(4,.func (.func 151) #[] #[]),(7,.func (.func 152) #[] #[.pointer (some ⟨j,0,none⟩)]),(8,.func (.func 153) #[] #[.pointer (some ⟨j,0,none⟩)]),(9,.func (.func 154) #[] #[.pointer (some ⟨j,0,none⟩)]),(10,.func (.func 155) #[] #[.pointer (some ⟨j,0,none⟩)])]),.blk j [.func (.func 147) #[] #[]] 220]) Z ?_))))))))))))))
 refine QY Z Z Z Zq Z Z (QK (i:=11) (u:=.func (.func 156) #[] #[.pointer (some ⟨j,0,none⟩)]) (cs:=[.func (.func 156) #[] #[.pointer (some ⟨j,0,none⟩)]]) 0 Z Z (.inr Z) Z Z Z Z QF trivial Z (fun F w hφ=>⟨Z,Z⟩) (H':=[Q2h (Q1q (QT Q1O)) false Q1p g4 ([(1,.func (.func 148) #[] #[]),(2,.func (.func 149) #[] #[]),(3,.func (.func 150) #[] #[]),(4,.func (.func 151) #[] #[]),(7,.func (.func 152) #[] #[.pointer (some ⟨j,0,none⟩)]),(8,.func (.func 153) #[] #[.pointer (some ⟨j,0,none⟩)]),(9,.func (.func 154) #[] #[.pointer (some ⟨j,0,none⟩)]),(10,.func (.func 155) #[] #[.pointer (some ⟨j,0,none⟩)]),(11,.func (.func 156) #[] #[.pointer (some ⟨j,0,none⟩)])]),.blk j [.func (.func 147) #[] #[]] 220]) Z (wP Z (wP Z ?_)))
 rcases QG hm with ⟨q,hm⟩ | ⟨q,hm⟩
 refine QC (i:=a0) (a:=(.func (.func 148) #[] #[])) Qx 0 Z Z Z Zq Z Z Z Z QF trivial (by rw [eq_of_beq q]; rfl) (u:=fun _=>.func (.func 148) #[] #[]) (fun _=>Z) (v:=fun _=>.func (.func 148) #[] #[]) (fun _=>Z) (fun _ _=>(wP Z (Q3 (Q4 (Q2 [2] (S':=[_]) Z (Qb ?_))))))
 have hE:=(Zi hm).symm
 replace hE:=Sum.inl.inj hE
 refine Ql (Hr:=[]) [] Tryz.results118 (Qc Z) ⟨Z,Z,Z⟩ (asK [] Z) Z Z (.inl Z)
 rcases QG hm with ⟨s,hm⟩ | ⟨s,hm⟩
 ·
  refine QC (i:=a0) (a:=(.func (.func 149) #[] #[])) Qx 0 Z Z Z Zq Z Z Z Z QF trivial (by rw [eq_of_beq s]; rfl) (u:=fun _=>.func (.func 149) #[] #[]) (fun _=>Z) (v:=fun _=>.func (.func 149) #[] #[]) (fun _=>Z) (fun _ _=>(wP Z (Q3 (Q4 (Q2 [2] (S':=[_]) Z (Qb ?_))))))
  have hE:=(Zi hm).symm
  cases hE
 rcases QG hm with ⟨z,hm⟩ | ⟨z,hm⟩
 ·
  refine QC (i:=a0) (a:=(.func (.func 150) #[] #[])) Qx 0 Z Z Z Zq Z Z Z Z QF trivial (by rw [eq_of_beq z]; rfl) (u:=fun _=>.func (.func 150) #[] #[]) (fun _=>Z) (v:=fun _=>.func (.func 150) #[] #[]) (fun _=>Z) (fun _ _=>(wP Z (Q3 (Q4 (Q2 [2] (S':=[_]) Z (Qb ?_))))))
  have hE:=(Zi hm).symm
  cases hE
 rcases QG hm with ⟨a1,hm⟩ | ⟨a1,hm⟩
 ·
  refine QC (i:=a0) (a:=(.func (.func 151) #[] #[])) Qx 0 Z Z Z Zq Z Z Z Z QF trivial (by rw [eq_of_beq a1]; rfl) (u:=fun _=>.func (.func 151) #[] #[]) (fun _=>Z) (v:=fun _=>.func (.func 151) #[] #[]) (fun _=>Z) (fun _ _=>(wP Z (Q3 (Q4 (Q2 [2] (S':=[_]) Z (Qb ?_))))))
  have hE:=(Zi hm).symm
  cases hE
 rcases QG hm with ⟨a5,hm⟩ | ⟨a5,hm⟩
 ·
  refine QC (i:=a0) (a:=(.func (.func 152) #[] #[.pointer (some ⟨j,0,none⟩)])) Qx 0 Z Z Z Zq Z Z Z Z QF trivial (by rw [eq_of_beq a5]; rfl) (u:=fun _=>.func (.func 152) #[] #[.pointer (some ⟨j,0,none⟩)]) (fun _=>Z) (v:=fun _=>.func (.func 152) #[] #[.pointer (some ⟨j,0,none⟩)]) (fun _=>Z) (fun _ _=>(wP Z (Q3 (Q4 (Q2 [2] (S':=[_]) Z (Qb ?_))))))
  have hE:=(Zi hm).symm
  cases hE
 rcases QG hm with ⟨a6,hm⟩ | ⟨a6,hm⟩
 ·
  refine QC (i:=a0) (a:=(.func (.func 153) #[] #[.pointer (some ⟨j,0,none⟩)])) Qx 0 Z Z Z Zq Z Z Z Z QF trivial (by rw [eq_of_beq a6]; rfl) (u:=fun _=>.func (.func 153) #[] #[.pointer (some ⟨j,0,none⟩)]) (fun _=>Z) (v:=fun _=>.func (.func 153) #[] #[.pointer (some ⟨j,0,none⟩)]) (fun _=>Z) (fun _ _=>(wP Z (Q3 (Q4 (Q2 [2] (S':=[_]) Z (Qb ?_))))))
  have hE:=(Zi hm).symm
  cases hE
 rcases QG hm with ⟨a7,hm⟩ | ⟨a7,hm⟩
 ·
  refine QC (i:=a0) (a:=(.func (.func 154) #[] #[.pointer (some ⟨j,0,none⟩)])) Qx 0 Z Z Z Zq Z Z Z Z QF trivial (by rw [eq_of_beq a7]; rfl) (u:=fun _=>.func (.func 154) #[] #[.pointer (some ⟨j,0,none⟩)]) (fun _=>Z) (v:=fun _=>.func (.func 154) #[] #[.pointer (some ⟨j,0,none⟩)]) (fun _=>Z) (fun _ _=>(wP Z (Q3 (Q4 (Q2 [2] (S':=[_]) Z (Qb ?_))))))
  have hE:=(Zi hm).symm
  cases hE
 rcases QG hm with ⟨a8,hm⟩ | ⟨a8,hm⟩
 ·
  refine QC (i:=a0) (a:=(.func (.func 155) #[] #[.pointer (some ⟨j,0,none⟩)])) Qx 0 Z Z Z Zq Z Z Z Z QF trivial (by rw [eq_of_beq a8]; rfl) (u:=fun _=>.func (.func 155) #[] #[.pointer (some ⟨j,0,none⟩)]) (fun _=>Z) (v:=fun _=>.func (.func 155) #[] #[.pointer (some ⟨j,0,none⟩)]) (fun _=>Z) (fun _ _=>(wP Z (Q3 (Q4 (Q2 [2] (S':=[_]) Z (Qb ?_))))))
  have hE:=(Zi hm).symm
  cases hE
 rcases QG hm with ⟨a9,hm⟩ | ⟨a9,hm⟩
 ·
  refine QC (i:=a0) (a:=(.func (.func 156) #[] #[.pointer (some ⟨j,0,none⟩)])) Qx 0 Z Z Z Zq Z Z Z Z QF trivial (by rw [eq_of_beq a9]; rfl) (u:=fun _=>.func (.func 156) #[] #[.pointer (some ⟨j,0,none⟩)]) (fun _=>Z) (v:=fun _=>.func (.func 156) #[] #[.pointer (some ⟨j,0,none⟩)]) (fun _=>Z) (fun _ _=>(wP Z (Q3 (Q4 (Q2 [2] (S':=[_]) Z (Qb ?_))))))
  have hE:=(Zi hm).symm
  cases hE
 ·
  refine Q58 (i:=a0) 0 Z Z Z Zq Z Z Z Z QaR QF trivial (by simp [Q70,(ne_of_beq_false q).symm,(ne_of_beq_false s).symm,(ne_of_beq_false z).symm,(ne_of_beq_false a1).symm,(ne_of_beq_false a5).symm,(ne_of_beq_false a6).symm,(ne_of_beq_false a7).symm,(ne_of_beq_false a8).symm,(ne_of_beq_false a9).symm]) (v:=.nilFunc) Z (wP Z (Q3 (Q4 (Q2 [2] (S':=[_]) Z (Qb ?_)))))
  have hE:=(Zi hm).symm
  cases hE
theorem w_value_does_s1 (N:Nat) (a0:Int)  (hm:Q2a N a0 = some (.inr (.inl ()))):Q1o Tryz.prog 118 [.int .u8 a0] [] [] (fun v Φr Hr=>v = .func (.func 149) #[] #[] ∧ Φr = [] ∧ Hr = []):=by
 unfold Q2a at hm
 refine QD Tryz.func118 Z Tryz.ntmps118 Z (S:=[_]) Z (fun C=>(Q5 (Q1 (wP Z (Q3 (Q4 (Q2 [0] (S':=[_]) Z (Q5 (Q1 (QE Z Z Z Zq Z QaS Z (fun j=>(wS 0 0 Z Q7M (all':=[_]) Z (H':=[_]) Z (Q3 (Q4 (Q5 ?_)))))))))))))))
 refine Q1 (Q4b (Q1q (QT Q1O)) false Q1p Z Z Z Zq Z (fun g4=>(QK (i:=1) (u:=.func (.func 148) #[] #[]) (cs:=[.func (.func 148) #[] #[]]) 0 Z Z (.inr Z) Z Z Z Z QF trivial Z (fun F w hφ=>⟨Z,Z⟩) (H':=[Q2h (Q1q (QT Q1O)) false Q1p g4 ([(1,.func (.func 148) #[] #[])]),.blk j [.func (.func 147) #[] #[]] 220]) Z (QK (i:=2) (u:=.func (.func 149) #[] #[]) (cs:=[.func (.func 149) #[] #[]]) 0 Z Z (.inr Z) Z Z Z Z QF trivial Z (fun F w hφ=>⟨Z,Z⟩) (H':=[Q2h (Q1q (QT Q1O)) false Q1p g4 ([(1,.func (.func 148) #[] #[]),(2,.func (.func 149) #[] #[])]),.blk j [.func (.func 147) #[] #[]] 220]) Z (QK (i:=3) (u:=.func (.func 150) #[] #[]) (cs:=[.func (.func 150) #[] #[]]) 0 Z Z (.inr Z) Z Z Z Z QF trivial Z (fun F w hφ=>⟨Z,Z⟩) (H':=[Q2h (Q1q (QT Q1O)) false Q1p g4 ([(1,.func (.func 148) #[] #[]),(2,.func (.func 149) #[] #[]),(3,.func (.func 150) #[] #[])]),.blk j [.func (.func 147) #[] #[]] 220]) Z (QK (i:=4) (u:=.func (.func 151) #[] #[]) (cs:=[.func (.func 151) #[] #[]]) 0 Z Z (.inr Z) Z Z Z Z QF trivial Z (fun F w hφ=>⟨Z,Z⟩) (H':=[Q2h (Q1q (QT Q1O)) false Q1p g4 ([(1,.func (.func 148) #[] #[]),(2,.func (.func 149) #[] #[]),(3,.func (.func 150) #[] #[]),(4,.func (.func 151) #[] #[])]),.blk j [.func (.func 147) #[] #[]] 220]) Z (QY Z Z Z Zq Z Z (QK (i:=7) (u:=.func (.func 152) #[] #[.pointer (some ⟨j,0,none⟩)]) (cs:=[.func (.func 152) #[] #[.pointer (some ⟨j,0,none⟩)]]) 0 Z Z (.inr Z) Z Z Z Z QF trivial Z (fun F w hφ=>⟨Z,Z⟩) (H':=[Q2h (Q1q (QT Q1O)) false Q1p g4 ([(1,.func (.func 148) #[] #[]),(2,.func (.func 149) #[] #[]),(3,.func (.func 150) #[] #[]),(4,.func (.func 151) #[] #[]),(7,.func (.func 152) #[] #[.pointer (some ⟨j,0,none⟩)])]),.blk j [.func (.func 147) #[] #[]] 220]) Z (QY Z Z Z Zq Z Z (QK (i:=8) (u:=.func (.func 153) #[] #[.pointer (some ⟨j,0,none⟩)]) (cs:=[.func (.func 153) #[] #[.pointer (some ⟨j,0,none⟩)]]) 0 Z Z (.inr Z) Z Z Z Z QF trivial Z (fun F w hφ=>⟨Z,Z⟩) (H':=[Q2h (Q1q (QT Q1O)) false Q1p g4 ([(1,.func (.func 148) #[] #[]),(2,.func (.func 149) #[] #[]),(3,.func (.func 150) #[] #[]),(4,.func (.func 151) #[] #[]),(7,.func (.func 152) #[] #[.pointer (some ⟨j,0,none⟩)]),(8,.func (.func 153) #[] #[.pointer (some ⟨j,0,none⟩)])]),.blk j [.func (.func 147) #[] #[]] 220]) Z (QY Z Z Z Zq Z Z (QK (i:=9) (u:=.func (.func 154) #[] #[.pointer (some ⟨j,0,none⟩)]) (cs:=[.func (.func 154) #[] #[.pointer (some ⟨j,0,none⟩)]]) 0 Z Z (.inr Z) Z Z Z Z QF trivial Z (fun F w hφ=>⟨Z,Z⟩) (H':=[Q2h (Q1q (QT Q1O)) false Q1p g4 ([(1,.func (.func 148) #[] #[]),(2,.func (.func 149) #[] #[]),(3,.func (.func 150) #[] #[]),(4,.func (.func 151) #[] #[]),(7,.func (.func 152) #[] #[.pointer (some ⟨j,0,none⟩)]),(8,.func (.func 153) #[] #[.pointer (some ⟨j,0,none⟩)]),(9,.func (.func 154) #[] #[.pointer (some ⟨j,0,none⟩)])]),.blk j [.func (.func 147) #[] #[]] 220]) Z (QY Z Z Z Zq Z Z (QK (i:=10) (u:=.func (.func 155) #[] #[.pointer (some ⟨j,0,none⟩)]) (cs:=[.func (.func 155) #[] #[.pointer (some ⟨j,0,none⟩)]]) 0 Z Z (.inr Z) Z Z Z Z QF trivial Z (fun F w hφ=>⟨Z,Z⟩) (H':=[Q2h (Q1q (QT Q1O)) false Q1p g4 ([(1,.func (.func 148) #[] #[]),(2,.func (.func 149) #[] #[]),(3,.func (.func 150) #[] #[]),(4,.func (.func 151) #[] #[]),(7,.func (.func 152) #[] #[.pointer (some ⟨j,0,none⟩)]),(8,.func (.func 153) #[] #[.pointer (some ⟨j,0,none⟩)]),(9,.func (.func 154) #[] #[.pointer (some ⟨j,0,none⟩)]),(10,.func (.func 155) #[] #[.pointer (some ⟨j,0,none⟩)])]),.blk j [.func (.func 147) #[] #[]] 220]) Z ?_))))))))))))))
 refine QY Z Z Z Zq Z Z (QK (i:=11) (u:=.func (.func 156) #[] #[.pointer (some ⟨j,0,none⟩)]) (cs:=[.func (.func 156) #[] #[.pointer (some ⟨j,0,none⟩)]]) 0 Z Z (.inr Z) Z Z Z Z QF trivial Z (fun F w hφ=>⟨Z,Z⟩) (H':=[Q2h (Q1q (QT Q1O)) false Q1p g4 ([(1,.func (.func 148) #[] #[]),(2,.func (.func 149) #[] #[]),(3,.func (.func 150) #[] #[]),(4,.func (.func 151) #[] #[]),(7,.func (.func 152) #[] #[.pointer (some ⟨j,0,none⟩)]),(8,.func (.func 153) #[] #[.pointer (some ⟨j,0,none⟩)]),(9,.func (.func 154) #[] #[.pointer (some ⟨j,0,none⟩)]),(10,.func (.func 155) #[] #[.pointer (some ⟨j,0,none⟩)]),(11,.func (.func 156) #[] #[.pointer (some ⟨j,0,none⟩)])]),.blk j [.func (.func 147) #[] #[]] 220]) Z (wP Z (wP Z ?_)))
 rcases QG hm with ⟨q,hm⟩ | ⟨q,hm⟩
 ·
  refine QC (i:=a0) (a:=(.func (.func 148) #[] #[])) Qx 0 Z Z Z Zq Z Z Z Z QF trivial (by rw [eq_of_beq q]; rfl) (u:=fun _=>.func (.func 148) #[] #[]) (fun _=>Z) (v:=fun _=>.func (.func 148) #[] #[]) (fun _=>Z) (fun _ _=>(wP Z (Q3 (Q4 (Q2 [2] (S':=[_]) Z (Qb ?_))))))
  have hE:=(Zi hm).symm
  cases hE
 rcases QG hm with ⟨s,hm⟩ | ⟨s,hm⟩
 refine QC (i:=a0) (a:=(.func (.func 149) #[] #[])) Qx 0 Z Z Z Zq Z Z Z Z QF trivial (by rw [eq_of_beq s]; rfl) (u:=fun _=>.func (.func 149) #[] #[]) (fun _=>Z) (v:=fun _=>.func (.func 149) #[] #[]) (fun _=>Z) (fun _ _=>(wP Z (Q3 (Q4 (Q2 [2] (S':=[_]) Z (Qb ?_))))))
 have hE:=(Zi hm).symm
 replace hE:=Sum.inr.inj hE
 replace hE:=Sum.inl.inj hE
 refine Ql (Hr:=[]) [] Tryz.results118 (Qc Z) ⟨Z,Z,Z⟩ (asK [] Z) Z Z (.inl Z)
 rcases QG hm with ⟨z,hm⟩ | ⟨z,hm⟩
 ·
  refine QC (i:=a0) (a:=(.func (.func 150) #[] #[])) Qx 0 Z Z Z Zq Z Z Z Z QF trivial (by rw [eq_of_beq z]; rfl) (u:=fun _=>.func (.func 150) #[] #[]) (fun _=>Z) (v:=fun _=>.func (.func 150) #[] #[]) (fun _=>Z) (fun _ _=>(wP Z (Q3 (Q4 (Q2 [2] (S':=[_]) Z (Qb ?_))))))
  have hE:=(Zi hm).symm
  cases hE
 rcases QG hm with ⟨a1,hm⟩ | ⟨a1,hm⟩
 ·
  refine QC (i:=a0) (a:=(.func (.func 151) #[] #[])) Qx 0 Z Z Z Zq Z Z Z Z QF trivial (by rw [eq_of_beq a1]; rfl) (u:=fun _=>.func (.func 151) #[] #[]) (fun _=>Z) (v:=fun _=>.func (.func 151) #[] #[]) (fun _=>Z) (fun _ _=>(wP Z (Q3 (Q4 (Q2 [2] (S':=[_]) Z (Qb ?_))))))
  have hE:=(Zi hm).symm
  cases hE
 rcases QG hm with ⟨a5,hm⟩ | ⟨a5,hm⟩
 ·
  refine QC (i:=a0) (a:=(.func (.func 152) #[] #[.pointer (some ⟨j,0,none⟩)])) Qx 0 Z Z Z Zq Z Z Z Z QF trivial (by rw [eq_of_beq a5]; rfl) (u:=fun _=>.func (.func 152) #[] #[.pointer (some ⟨j,0,none⟩)]) (fun _=>Z) (v:=fun _=>.func (.func 152) #[] #[.pointer (some ⟨j,0,none⟩)]) (fun _=>Z) (fun _ _=>(wP Z (Q3 (Q4 (Q2 [2] (S':=[_]) Z (Qb ?_))))))
  have hE:=(Zi hm).symm
  cases hE
 rcases QG hm with ⟨a6,hm⟩ | ⟨a6,hm⟩
 ·
  refine QC (i:=a0) (a:=(.func (.func 153) #[] #[.pointer (some ⟨j,0,none⟩)])) Qx 0 Z Z Z Zq Z Z Z Z QF trivial (by rw [eq_of_beq a6]; rfl) (u:=fun _=>.func (.func 153) #[] #[.pointer (some ⟨j,0,none⟩)]) (fun _=>Z) (v:=fun _=>.func (.func 153) #[] #[.pointer (some ⟨j,0,none⟩)]) (fun _=>Z) (fun _ _=>(wP Z (Q3 (Q4 (Q2 [2] (S':=[_]) Z (Qb ?_))))))
  have hE:=(Zi hm).symm
  cases hE
 rcases QG hm with ⟨a7,hm⟩ | ⟨a7,hm⟩
 ·
  refine QC (i:=a0) (a:=(.func (.func 154) #[] #[.pointer (some ⟨j,0,none⟩)])) Qx 0 Z Z Z Zq Z Z Z Z QF trivial (by rw [eq_of_beq a7]; rfl) (u:=fun _=>.func (.func 154) #[] #[.pointer (some ⟨j,0,none⟩)]) (fun _=>Z) (v:=fun _=>.func (.func 154) #[] #[.pointer (some ⟨j,0,none⟩)]) (fun _=>Z) (fun _ _=>(wP Z (Q3 (Q4 (Q2 [2] (S':=[_]) Z (Qb ?_))))))
  have hE:=(Zi hm).symm
  cases hE
 rcases QG hm with ⟨a8,hm⟩ | ⟨a8,hm⟩
 ·
  refine QC (i:=a0) (a:=(.func (.func 155) #[] #[.pointer (some ⟨j,0,none⟩)])) Qx 0 Z Z Z Zq Z Z Z Z QF trivial (by rw [eq_of_beq a8]; rfl) (u:=fun _=>.func (.func 155) #[] #[.pointer (some ⟨j,0,none⟩)]) (fun _=>Z) (v:=fun _=>.func (.func 155) #[] #[.pointer (some ⟨j,0,none⟩)]) (fun _=>Z) (fun _ _=>(wP Z (Q3 (Q4 (Q2 [2] (S':=[_]) Z (Qb ?_))))))
  have hE:=(Zi hm).symm
  cases hE
 rcases QG hm with ⟨a9,hm⟩ | ⟨a9,hm⟩
 ·
  refine QC (i:=a0) (a:=(.func (.func 156) #[] #[.pointer (some ⟨j,0,none⟩)])) Qx 0 Z Z Z Zq Z Z Z Z QF trivial (by rw [eq_of_beq a9]; rfl) (u:=fun _=>.func (.func 156) #[] #[.pointer (some ⟨j,0,none⟩)]) (fun _=>Z) (v:=fun _=>.func (.func 156) #[] #[.pointer (some ⟨j,0,none⟩)]) (fun _=>Z) (fun _ _=>(wP Z (Q3 (Q4 (Q2 [2] (S':=[_]) Z (Qb ?_))))))
  have hE:=(Zi hm).symm
  cases hE
 ·
  refine Q58 (i:=a0) 0 Z Z Z Zq Z Z Z Z QaR QF trivial (by simp [Q70,(ne_of_beq_false q).symm,(ne_of_beq_false s).symm,(ne_of_beq_false z).symm,(ne_of_beq_false a1).symm,(ne_of_beq_false a5).symm,(ne_of_beq_false a6).symm,(ne_of_beq_false a7).symm,(ne_of_beq_false a8).symm,(ne_of_beq_false a9).symm]) (v:=.nilFunc) Z (wP Z (Q3 (Q4 (Q2 [2] (S':=[_]) Z (Qb ?_)))))
  have hE:=(Zi hm).symm
  cases hE
theorem w_value_does_s2 (N:Nat) (a0:Int)  (hm:Q2a N a0 = some (.inr (.inr (.inl ())))):Q1o Tryz.prog 118 [.int .u8 a0] [] [] (fun v Φr Hr=>v = .func (.func 150) #[] #[] ∧ Φr = [] ∧ Hr = []):=by
 unfold Q2a at hm
 refine QD Tryz.func118 Z Tryz.ntmps118 Z (S:=[_]) Z (fun C=>(Q5 (Q1 (wP Z (Q3 (Q4 (Q2 [0] (S':=[_]) Z (Q5 (Q1 (QE Z Z Z Zq Z QaS Z (fun j=>(wS 0 0 Z Q7M (all':=[_]) Z (H':=[_]) Z (Q3 (Q4 (Q5 ?_)))))))))))))))
 refine Q1 (Q4b (Q1q (QT Q1O)) false Q1p Z Z Z Zq Z (fun g4=>(QK (i:=1) (u:=.func (.func 148) #[] #[]) (cs:=[.func (.func 148) #[] #[]]) 0 Z Z (.inr Z) Z Z Z Z QF trivial Z (fun F w hφ=>⟨Z,Z⟩) (H':=[Q2h (Q1q (QT Q1O)) false Q1p g4 ([(1,.func (.func 148) #[] #[])]),.blk j [.func (.func 147) #[] #[]] 220]) Z (QK (i:=2) (u:=.func (.func 149) #[] #[]) (cs:=[.func (.func 149) #[] #[]]) 0 Z Z (.inr Z) Z Z Z Z QF trivial Z (fun F w hφ=>⟨Z,Z⟩) (H':=[Q2h (Q1q (QT Q1O)) false Q1p g4 ([(1,.func (.func 148) #[] #[]),(2,.func (.func 149) #[] #[])]),.blk j [.func (.func 147) #[] #[]] 220]) Z (QK (i:=3) (u:=.func (.func 150) #[] #[]) (cs:=[.func (.func 150) #[] #[]]) 0 Z Z (.inr Z) Z Z Z Z QF trivial Z (fun F w hφ=>⟨Z,Z⟩) (H':=[Q2h (Q1q (QT Q1O)) false Q1p g4 ([(1,.func (.func 148) #[] #[]),(2,.func (.func 149) #[] #[]),(3,.func (.func 150) #[] #[])]),.blk j [.func (.func 147) #[] #[]] 220]) Z (QK (i:=4) (u:=.func (.func 151) #[] #[]) (cs:=[.func (.func 151) #[] #[]]) 0 Z Z (.inr Z) Z Z Z Z QF trivial Z (fun F w hφ=>⟨Z,Z⟩) (H':=[Q2h (Q1q (QT Q1O)) false Q1p g4 ([(1,.func (.func 148) #[] #[]),(2,.func (.func 149) #[] #[]),(3,.func (.func 150) #[] #[]),(4,.func (.func 151) #[] #[])]),.blk j [.func (.func 147) #[] #[]] 220]) Z (QY Z Z Z Zq Z Z (QK (i:=7) (u:=.func (.func 152) #[] #[.pointer (some ⟨j,0,none⟩)]) (cs:=[.func (.func 152) #[] #[.pointer (some ⟨j,0,none⟩)]]) 0 Z Z (.inr Z) Z Z Z Z QF trivial Z (fun F w hφ=>⟨Z,Z⟩) (H':=[Q2h (Q1q (QT Q1O)) false Q1p g4 ([(1,.func (.func 148) #[] #[]),(2,.func (.func 149) #[] #[]),(3,.func (.func 150) #[] #[]),(4,.func (.func 151) #[] #[]),(7,.func (.func 152) #[] #[.pointer (some ⟨j,0,none⟩)])]),.blk j [.func (.func 147) #[] #[]] 220]) Z (QY Z Z Z Zq Z Z (QK (i:=8) (u:=.func (.func 153) #[] #[.pointer (some ⟨j,0,none⟩)]) (cs:=[.func (.func 153) #[] #[.pointer (some ⟨j,0,none⟩)]]) 0 Z Z (.inr Z) Z Z Z Z QF trivial Z (fun F w hφ=>⟨Z,Z⟩) (H':=[Q2h (Q1q (QT Q1O)) false Q1p g4 ([(1,.func (.func 148) #[] #[]),(2,.func (.func 149) #[] #[]),(3,.func (.func 150) #[] #[]),(4,.func (.func 151) #[] #[]),(7,.func (.func 152) #[] #[.pointer (some ⟨j,0,none⟩)]),(8,.func (.func 153) #[] #[.pointer (some ⟨j,0,none⟩)])]),.blk j [.func (.func 147) #[] #[]] 220]) Z (QY Z Z Z Zq Z Z (QK (i:=9) (u:=.func (.func 154) #[] #[.pointer (some ⟨j,0,none⟩)]) (cs:=[.func (.func 154) #[] #[.pointer (some ⟨j,0,none⟩)]]) 0 Z Z (.inr Z) Z Z Z Z QF trivial Z (fun F w hφ=>⟨Z,Z⟩) (H':=[Q2h (Q1q (QT Q1O)) false Q1p g4 ([(1,.func (.func 148) #[] #[]),(2,.func (.func 149) #[] #[]),(3,.func (.func 150) #[] #[]),(4,.func (.func 151) #[] #[]),(7,.func (.func 152) #[] #[.pointer (some ⟨j,0,none⟩)]),(8,.func (.func 153) #[] #[.pointer (some ⟨j,0,none⟩)]),(9,.func (.func 154) #[] #[.pointer (some ⟨j,0,none⟩)])]),.blk j [.func (.func 147) #[] #[]] 220]) Z (QY Z Z Z Zq Z Z (QK (i:=10) (u:=.func (.func 155) #[] #[.pointer (some ⟨j,0,none⟩)]) (cs:=[.func (.func 155) #[] #[.pointer (some ⟨j,0,none⟩)]]) 0 Z Z (.inr Z) Z Z Z Z QF trivial Z (fun F w hφ=>⟨Z,Z⟩) (H':=[Q2h (Q1q (QT Q1O)) false Q1p g4 ([(1,.func (.func 148) #[] #[]),(2,.func (.func 149) #[] #[]),(3,.func (.func 150) #[] #[]),(4,.func (.func 151) #[] #[]),(7,.func (.func 152) #[] #[.pointer (some ⟨j,0,none⟩)]),(8,.func (.func 153) #[] #[.pointer (some ⟨j,0,none⟩)]),(9,.func (.func 154) #[] #[.pointer (some ⟨j,0,none⟩)]),(10,.func (.func 155) #[] #[.pointer (some ⟨j,0,none⟩)])]),.blk j [.func (.func 147) #[] #[]] 220]) Z ?_))))))))))))))
 refine QY Z Z Z Zq Z Z (QK (i:=11) (u:=.func (.func 156) #[] #[.pointer (some ⟨j,0,none⟩)]) (cs:=[.func (.func 156) #[] #[.pointer (some ⟨j,0,none⟩)]]) 0 Z Z (.inr Z) Z Z Z Z QF trivial Z (fun F w hφ=>⟨Z,Z⟩) (H':=[Q2h (Q1q (QT Q1O)) false Q1p g4 ([(1,.func (.func 148) #[] #[]),(2,.func (.func 149) #[] #[]),(3,.func (.func 150) #[] #[]),(4,.func (.func 151) #[] #[]),(7,.func (.func 152) #[] #[.pointer (some ⟨j,0,none⟩)]),(8,.func (.func 153) #[] #[.pointer (some ⟨j,0,none⟩)]),(9,.func (.func 154) #[] #[.pointer (some ⟨j,0,none⟩)]),(10,.func (.func 155) #[] #[.pointer (some ⟨j,0,none⟩)]),(11,.func (.func 156) #[] #[.pointer (some ⟨j,0,none⟩)])]),.blk j [.func (.func 147) #[] #[]] 220]) Z (wP Z (wP Z ?_)))
 rcases QG hm with ⟨q,hm⟩ | ⟨q,hm⟩
 ·
  refine QC (i:=a0) (a:=(.func (.func 148) #[] #[])) Qx 0 Z Z Z Zq Z Z Z Z QF trivial (by rw [eq_of_beq q]; rfl) (u:=fun _=>.func (.func 148) #[] #[]) (fun _=>Z) (v:=fun _=>.func (.func 148) #[] #[]) (fun _=>Z) (fun _ _=>(wP Z (Q3 (Q4 (Q2 [2] (S':=[_]) Z (Qb ?_))))))
  have hE:=(Zi hm).symm
  cases hE
 rcases QG hm with ⟨s,hm⟩ | ⟨s,hm⟩
 ·
  refine QC (i:=a0) (a:=(.func (.func 149) #[] #[])) Qx 0 Z Z Z Zq Z Z Z Z QF trivial (by rw [eq_of_beq s]; rfl) (u:=fun _=>.func (.func 149) #[] #[]) (fun _=>Z) (v:=fun _=>.func (.func 149) #[] #[]) (fun _=>Z) (fun _ _=>(wP Z (Q3 (Q4 (Q2 [2] (S':=[_]) Z (Qb ?_))))))
  have hE:=(Zi hm).symm
  cases hE
 rcases QG hm with ⟨z,hm⟩ | ⟨z,hm⟩
 refine QC (i:=a0) (a:=(.func (.func 150) #[] #[])) Qx 0 Z Z Z Zq Z Z Z Z QF trivial (by rw [eq_of_beq z]; rfl) (u:=fun _=>.func (.func 150) #[] #[]) (fun _=>Z) (v:=fun _=>.func (.func 150) #[] #[]) (fun _=>Z) (fun _ _=>(wP Z (Q3 (Q4 (Q2 [2] (S':=[_]) Z (Qb ?_))))))
 have hE:=(Zi hm).symm
 replace hE:=Sum.inr.inj hE
 replace hE:=Sum.inr.inj hE
 replace hE:=Sum.inl.inj hE
 refine Ql (Hr:=[]) [] Tryz.results118 (Qc Z) ⟨Z,Z,Z⟩ (asK [] Z) Z Z (.inl Z)
 rcases QG hm with ⟨a1,hm⟩ | ⟨a1,hm⟩
 ·
  refine QC (i:=a0) (a:=(.func (.func 151) #[] #[])) Qx 0 Z Z Z Zq Z Z Z Z QF trivial (by rw [eq_of_beq a1]; rfl) (u:=fun _=>.func (.func 151) #[] #[]) (fun _=>Z) (v:=fun _=>.func (.func 151) #[] #[]) (fun _=>Z) (fun _ _=>(wP Z (Q3 (Q4 (Q2 [2] (S':=[_]) Z (Qb ?_))))))
  have hE:=(Zi hm).symm
  cases hE
 rcases QG hm with ⟨a5,hm⟩ | ⟨a5,hm⟩
 ·
  refine QC (i:=a0) (a:=(.func (.func 152) #[] #[.pointer (some ⟨j,0,none⟩)])) Qx 0 Z Z Z Zq Z Z Z Z QF trivial (by rw [eq_of_beq a5]; rfl) (u:=fun _=>.func (.func 152) #[] #[.pointer (some ⟨j,0,none⟩)]) (fun _=>Z) (v:=fun _=>.func (.func 152) #[] #[.pointer (some ⟨j,0,none⟩)]) (fun _=>Z) (fun _ _=>(wP Z (Q3 (Q4 (Q2 [2] (S':=[_]) Z (Qb ?_))))))
  have hE:=(Zi hm).symm
  cases hE
 rcases QG hm with ⟨a6,hm⟩ | ⟨a6,hm⟩
 ·
  refine QC (i:=a0) (a:=(.func (.func 153) #[] #[.pointer (some ⟨j,0,none⟩)])) Qx 0 Z Z Z Zq Z Z Z Z QF trivial (by rw [eq_of_beq a6]; rfl) (u:=fun _=>.func (.func 153) #[] #[.pointer (some ⟨j,0,none⟩)]) (fun _=>Z) (v:=fun _=>.func (.func 153) #[] #[.pointer (some ⟨j,0,none⟩)]) (fun _=>Z) (fun _ _=>(wP Z (Q3 (Q4 (Q2 [2] (S':=[_]) Z (Qb ?_))))))
  have hE:=(Zi hm).symm
  cases hE
 rcases QG hm with ⟨a7,hm⟩ | ⟨a7,hm⟩
 ·
  refine QC (i:=a0) (a:=(.func (.func 154) #[] #[.pointer (some ⟨j,0,none⟩)])) Qx 0 Z Z Z Zq Z Z Z Z QF trivial (by rw [eq_of_beq a7]; rfl) (u:=fun _=>.func (.func 154) #[] #[.pointer (some ⟨j,0,none⟩)]) (fun _=>Z) (v:=fun _=>.func (.func 154) #[] #[.pointer (some ⟨j,0,none⟩)]) (fun _=>Z) (fun _ _=>(wP Z (Q3 (Q4 (Q2 [2] (S':=[_]) Z (Qb ?_))))))
  have hE:=(Zi hm).symm
  cases hE
 rcases QG hm with ⟨a8,hm⟩ | ⟨a8,hm⟩
 ·
  refine QC (i:=a0) (a:=(.func (.func 155) #[] #[.pointer (some ⟨j,0,none⟩)])) Qx 0 Z Z Z Zq Z Z Z Z QF trivial (by rw [eq_of_beq a8]; rfl) (u:=fun _=>.func (.func 155) #[] #[.pointer (some ⟨j,0,none⟩)]) (fun _=>Z) (v:=fun _=>.func (.func 155) #[] #[.pointer (some ⟨j,0,none⟩)]) (fun _=>Z) (fun _ _=>(wP Z (Q3 (Q4 (Q2 [2] (S':=[_]) Z (Qb ?_))))))
  have hE:=(Zi hm).symm
  cases hE
 rcases QG hm with ⟨a9,hm⟩ | ⟨a9,hm⟩
 ·
  refine QC (i:=a0) (a:=(.func (.func 156) #[] #[.pointer (some ⟨j,0,none⟩)])) Qx 0 Z Z Z Zq Z Z Z Z QF trivial (by rw [eq_of_beq a9]; rfl) (u:=fun _=>.func (.func 156) #[] #[.pointer (some ⟨j,0,none⟩)]) (fun _=>Z) (v:=fun _=>.func (.func 156) #[] #[.pointer (some ⟨j,0,none⟩)]) (fun _=>Z) (fun _ _=>(wP Z (Q3 (Q4 (Q2 [2] (S':=[_]) Z (Qb ?_))))))
  have hE:=(Zi hm).symm
  cases hE
 ·
  refine Q58 (i:=a0) 0 Z Z Z Zq Z Z Z Z QaR QF trivial (by simp [Q70,(ne_of_beq_false q).symm,(ne_of_beq_false s).symm,(ne_of_beq_false z).symm,(ne_of_beq_false a1).symm,(ne_of_beq_false a5).symm,(ne_of_beq_false a6).symm,(ne_of_beq_false a7).symm,(ne_of_beq_false a8).symm,(ne_of_beq_false a9).symm]) (v:=.nilFunc) Z (wP Z (Q3 (Q4 (Q2 [2] (S':=[_]) Z (Qb ?_)))))
  have hE:=(Zi hm).symm
  cases hE
theorem w_value_does_s3 (N:Nat) (a0:Int)  (hm:Q2a N a0 = some (.inr (.inr (.inr (.inl ()))))):Q1o Tryz.prog 118 [.int .u8 a0] [] [] (fun v Φr Hr=>v = .func (.func 151) #[] #[] ∧ Φr = [] ∧ Hr = []):=by
 unfold Q2a at hm
 refine QD Tryz.func118 Z Tryz.ntmps118 Z (S:=[_]) Z (fun C=>(Q5 (Q1 (wP Z (Q3 (Q4 (Q2 [0] (S':=[_]) Z (Q5 (Q1 (QE Z Z Z Zq Z QaS Z (fun j=>(wS 0 0 Z Q7M (all':=[_]) Z (H':=[_]) Z (Q3 (Q4 (Q5 ?_)))))))))))))))
 refine Q1 (Q4b (Q1q (QT Q1O)) false Q1p Z Z Z Zq Z (fun g4=>(QK (i:=1) (u:=.func (.func 148) #[] #[]) (cs:=[.func (.func 148) #[] #[]]) 0 Z Z (.inr Z) Z Z Z Z QF trivial Z (fun F w hφ=>⟨Z,Z⟩) (H':=[Q2h (Q1q (QT Q1O)) false Q1p g4 ([(1,.func (.func 148) #[] #[])]),.blk j [.func (.func 147) #[] #[]] 220]) Z (QK (i:=2) (u:=.func (.func 149) #[] #[]) (cs:=[.func (.func 149) #[] #[]]) 0 Z Z (.inr Z) Z Z Z Z QF trivial Z (fun F w hφ=>⟨Z,Z⟩) (H':=[Q2h (Q1q (QT Q1O)) false Q1p g4 ([(1,.func (.func 148) #[] #[]),(2,.func (.func 149) #[] #[])]),.blk j [.func (.func 147) #[] #[]] 220]) Z (QK (i:=3) (u:=.func (.func 150) #[] #[]) (cs:=[.func (.func 150) #[] #[]]) 0 Z Z (.inr Z) Z Z Z Z QF trivial Z (fun F w hφ=>⟨Z,Z⟩) (H':=[Q2h (Q1q (QT Q1O)) false Q1p g4 ([(1,.func (.func 148) #[] #[]),(2,.func (.func 149) #[] #[]),(3,.func (.func 150) #[] #[])]),.blk j [.func (.func 147) #[] #[]] 220]) Z (QK (i:=4) (u:=.func (.func 151) #[] #[]) (cs:=[.func (.func 151) #[] #[]]) 0 Z Z (.inr Z) Z Z Z Z QF trivial Z (fun F w hφ=>⟨Z,Z⟩) (H':=[Q2h (Q1q (QT Q1O)) false Q1p g4 ([(1,.func (.func 148) #[] #[]),(2,.func (.func 149) #[] #[]),(3,.func (.func 150) #[] #[]),(4,.func (.func 151) #[] #[])]),.blk j [.func (.func 147) #[] #[]] 220]) Z (QY Z Z Z Zq Z Z (QK (i:=7) (u:=.func (.func 152) #[] #[.pointer (some ⟨j,0,none⟩)]) (cs:=[.func (.func 152) #[] #[.pointer (some ⟨j,0,none⟩)]]) 0 Z Z (.inr Z) Z Z Z Z QF trivial Z (fun F w hφ=>⟨Z,Z⟩) (H':=[Q2h (Q1q (QT Q1O)) false Q1p g4 ([(1,.func (.func 148) #[] #[]),(2,.func (.func 149) #[] #[]),(3,.func (.func 150) #[] #[]),(4,.func (.func 151) #[] #[]),(7,.func (.func 152) #[] #[.pointer (some ⟨j,0,none⟩)])]),.blk j [.func (.func 147) #[] #[]] 220]) Z (QY Z Z Z Zq Z Z (QK (i:=8) (u:=.func (.func 153) #[] #[.pointer (some ⟨j,0,none⟩)]) (cs:=[.func (.func 153) #[] #[.pointer (some ⟨j,0,none⟩)]]) 0 Z Z (.inr Z) Z Z Z Z QF trivial Z (fun F w hφ=>⟨Z,Z⟩) (H':=[Q2h (Q1q (QT Q1O)) false Q1p g4 ([(1,.func (.func 148) #[] #[]),(2,.func (.func 149) #[] #[]),(3,.func (.func 150) #[] #[]),(4,.func (.func 151) #[] #[]),(7,.func (.func 152) #[] #[.pointer (some ⟨j,0,none⟩)]),(8,.func (.func 153) #[] #[.pointer (some ⟨j,0,none⟩)])]),.blk j [.func (.func 147) #[] #[]] 220]) Z (QY Z Z Z Zq Z Z (QK (i:=9) (u:=.func (.func 154) #[] #[.pointer (some ⟨j,0,none⟩)]) (cs:=[.func (.func 154) #[] #[.pointer (some ⟨j,0,none⟩)]]) 0 Z Z (.inr Z) Z Z Z Z QF trivial Z (fun F w hφ=>⟨Z,Z⟩) (H':=[Q2h (Q1q (QT Q1O)) false Q1p g4 ([(1,.func (.func 148) #[] #[]),(2,.func (.func 149) #[] #[]),(3,.func (.func 150) #[] #[]),(4,.func (.func 151) #[] #[]),(7,.func (.func 152) #[] #[.pointer (some ⟨j,0,none⟩)]),(8,.func (.func 153) #[] #[.pointer (some ⟨j,0,none⟩)]),(9,.func (.func 154) #[] #[.pointer (some ⟨j,0,none⟩)])]),.blk j [.func (.func 147) #[] #[]] 220]) Z (QY Z Z Z Zq Z Z (QK (i:=10) (u:=.func (.func 155) #[] #[.pointer (some ⟨j,0,none⟩)]) (cs:=[.func (.func 155) #[] #[.pointer (some ⟨j,0,none⟩)]]) 0 Z Z (.inr Z) Z Z Z Z QF trivial Z (fun F w hφ=>⟨Z,Z⟩) (H':=[Q2h (Q1q (QT Q1O)) false Q1p g4 ([(1,.func (.func 148) #[] #[]),(2,.func (.func 149) #[] #[]),(3,.func (.func 150) #[] #[]),(4,.func (.func 151) #[] #[]),(7,.func (.func 152) #[] #[.pointer (some ⟨j,0,none⟩)]),(8,.func (.func 153) #[] #[.pointer (some ⟨j,0,none⟩)]),(9,.func (.func 154) #[] #[.pointer (some ⟨j,0,none⟩)]),(10,.func (.func 155) #[] #[.pointer (some ⟨j,0,none⟩)])]),.blk j [.func (.func 147) #[] #[]] 220]) Z ?_))))))))))))))
 refine QY Z Z Z Zq Z Z (QK (i:=11) (u:=.func (.func 156) #[] #[.pointer (some ⟨j,0,none⟩)]) (cs:=[.func (.func 156) #[] #[.pointer (some ⟨j,0,none⟩)]]) 0 Z Z (.inr Z) Z Z Z Z QF trivial Z (fun F w hφ=>⟨Z,Z⟩) (H':=[Q2h (Q1q (QT Q1O)) false Q1p g4 ([(1,.func (.func 148) #[] #[]),(2,.func (.func 149) #[] #[]),(3,.func (.func 150) #[] #[]),(4,.func (.func 151) #[] #[]),(7,.func (.func 152) #[] #[.pointer (some ⟨j,0,none⟩)]),(8,.func (.func 153) #[] #[.pointer (some ⟨j,0,none⟩)]),(9,.func (.func 154) #[] #[.pointer (some ⟨j,0,none⟩)]),(10,.func (.func 155) #[] #[.pointer (some ⟨j,0,none⟩)]),(11,.func (.func 156) #[] #[.pointer (some ⟨j,0,none⟩)])]),.blk j [.func (.func 147) #[] #[]] 220]) Z (wP Z (wP Z ?_)))
 rcases QG hm with ⟨q,hm⟩ | ⟨q,hm⟩
 ·
  refine QC (i:=a0) (a:=(.func (.func 148) #[] #[])) Qx 0 Z Z Z Zq Z Z Z Z QF trivial (by rw [eq_of_beq q]; rfl) (u:=fun _=>.func (.func 148) #[] #[]) (fun _=>Z) (v:=fun _=>.func (.func 148) #[] #[]) (fun _=>Z) (fun _ _=>(wP Z (Q3 (Q4 (Q2 [2] (S':=[_]) Z (Qb ?_))))))
  have hE:=(Zi hm).symm
  cases hE
 rcases QG hm with ⟨s,hm⟩ | ⟨s,hm⟩
 ·
  refine QC (i:=a0) (a:=(.func (.func 149) #[] #[])) Qx 0 Z Z Z Zq Z Z Z Z QF trivial (by rw [eq_of_beq s]; rfl) (u:=fun _=>.func (.func 149) #[] #[]) (fun _=>Z) (v:=fun _=>.func (.func 149) #[] #[]) (fun _=>Z) (fun _ _=>(wP Z (Q3 (Q4 (Q2 [2] (S':=[_]) Z (Qb ?_))))))
  have hE:=(Zi hm).symm
  cases hE
 rcases QG hm with ⟨z,hm⟩ | ⟨z,hm⟩
 ·
  refine QC (i:=a0) (a:=(.func (.func 150) #[] #[])) Qx 0 Z Z Z Zq Z Z Z Z QF trivial (by rw [eq_of_beq z]; rfl) (u:=fun _=>.func (.func 150) #[] #[]) (fun _=>Z) (v:=fun _=>.func (.func 150) #[] #[]) (fun _=>Z) (fun _ _=>(wP Z (Q3 (Q4 (Q2 [2] (S':=[_]) Z (Qb ?_))))))
  have hE:=(Zi hm).symm
  cases hE
 rcases QG hm with ⟨a1,hm⟩ | ⟨a1,hm⟩
 refine QC (i:=a0) (a:=(.func (.func 151) #[] #[])) Qx 0 Z Z Z Zq Z Z Z Z QF trivial (by rw [eq_of_beq a1]; rfl) (u:=fun _=>.func (.func 151) #[] #[]) (fun _=>Z) (v:=fun _=>.func (.func 151) #[] #[]) (fun _=>Z) (fun _ _=>(wP Z (Q3 (Q4 (Q2 [2] (S':=[_]) Z (Qb ?_))))))
 have hE:=(Zi hm).symm
 replace hE:=Sum.inr.inj hE
 replace hE:=Sum.inr.inj hE
 replace hE:=Sum.inr.inj hE
 replace hE:=Sum.inl.inj hE
 refine Ql (Hr:=[]) [] Tryz.results118 (Qc Z) ⟨Z,Z,Z⟩ (asK [] Z) Z Z (.inl Z)
 rcases QG hm with ⟨a5,hm⟩ | ⟨a5,hm⟩
 ·
  refine QC (i:=a0) (a:=(.func (.func 152) #[] #[.pointer (some ⟨j,0,none⟩)])) Qx 0 Z Z Z Zq Z Z Z Z QF trivial (by rw [eq_of_beq a5]; rfl) (u:=fun _=>.func (.func 152) #[] #[.pointer (some ⟨j,0,none⟩)]) (fun _=>Z) (v:=fun _=>.func (.func 152) #[] #[.pointer (some ⟨j,0,none⟩)]) (fun _=>Z) (fun _ _=>(wP Z (Q3 (Q4 (Q2 [2] (S':=[_]) Z (Qb ?_))))))
  have hE:=(Zi hm).symm
  cases hE
 rcases QG hm with ⟨a6,hm⟩ | ⟨a6,hm⟩
 ·
  refine QC (i:=a0) (a:=(.func (.func 153) #[] #[.pointer (some ⟨j,0,none⟩)])) Qx 0 Z Z Z Zq Z Z Z Z QF trivial (by rw [eq_of_beq a6]; rfl) (u:=fun _=>.func (.func 153) #[] #[.pointer (some ⟨j,0,none⟩)]) (fun _=>Z) (v:=fun _=>.func (.func 153) #[] #[.pointer (some ⟨j,0,none⟩)]) (fun _=>Z) (fun _ _=>(wP Z (Q3 (Q4 (Q2 [2] (S':=[_]) Z (Qb ?_))))))
  have hE:=(Zi hm).symm
  cases hE
 rcases QG hm with ⟨a7,hm⟩ | ⟨a7,hm⟩
 ·
  refine QC (i:=a0) (a:=(.func (.func 154) #[] #[.pointer (some ⟨j,0,none⟩)])) Qx 0 Z Z Z Zq Z Z Z Z QF trivial (by rw [eq_of_beq a7]; rfl) (u:=fun _=>.func (.func 154) #[] #[.pointer (some ⟨j,0,none⟩)]) (fun _=>Z) (v:=fun _=>.func (.func 154) #[] #[.pointer (some ⟨j,0,none⟩)]) (fun _=>Z) (fun _ _=>(wP Z (Q3 (Q4 (Q2 [2] (S':=[_]) Z (Qb ?_))))))
  have hE:=(Zi hm).symm
  cases hE
 rcases QG hm with ⟨a8,hm⟩ | ⟨a8,hm⟩
 ·
  refine QC (i:=a0) (a:=(.func (.func 155) #[] #[.pointer (some ⟨j,0,none⟩)])) Qx 0 Z Z Z Zq Z Z Z Z QF trivial (by rw [eq_of_beq a8]; rfl) (u:=fun _=>.func (.func 155) #[] #[.pointer (some ⟨j,0,none⟩)]) (fun _=>Z) (v:=fun _=>.func (.func 155) #[] #[.pointer (some ⟨j,0,none⟩)]) (fun _=>Z) (fun _ _=>(wP Z (Q3 (Q4 (Q2 [2] (S':=[_]) Z (Qb ?_))))))
  have hE:=(Zi hm).symm
  cases hE
 rcases QG hm with ⟨a9,hm⟩ | ⟨a9,hm⟩
 ·
  refine QC (i:=a0) (a:=(.func (.func 156) #[] #[.pointer (some ⟨j,0,none⟩)])) Qx 0 Z Z Z Zq Z Z Z Z QF trivial (by rw [eq_of_beq a9]; rfl) (u:=fun _=>.func (.func 156) #[] #[.pointer (some ⟨j,0,none⟩)]) (fun _=>Z) (v:=fun _=>.func (.func 156) #[] #[.pointer (some ⟨j,0,none⟩)]) (fun _=>Z) (fun _ _=>(wP Z (Q3 (Q4 (Q2 [2] (S':=[_]) Z (Qb ?_))))))
  have hE:=(Zi hm).symm
  cases hE
 ·
  refine Q58 (i:=a0) 0 Z Z Z Zq Z Z Z Z QaR QF trivial (by simp [Q70,(ne_of_beq_false q).symm,(ne_of_beq_false s).symm,(ne_of_beq_false z).symm,(ne_of_beq_false a1).symm,(ne_of_beq_false a5).symm,(ne_of_beq_false a6).symm,(ne_of_beq_false a7).symm,(ne_of_beq_false a8).symm,(ne_of_beq_false a9).symm]) (v:=.nilFunc) Z (wP Z (Q3 (Q4 (Q2 [2] (S':=[_]) Z (Qb ?_)))))
  have hE:=(Zi hm).symm
  cases hE
theorem w_value_does_s4 (N:Nat) (a0:Int)  (hm:Q2a N a0 = some (.inr (.inr (.inr (.inr (.inl ())))))):Q1o Tryz.prog 118 [.int .u8 a0] [] [] (fun v Φr Hr=>∃ (o0:Nat),v = .func (.func 152) #[] #[.pointer (some ⟨o0,0,none⟩)] ∧ Φr = [] ∧ Hr = [.blk o0 [.func (.func 147) #[] #[]] 220]):=by
 unfold Q2a at hm
 refine QD Tryz.func118 Z Tryz.ntmps118 Z (S:=[_]) Z (fun C=>(Q5 (Q1 (wP Z (Q3 (Q4 (Q2 [0] (S':=[_]) Z (Q5 (Q1 (QE Z Z Z Zq Z QaS Z (fun j=>(wS 0 0 Z Q7M (all':=[_]) Z (H':=[_]) Z (Q3 (Q4 (Q5 ?_)))))))))))))))
 refine Q1 (Q4b (Q1q (QT Q1O)) false Q1p Z Z Z Zq Z (fun g4=>(QK (i:=1) (u:=.func (.func 148) #[] #[]) (cs:=[.func (.func 148) #[] #[]]) 0 Z Z (.inr Z) Z Z Z Z QF trivial Z (fun F w hφ=>⟨Z,Z⟩) (H':=[Q2h (Q1q (QT Q1O)) false Q1p g4 ([(1,.func (.func 148) #[] #[])]),.blk j [.func (.func 147) #[] #[]] 220]) Z (QK (i:=2) (u:=.func (.func 149) #[] #[]) (cs:=[.func (.func 149) #[] #[]]) 0 Z Z (.inr Z) Z Z Z Z QF trivial Z (fun F w hφ=>⟨Z,Z⟩) (H':=[Q2h (Q1q (QT Q1O)) false Q1p g4 ([(1,.func (.func 148) #[] #[]),(2,.func (.func 149) #[] #[])]),.blk j [.func (.func 147) #[] #[]] 220]) Z (QK (i:=3) (u:=.func (.func 150) #[] #[]) (cs:=[.func (.func 150) #[] #[]]) 0 Z Z (.inr Z) Z Z Z Z QF trivial Z (fun F w hφ=>⟨Z,Z⟩) (H':=[Q2h (Q1q (QT Q1O)) false Q1p g4 ([(1,.func (.func 148) #[] #[]),(2,.func (.func 149) #[] #[]),(3,.func (.func 150) #[] #[])]),.blk j [.func (.func 147) #[] #[]] 220]) Z (QK (i:=4) (u:=.func (.func 151) #[] #[]) (cs:=[.func (.func 151) #[] #[]]) 0 Z Z (.inr Z) Z Z Z Z QF trivial Z (fun F w hφ=>⟨Z,Z⟩) (H':=[Q2h (Q1q (QT Q1O)) false Q1p g4 ([(1,.func (.func 148) #[] #[]),(2,.func (.func 149) #[] #[]),(3,.func (.func 150) #[] #[]),(4,.func (.func 151) #[] #[])]),.blk j [.func (.func 147) #[] #[]] 220]) Z (QY Z Z Z Zq Z Z (QK (i:=7) (u:=.func (.func 152) #[] #[.pointer (some ⟨j,0,none⟩)]) (cs:=[.func (.func 152) #[] #[.pointer (some ⟨j,0,none⟩)]]) 0 Z Z (.inr Z) Z Z Z Z QF trivial Z (fun F w hφ=>⟨Z,Z⟩) (H':=[Q2h (Q1q (QT Q1O)) false Q1p g4 ([(1,.func (.func 148) #[] #[]),(2,.func (.func 149) #[] #[]),(3,.func (.func 150) #[] #[]),(4,.func (.func 151) #[] #[]),(7,.func (.func 152) #[] #[.pointer (some ⟨j,0,none⟩)])]),.blk j [.func (.func 147) #[] #[]] 220]) Z (QY Z Z Z Zq Z Z (QK (i:=8) (u:=.func (.func 153) #[] #[.pointer (some ⟨j,0,none⟩)]) (cs:=[.func (.func 153) #[] #[.pointer (some ⟨j,0,none⟩)]]) 0 Z Z (.inr Z) Z Z Z Z QF trivial Z (fun F w hφ=>⟨Z,Z⟩) (H':=[Q2h (Q1q (QT Q1O)) false Q1p g4 ([(1,.func (.func 148) #[] #[]),(2,.func (.func 149) #[] #[]),(3,.func (.func 150) #[] #[]),(4,.func (.func 151) #[] #[]),(7,.func (.func 152) #[] #[.pointer (some ⟨j,0,none⟩)]),(8,.func (.func 153) #[] #[.pointer (some ⟨j,0,none⟩)])]),.blk j [.func (.func 147) #[] #[]] 220]) Z (QY Z Z Z Zq Z Z (QK (i:=9) (u:=.func (.func 154) #[] #[.pointer (some ⟨j,0,none⟩)]) (cs:=[.func (.func 154) #[] #[.pointer (some ⟨j,0,none⟩)]]) 0 Z Z (.inr Z) Z Z Z Z QF trivial Z (fun F w hφ=>⟨Z,Z⟩) (H':=[Q2h (Q1q (QT Q1O)) false Q1p g4 ([(1,.func (.func 148) #[] #[]),(2,.func (.func 149) #[] #[]),(3,.func (.func 150) #[] #[]),(4,.func (.func 151) #[] #[]),(7,.func (.func 152) #[] #[.pointer (some ⟨j,0,none⟩)]),(8,.func (.func 153) #[] #[.pointer (some ⟨j,0,none⟩)]),(9,.func (.func 154) #[] #[.pointer (some ⟨j,0,none⟩)])]),.blk j [.func (.func 147) #[] #[]] 220]) Z (QY Z Z Z Zq Z Z (QK (i:=10) (u:=.func (.func 155) #[] #[.pointer (some ⟨j,0,none⟩)]) (cs:=[.func (.func 155) #[] #[.pointer (some ⟨j,0,none⟩)]]) 0 Z Z (.inr Z) Z Z Z Z QF trivial Z (fun F w hφ=>⟨Z,Z⟩) (H':=[Q2h (Q1q (QT Q1O)) false Q1p g4 ([(1,.func (.func 148) #[] #[]),(2,.func (.func 149) #[] #[]),(3,.func (.func 150) #[] #[]),(4,.func (.func 151) #[] #[]),(7,.func (.func 152) #[] #[.pointer (some ⟨j,0,none⟩)]),(8,.func (.func 153) #[] #[.pointer (some ⟨j,0,none⟩)]),(9,.func (.func 154) #[] #[.pointer (some ⟨j,0,none⟩)]),(10,.func (.func 155) #[] #[.pointer (some ⟨j,0,none⟩)])]),.blk j [.func (.func 147) #[] #[]] 220]) Z ?_))))))))))))))
 refine QY Z Z Z Zq Z Z (QK (i:=11) (u:=.func (.func 156) #[] #[.pointer (some ⟨j,0,none⟩)]) (cs:=[.func (.func 156) #[] #[.pointer (some ⟨j,0,none⟩)]]) 0 Z Z (.inr Z) Z Z Z Z QF trivial Z (fun F w hφ=>⟨Z,Z⟩) (H':=[Q2h (Q1q (QT Q1O)) false Q1p g4 ([(1,.func (.func 148) #[] #[]),(2,.func (.func 149) #[] #[]),(3,.func (.func 150) #[] #[]),(4,.func (.func 151) #[] #[]),(7,.func (.func 152) #[] #[.pointer (some ⟨j,0,none⟩)]),(8,.func (.func 153) #[] #[.pointer (some ⟨j,0,none⟩)]),(9,.func (.func 154) #[] #[.pointer (some ⟨j,0,none⟩)]),(10,.func (.func 155) #[] #[.pointer (some ⟨j,0,none⟩)]),(11,.func (.func 156) #[] #[.pointer (some ⟨j,0,none⟩)])]),.blk j [.func (.func 147) #[] #[]] 220]) Z (wP Z (wP Z ?_)))
 rcases QG hm with ⟨q,hm⟩ | ⟨q,hm⟩
 ·
  refine QC (i:=a0) (a:=(.func (.func 148) #[] #[])) Qx 0 Z Z Z Zq Z Z Z Z QF trivial (by rw [eq_of_beq q]; rfl) (u:=fun _=>.func (.func 148) #[] #[]) (fun _=>Z) (v:=fun _=>.func (.func 148) #[] #[]) (fun _=>Z) (fun _ _=>(wP Z (Q3 (Q4 (Q2 [2] (S':=[_]) Z (Qb ?_))))))
  have hE:=(Zi hm).symm
  cases hE
 rcases QG hm with ⟨s,hm⟩ | ⟨s,hm⟩
 ·
  refine QC (i:=a0) (a:=(.func (.func 149) #[] #[])) Qx 0 Z Z Z Zq Z Z Z Z QF trivial (by rw [eq_of_beq s]; rfl) (u:=fun _=>.func (.func 149) #[] #[]) (fun _=>Z) (v:=fun _=>.func (.func 149) #[] #[]) (fun _=>Z) (fun _ _=>(wP Z (Q3 (Q4 (Q2 [2] (S':=[_]) Z (Qb ?_))))))
  have hE:=(Zi hm).symm
  cases hE
 rcases QG hm with ⟨z,hm⟩ | ⟨z,hm⟩
 ·
  refine QC (i:=a0) (a:=(.func (.func 150) #[] #[])) Qx 0 Z Z Z Zq Z Z Z Z QF trivial (by rw [eq_of_beq z]; rfl) (u:=fun _=>.func (.func 150) #[] #[]) (fun _=>Z) (v:=fun _=>.func (.func 150) #[] #[]) (fun _=>Z) (fun _ _=>(wP Z (Q3 (Q4 (Q2 [2] (S':=[_]) Z (Qb ?_))))))
  have hE:=(Zi hm).symm
  cases hE
 rcases QG hm with ⟨a1,hm⟩ | ⟨a1,hm⟩
 ·
  refine QC (i:=a0) (a:=(.func (.func 151) #[] #[])) Qx 0 Z Z Z Zq Z Z Z Z QF trivial (by rw [eq_of_beq a1]; rfl) (u:=fun _=>.func (.func 151) #[] #[]) (fun _=>Z) (v:=fun _=>.func (.func 151) #[] #[]) (fun _=>Z) (fun _ _=>(wP Z (Q3 (Q4 (Q2 [2] (S':=[_]) Z (Qb ?_))))))
  have hE:=(Zi hm).symm
  cases hE
 rcases QG hm with ⟨a5,hm⟩ | ⟨a5,hm⟩
 refine QC (i:=a0) (a:=(.func (.func 152) #[] #[.pointer (some ⟨j,0,none⟩)])) Qx 0 Z Z Z Zq Z Z Z Z QF trivial (by rw [eq_of_beq a5]; rfl) (u:=fun _=>.func (.func 152) #[] #[.pointer (some ⟨j,0,none⟩)]) (fun _=>Z) (v:=fun _=>.func (.func 152) #[] #[.pointer (some ⟨j,0,none⟩)]) (fun _=>Z) (fun _ _=>(wP Z (Q3 (Q4 (Q2 [2] (S':=[_]) Z (Qb ?_))))))
 have hE:=(Zi hm).symm
 replace hE:=Sum.inr.inj hE
 replace hE:=Sum.inr.inj hE
 replace hE:=Sum.inr.inj hE
 replace hE:=Sum.inr.inj hE
 replace hE:=Sum.inl.inj hE
 refine Ql (Hr:=[_]) [1] Tryz.results118 (Qc Z) ⟨j,Z,Z,Z⟩ (asK [] Z) Z Z (.inl Z)
 rcases QG hm with ⟨a6,hm⟩ | ⟨a6,hm⟩
 ·
  refine QC (i:=a0) (a:=(.func (.func 153) #[] #[.pointer (some ⟨j,0,none⟩)])) Qx 0 Z Z Z Zq Z Z Z Z QF trivial (by rw [eq_of_beq a6]; rfl) (u:=fun _=>.func (.func 153) #[] #[.pointer (some ⟨j,0,none⟩)]) (fun _=>Z) (v:=fun _=>.func (.func 153) #[] #[.pointer (some ⟨j,0,none⟩)]) (fun _=>Z) (fun _ _=>(wP Z (Q3 (Q4 (Q2 [2] (S':=[_]) Z (Qb ?_))))))
  have hE:=(Zi hm).symm
  cases hE
 rcases QG hm with ⟨a7,hm⟩ | ⟨a7,hm⟩
 ·
  refine QC (i:=a0) (a:=(.func (.func 154) #[] #[.pointer (some ⟨j,0,none⟩)])) Qx 0 Z Z Z Zq Z Z Z Z QF trivial (by rw [eq_of_beq a7]; rfl) (u:=fun _=>.func (.func 154) #[] #[.pointer (some ⟨j,0,none⟩)]) (fun _=>Z) (v:=fun _=>.func (.func 154) #[] #[.pointer (some ⟨j,0,none⟩)]) (fun _=>Z) (fun _ _=>(wP Z (Q3 (Q4 (Q2 [2] (S':=[_]) Z (Qb ?_))))))
  have hE:=(Zi hm).symm
  cases hE
 rcases QG hm with ⟨a8,hm⟩ | ⟨a8,hm⟩
 ·
  refine QC (i:=a0) (a:=(.func (.func 155) #[] #[.pointer (some ⟨j,0,none⟩)])) Qx 0 Z Z Z Zq Z Z Z Z QF trivial (by rw [eq_of_beq a8]; rfl) (u:=fun _=>.func (.func 155) #[] #[.pointer (some ⟨j,0,none⟩)]) (fun _=>Z) (v:=fun _=>.func (.func 155) #[] #[.pointer (some ⟨j,0,none⟩)]) (fun _=>Z) (fun _ _=>(wP Z (Q3 (Q4 (Q2 [2] (S':=[_]) Z (Qb ?_))))))
  have hE:=(Zi hm).symm
  cases hE
 rcases QG hm with ⟨a9,hm⟩ | ⟨a9,hm⟩
 ·
  refine QC (i:=a0) (a:=(.func (.func 156) #[] #[.pointer (some ⟨j,0,none⟩)])) Qx 0 Z Z Z Zq Z Z Z Z QF trivial (by rw [eq_of_beq a9]; rfl) (u:=fun _=>.func (.func 156) #[] #[.pointer (some ⟨j,0,none⟩)]) (fun _=>Z) (v:=fun _=>.func (.func 156) #[] #[.pointer (some ⟨j,0,none⟩)]) (fun _=>Z) (fun _ _=>(wP Z (Q3 (Q4 (Q2 [2] (S':=[_]) Z (Qb ?_))))))
  have hE:=(Zi hm).symm
  cases hE
 ·
  refine Q58 (i:=a0) 0 Z Z Z Zq Z Z Z Z QaR QF trivial (by simp [Q70,(ne_of_beq_false q).symm,(ne_of_beq_false s).symm,(ne_of_beq_false z).symm,(ne_of_beq_false a1).symm,(ne_of_beq_false a5).symm,(ne_of_beq_false a6).symm,(ne_of_beq_false a7).symm,(ne_of_beq_false a8).symm,(ne_of_beq_false a9).symm]) (v:=.nilFunc) Z (wP Z (Q3 (Q4 (Q2 [2] (S':=[_]) Z (Qb ?_)))))
  have hE:=(Zi hm).symm
  cases hE
theorem w_value_does_s5 (N:Nat) (a0:Int)  (hm:Q2a N a0 = some (.inr (.inr (.inr (.inr (.inr (.inl ()))))))):Q1o Tryz.prog 118 [.int .u8 a0] [] [] (fun v Φr Hr=>∃ (o0:Nat),v = .func (.func 153) #[] #[.pointer (some ⟨o0,0,none⟩)] ∧ Φr = [] ∧ Hr = [.blk o0 [.func (.func 147) #[] #[]] 220]):=by
 unfold Q2a at hm
 refine QD Tryz.func118 Z Tryz.ntmps118 Z (S:=[_]) Z (fun C=>(Q5 (Q1 (wP Z (Q3 (Q4 (Q2 [0] (S':=[_]) Z (Q5 (Q1 (QE Z Z Z Zq Z QaS Z (fun j=>(wS 0 0 Z Q7M (all':=[_]) Z (H':=[_]) Z (Q3 (Q4 (Q5 ?_)))))))))))))))
 refine Q1 (Q4b (Q1q (QT Q1O)) false Q1p Z Z Z Zq Z (fun g4=>(QK (i:=1) (u:=.func (.func 148) #[] #[]) (cs:=[.func (.func 148) #[] #[]]) 0 Z Z (.inr Z) Z Z Z Z QF trivial Z (fun F w hφ=>⟨Z,Z⟩) (H':=[Q2h (Q1q (QT Q1O)) false Q1p g4 ([(1,.func (.func 148) #[] #[])]),.blk j [.func (.func 147) #[] #[]] 220]) Z (QK (i:=2) (u:=.func (.func 149) #[] #[]) (cs:=[.func (.func 149) #[] #[]]) 0 Z Z (.inr Z) Z Z Z Z QF trivial Z (fun F w hφ=>⟨Z,Z⟩) (H':=[Q2h (Q1q (QT Q1O)) false Q1p g4 ([(1,.func (.func 148) #[] #[]),(2,.func (.func 149) #[] #[])]),.blk j [.func (.func 147) #[] #[]] 220]) Z (QK (i:=3) (u:=.func (.func 150) #[] #[]) (cs:=[.func (.func 150) #[] #[]]) 0 Z Z (.inr Z) Z Z Z Z QF trivial Z (fun F w hφ=>⟨Z,Z⟩) (H':=[Q2h (Q1q (QT Q1O)) false Q1p g4 ([(1,.func (.func 148) #[] #[]),(2,.func (.func 149) #[] #[]),(3,.func (.func 150) #[] #[])]),.blk j [.func (.func 147) #[] #[]] 220]) Z (QK (i:=4) (u:=.func (.func 151) #[] #[]) (cs:=[.func (.func 151) #[] #[]]) 0 Z Z (.inr Z) Z Z Z Z QF trivial Z (fun F w hφ=>⟨Z,Z⟩) (H':=[Q2h (Q1q (QT Q1O)) false Q1p g4 ([(1,.func (.func 148) #[] #[]),(2,.func (.func 149) #[] #[]),(3,.func (.func 150) #[] #[]),(4,.func (.func 151) #[] #[])]),.blk j [.func (.func 147) #[] #[]] 220]) Z (QY Z Z Z Zq Z Z (QK (i:=7) (u:=.func (.func 152) #[] #[.pointer (some ⟨j,0,none⟩)]) (cs:=[.func (.func 152) #[] #[.pointer (some ⟨j,0,none⟩)]]) 0 Z Z (.inr Z) Z Z Z Z QF trivial Z (fun F w hφ=>⟨Z,Z⟩) (H':=[Q2h (Q1q (QT Q1O)) false Q1p g4 ([(1,.func (.func 148) #[] #[]),(2,.func (.func 149) #[] #[]),(3,.func (.func 150) #[] #[]),(4,.func (.func 151) #[] #[]),(7,.func (.func 152) #[] #[.pointer (some ⟨j,0,none⟩)])]),.blk j [.func (.func 147) #[] #[]] 220]) Z (QY Z Z Z Zq Z Z (QK (i:=8) (u:=.func (.func 153) #[] #[.pointer (some ⟨j,0,none⟩)]) (cs:=[.func (.func 153) #[] #[.pointer (some ⟨j,0,none⟩)]]) 0 Z Z (.inr Z) Z Z Z Z QF trivial Z (fun F w hφ=>⟨Z,Z⟩) (H':=[Q2h (Q1q (QT Q1O)) false Q1p g4 ([(1,.func (.func 148) #[] #[]),(2,.func (.func 149) #[] #[]),(3,.func (.func 150) #[] #[]),(4,.func (.func 151) #[] #[]),(7,.func (.func 152) #[] #[.pointer (some ⟨j,0,none⟩)]),(8,.func (.func 153) #[] #[.pointer (some ⟨j,0,none⟩)])]),.blk j [.func (.func 147) #[] #[]] 220]) Z (QY Z Z Z Zq Z Z (QK (i:=9) (u:=.func (.func 154) #[] #[.pointer (some ⟨j,0,none⟩)]) (cs:=[.func (.func 154) #[] #[.pointer (some ⟨j,0,none⟩)]]) 0 Z Z (.inr Z) Z Z Z Z QF trivial Z (fun F w hφ=>⟨Z,Z⟩) (H':=[Q2h (Q1q (QT Q1O)) false Q1p g4 ([(1,.func (.func 148) #[] #[]),(2,.func (.func 149) #[] #[]),(3,.func (.func 150) #[] #[]),(4,.func (.func 151) #[] #[]),(7,.func (.func 152) #[] #[.pointer (some ⟨j,0,none⟩)]),(8,.func (.func 153) #[] #[.pointer (some ⟨j,0,none⟩)]),(9,.func (.func 154) #[] #[.pointer (some ⟨j,0,none⟩)])]),.blk j [.func (.func 147) #[] #[]] 220]) Z (QY Z Z Z Zq Z Z (QK (i:=10) (u:=.func (.func 155) #[] #[.pointer (some ⟨j,0,none⟩)]) (cs:=[.func (.func 155) #[] #[.pointer (some ⟨j,0,none⟩)]]) 0 Z Z (.inr Z) Z Z Z Z QF trivial Z (fun F w hφ=>⟨Z,Z⟩) (H':=[Q2h (Q1q (QT Q1O)) false Q1p g4 ([(1,.func (.func 148) #[] #[]),(2,.func (.func 149) #[] #[]),(3,.func (.func 150) #[] #[]),(4,.func (.func 151) #[] #[]),(7,.func (.func 152) #[] #[.pointer (some ⟨j,0,none⟩)]),(8,.func (.func 153) #[] #[.pointer (some ⟨j,0,none⟩)]),(9,.func (.func 154) #[] #[.pointer (some ⟨j,0,none⟩)]),(10,.func (.func 155) #[] #[.pointer (some ⟨j,0,none⟩)])]),.blk j [.func (.func 147) #[] #[]] 220]) Z ?_))))))))))))))
 refine QY Z Z Z Zq Z Z (QK (i:=11) (u:=.func (.func 156) #[] #[.pointer (some ⟨j,0,none⟩)]) (cs:=[.func (.func 156) #[] #[.pointer (some ⟨j,0,none⟩)]]) 0 Z Z (.inr Z) Z Z Z Z QF trivial Z (fun F w hφ=>⟨Z,Z⟩) (H':=[Q2h (Q1q (QT Q1O)) false Q1p g4 ([(1,.func (.func 148) #[] #[]),(2,.func (.func 149) #[] #[]),(3,.func (.func 150) #[] #[]),(4,.func (.func 151) #[] #[]),(7,.func (.func 152) #[] #[.pointer (some ⟨j,0,none⟩)]),(8,.func (.func 153) #[] #[.pointer (some ⟨j,0,none⟩)]),(9,.func (.func 154) #[] #[.pointer (some ⟨j,0,none⟩)]),(10,.func (.func 155) #[] #[.pointer (some ⟨j,0,none⟩)]),(11,.func (.func 156) #[] #[.pointer (some ⟨j,0,none⟩)])]),.blk j [.func (.func 147) #[] #[]] 220]) Z (wP Z (wP Z ?_)))
 rcases QG hm with ⟨q,hm⟩ | ⟨q,hm⟩
 ·
  refine QC (i:=a0) (a:=(.func (.func 148) #[] #[])) Qx 0 Z Z Z Zq Z Z Z Z QF trivial (by rw [eq_of_beq q]; rfl) (u:=fun _=>.func (.func 148) #[] #[]) (fun _=>Z) (v:=fun _=>.func (.func 148) #[] #[]) (fun _=>Z) (fun _ _=>(wP Z (Q3 (Q4 (Q2 [2] (S':=[_]) Z (Qb ?_))))))
  have hE:=(Zi hm).symm
  cases hE
 rcases QG hm with ⟨s,hm⟩ | ⟨s,hm⟩
 ·
  refine QC (i:=a0) (a:=(.func (.func 149) #[] #[])) Qx 0 Z Z Z Zq Z Z Z Z QF trivial (by rw [eq_of_beq s]; rfl) (u:=fun _=>.func (.func 149) #[] #[]) (fun _=>Z) (v:=fun _=>.func (.func 149) #[] #[]) (fun _=>Z) (fun _ _=>(wP Z (Q3 (Q4 (Q2 [2] (S':=[_]) Z (Qb ?_))))))
  have hE:=(Zi hm).symm
  cases hE
 rcases QG hm with ⟨z,hm⟩ | ⟨z,hm⟩
 ·
  refine QC (i:=a0) (a:=(.func (.func 150) #[] #[])) Qx 0 Z Z Z Zq Z Z Z Z QF trivial (by rw [eq_of_beq z]; rfl) (u:=fun _=>.func (.func 150) #[] #[]) (fun _=>Z) (v:=fun _=>.func (.func 150) #[] #[]) (fun _=>Z) (fun _ _=>(wP Z (Q3 (Q4 (Q2 [2] (S':=[_]) Z (Qb ?_))))))
  have hE:=(Zi hm).symm
  cases hE
 rcases QG hm with ⟨a1,hm⟩ | ⟨a1,hm⟩
 ·
  refine QC (i:=a0) (a:=(.func (.func 151) #[] #[])) Qx 0 Z Z Z Zq Z Z Z Z QF trivial (by rw [eq_of_beq a1]; rfl) (u:=fun _=>.func (.func 151) #[] #[]) (fun _=>Z) (v:=fun _=>.func (.func 151) #[] #[]) (fun _=>Z) (fun _ _=>(wP Z (Q3 (Q4 (Q2 [2] (S':=[_]) Z (Qb ?_))))))
  have hE:=(Zi hm).symm
  cases hE
 rcases QG hm with ⟨a5,hm⟩ | ⟨a5,hm⟩
 ·
  refine QC (i:=a0) (a:=(.func (.func 152) #[] #[.pointer (some ⟨j,0,none⟩)])) Qx 0 Z Z Z Zq Z Z Z Z QF trivial (by rw [eq_of_beq a5]; rfl) (u:=fun _=>.func (.func 152) #[] #[.pointer (some ⟨j,0,none⟩)]) (fun _=>Z) (v:=fun _=>.func (.func 152) #[] #[.pointer (some ⟨j,0,none⟩)]) (fun _=>Z) (fun _ _=>(wP Z (Q3 (Q4 (Q2 [2] (S':=[_]) Z (Qb ?_))))))
  have hE:=(Zi hm).symm
  cases hE
 rcases QG hm with ⟨a6,hm⟩ | ⟨a6,hm⟩
 refine QC (i:=a0) (a:=(.func (.func 153) #[] #[.pointer (some ⟨j,0,none⟩)])) Qx 0 Z Z Z Zq Z Z Z Z QF trivial (by rw [eq_of_beq a6]; rfl) (u:=fun _=>.func (.func 153) #[] #[.pointer (some ⟨j,0,none⟩)]) (fun _=>Z) (v:=fun _=>.func (.func 153) #[] #[.pointer (some ⟨j,0,none⟩)]) (fun _=>Z) (fun _ _=>(wP Z (Q3 (Q4 (Q2 [2] (S':=[_]) Z (Qb ?_))))))
 have hE:=(Zi hm).symm
 replace hE:=Sum.inr.inj hE
 replace hE:=Sum.inr.inj hE
 replace hE:=Sum.inr.inj hE
 replace hE:=Sum.inr.inj hE
 replace hE:=Sum.inr.inj hE
 replace hE:=Sum.inl.inj hE
 refine Ql (Hr:=[_]) [1] Tryz.results118 (Qc Z) ⟨j,Z,Z,Z⟩ (asK [] Z) Z Z (.inl Z)
 rcases QG hm with ⟨a7,hm⟩ | ⟨a7,hm⟩
 ·
  refine QC (i:=a0) (a:=(.func (.func 154) #[] #[.pointer (some ⟨j,0,none⟩)])) Qx 0 Z Z Z Zq Z Z Z Z QF trivial (by rw [eq_of_beq a7]; rfl) (u:=fun _=>.func (.func 154) #[] #[.pointer (some ⟨j,0,none⟩)]) (fun _=>Z) (v:=fun _=>.func (.func 154) #[] #[.pointer (some ⟨j,0,none⟩)]) (fun _=>Z) (fun _ _=>(wP Z (Q3 (Q4 (Q2 [2] (S':=[_]) Z (Qb ?_))))))
  have hE:=(Zi hm).symm
  cases hE
 rcases QG hm with ⟨a8,hm⟩ | ⟨a8,hm⟩
 ·
  refine QC (i:=a0) (a:=(.func (.func 155) #[] #[.pointer (some ⟨j,0,none⟩)])) Qx 0 Z Z Z Zq Z Z Z Z QF trivial (by rw [eq_of_beq a8]; rfl) (u:=fun _=>.func (.func 155) #[] #[.pointer (some ⟨j,0,none⟩)]) (fun _=>Z) (v:=fun _=>.func (.func 155) #[] #[.pointer (some ⟨j,0,none⟩)]) (fun _=>Z) (fun _ _=>(wP Z (Q3 (Q4 (Q2 [2] (S':=[_]) Z (Qb ?_))))))
  have hE:=(Zi hm).symm
  cases hE
 rcases QG hm with ⟨a9,hm⟩ | ⟨a9,hm⟩
 ·
  refine QC (i:=a0) (a:=(.func (.func 156) #[] #[.pointer (some ⟨j,0,none⟩)])) Qx 0 Z Z Z Zq Z Z Z Z QF trivial (by rw [eq_of_beq a9]; rfl) (u:=fun _=>.func (.func 156) #[] #[.pointer (some ⟨j,0,none⟩)]) (fun _=>Z) (v:=fun _=>.func (.func 156) #[] #[.pointer (some ⟨j,0,none⟩)]) (fun _=>Z) (fun _ _=>(wP Z (Q3 (Q4 (Q2 [2] (S':=[_]) Z (Qb ?_))))))
  have hE:=(Zi hm).symm
  cases hE
 ·
  refine Q58 (i:=a0) 0 Z Z Z Zq Z Z Z Z QaR QF trivial (by simp [Q70,(ne_of_beq_false q).symm,(ne_of_beq_false s).symm,(ne_of_beq_false z).symm,(ne_of_beq_false a1).symm,(ne_of_beq_false a5).symm,(ne_of_beq_false a6).symm,(ne_of_beq_false a7).symm,(ne_of_beq_false a8).symm,(ne_of_beq_false a9).symm]) (v:=.nilFunc) Z (wP Z (Q3 (Q4 (Q2 [2] (S':=[_]) Z (Qb ?_)))))
  have hE:=(Zi hm).symm
  cases hE
theorem w_value_does_s6 (N:Nat) (a0:Int)  (hm:Q2a N a0 = some (.inr (.inr (.inr (.inr (.inr (.inr (.inl ())))))))):Q1o Tryz.prog 118 [.int .u8 a0] [] [] (fun v Φr Hr=>∃ (o0:Nat),v = .func (.func 154) #[] #[.pointer (some ⟨o0,0,none⟩)] ∧ Φr = [] ∧ Hr = [.blk o0 [.func (.func 147) #[] #[]] 220]):=by
 unfold Q2a at hm
 refine QD Tryz.func118 Z Tryz.ntmps118 Z (S:=[_]) Z (fun C=>(Q5 (Q1 (wP Z (Q3 (Q4 (Q2 [0] (S':=[_]) Z (Q5 (Q1 (QE Z Z Z Zq Z QaS Z (fun j=>(wS 0 0 Z Q7M (all':=[_]) Z (H':=[_]) Z (Q3 (Q4 (Q5 ?_)))))))))))))))
 refine Q1 (Q4b (Q1q (QT Q1O)) false Q1p Z Z Z Zq Z (fun g4=>(QK (i:=1) (u:=.func (.func 148) #[] #[]) (cs:=[.func (.func 148) #[] #[]]) 0 Z Z (.inr Z) Z Z Z Z QF trivial Z (fun F w hφ=>⟨Z,Z⟩) (H':=[Q2h (Q1q (QT Q1O)) false Q1p g4 ([(1,.func (.func 148) #[] #[])]),.blk j [.func (.func 147) #[] #[]] 220]) Z (QK (i:=2) (u:=.func (.func 149) #[] #[]) (cs:=[.func (.func 149) #[] #[]]) 0 Z Z (.inr Z) Z Z Z Z QF trivial Z (fun F w hφ=>⟨Z,Z⟩) (H':=[Q2h (Q1q (QT Q1O)) false Q1p g4 ([(1,.func (.func 148) #[] #[]),(2,.func (.func 149) #[] #[])]),.blk j [.func (.func 147) #[] #[]] 220]) Z (QK (i:=3) (u:=.func (.func 150) #[] #[]) (cs:=[.func (.func 150) #[] #[]]) 0 Z Z (.inr Z) Z Z Z Z QF trivial Z (fun F w hφ=>⟨Z,Z⟩) (H':=[Q2h (Q1q (QT Q1O)) false Q1p g4 ([(1,.func (.func 148) #[] #[]),(2,.func (.func 149) #[] #[]),(3,.func (.func 150) #[] #[])]),.blk j [.func (.func 147) #[] #[]] 220]) Z (QK (i:=4) (u:=.func (.func 151) #[] #[]) (cs:=[.func (.func 151) #[] #[]]) 0 Z Z (.inr Z) Z Z Z Z QF trivial Z (fun F w hφ=>⟨Z,Z⟩) (H':=[Q2h (Q1q (QT Q1O)) false Q1p g4 ([(1,.func (.func 148) #[] #[]),(2,.func (.func 149) #[] #[]),(3,.func (.func 150) #[] #[]),(4,.func (.func 151) #[] #[])]),.blk j [.func (.func 147) #[] #[]] 220]) Z (QY Z Z Z Zq Z Z (QK (i:=7) (u:=.func (.func 152) #[] #[.pointer (some ⟨j,0,none⟩)]) (cs:=[.func (.func 152) #[] #[.pointer (some ⟨j,0,none⟩)]]) 0 Z Z (.inr Z) Z Z Z Z QF trivial Z (fun F w hφ=>⟨Z,Z⟩) (H':=[Q2h (Q1q (QT Q1O)) false Q1p g4 ([(1,.func (.func 148) #[] #[]),(2,.func (.func 149) #[] #[]),(3,.func (.func 150) #[] #[]),(4,.func (.func 151) #[] #[]),(7,.func (.func 152) #[] #[.pointer (some ⟨j,0,none⟩)])]),.blk j [.func (.func 147) #[] #[]] 220]) Z (QY Z Z Z Zq Z Z (QK (i:=8) (u:=.func (.func 153) #[] #[.pointer (some ⟨j,0,none⟩)]) (cs:=[.func (.func 153) #[] #[.pointer (some ⟨j,0,none⟩)]]) 0 Z Z (.inr Z) Z Z Z Z QF trivial Z (fun F w hφ=>⟨Z,Z⟩) (H':=[Q2h (Q1q (QT Q1O)) false Q1p g4 ([(1,.func (.func 148) #[] #[]),(2,.func (.func 149) #[] #[]),(3,.func (.func 150) #[] #[]),(4,.func (.func 151) #[] #[]),(7,.func (.func 152) #[] #[.pointer (some ⟨j,0,none⟩)]),(8,.func (.func 153) #[] #[.pointer (some ⟨j,0,none⟩)])]),.blk j [.func (.func 147) #[] #[]] 220]) Z (QY Z Z Z Zq Z Z (QK (i:=9) (u:=.func (.func 154) #[] #[.pointer (some ⟨j,0,none⟩)]) (cs:=[.func (.func 154) #[] #[.pointer (some ⟨j,0,none⟩)]]) 0 Z Z (.inr Z) Z Z Z Z QF trivial Z (fun F w hφ=>⟨Z,Z⟩) (H':=[Q2h (Q1q (QT Q1O)) false Q1p g4 ([(1,.func (.func 148) #[] #[]),(2,.func (.func 149) #[] #[]),(3,.func (.func 150) #[] #[]),(4,.func (.func 151) #[] #[]),(7,.func (.func 152) #[] #[.pointer (some ⟨j,0,none⟩)]),(8,.func (.func 153) #[] #[.pointer (some ⟨j,0,none⟩)]),(9,.func (.func 154) #[] #[.pointer (some ⟨j,0,none⟩)])]),.blk j [.func (.func 147) #[] #[]] 220]) Z (QY Z Z Z Zq Z Z (QK (i:=10) (u:=.func (.func 155) #[] #[.pointer (some ⟨j,0,none⟩)]) (cs:=[.func (.func 155) #[] #[.pointer (some ⟨j,0,none⟩)]]) 0 Z Z (.inr Z) Z Z Z Z QF trivial Z (fun F w hφ=>⟨Z,Z⟩) (H':=[Q2h (Q1q (QT Q1O)) false Q1p g4 ([(1,.func (.func 148) #[] #[]),(2,.func (.func 149) #[] #[]),(3,.func (.func 150) #[] #[]),(4,.func (.func 151) #[] #[]),(7,.func (.func 152) #[] #[.pointer (some ⟨j,0,none⟩)]),(8,.func (.func 153) #[] #[.pointer (some ⟨j,0,none⟩)]),(9,.func (.func 154) #[] #[.pointer (some ⟨j,0,none⟩)]),(10,.func (.func 155) #[] #[.pointer (some ⟨j,0,none⟩)])]),.blk j [.func (.func 147) #[] #[]] 220]) Z ?_))))))))))))))
 refine QY Z Z Z Zq Z Z (QK (i:=11) (u:=.func (.func 156) #[] #[.pointer (some ⟨j,0,none⟩)]) (cs:=[.func (.func 156) #[] #[.pointer (some ⟨j,0,none⟩)]]) 0 Z Z (.inr Z) Z Z Z Z QF trivial Z (fun F w hφ=>⟨Z,Z⟩) (H':=[Q2h (Q1q (QT Q1O)) false Q1p g4 ([(1,.func (.func 148) #[] #[]),(2,.func (.func 149) #[] #[]),(3,.func (.func 150) #[] #[]),(4,.func (.func 151) #[] #[]),(7,.func (.func 152) #[] #[.pointer (some ⟨j,0,none⟩)]),(8,.func (.func 153) #[] #[.pointer (some ⟨j,0,none⟩)]),(9,.func (.func 154) #[] #[.pointer (some ⟨j,0,none⟩)]),(10,.func (.func 155) #[] #[.pointer (some ⟨j,0,none⟩)]),(11,.func (.func 156) #[] #[.pointer (some ⟨j,0,none⟩)])]),.blk j [.func (.func 147) #[] #[]] 220]) Z (wP Z (wP Z ?_)))
 rcases QG hm with ⟨q,hm⟩ | ⟨q,hm⟩
 ·
  refine QC (i:=a0) (a:=(.func (.func 148) #[] #[])) Qx 0 Z Z Z Zq Z Z Z Z QF trivial (by rw [eq_of_beq q]; rfl) (u:=fun _=>.func (.func 148) #[] #[]) (fun _=>Z) (v:=fun _=>.func (.func 148) #[] #[]) (fun _=>Z) (fun _ _=>(wP Z (Q3 (Q4 (Q2 [2] (S':=[_]) Z (Qb ?_))))))
  have hE:=(Zi hm).symm
  cases hE
 rcases QG hm with ⟨s,hm⟩ | ⟨s,hm⟩
 ·
  refine QC (i:=a0) (a:=(.func (.func 149) #[] #[])) Qx 0 Z Z Z Zq Z Z Z Z QF trivial (by rw [eq_of_beq s]; rfl) (u:=fun _=>.func (.func 149) #[] #[]) (fun _=>Z) (v:=fun _=>.func (.func 149) #[] #[]) (fun _=>Z) (fun _ _=>(wP Z (Q3 (Q4 (Q2 [2] (S':=[_]) Z (Qb ?_))))))
  have hE:=(Zi hm).symm
  cases hE
 rcases QG hm with ⟨z,hm⟩ | ⟨z,hm⟩
 ·
  refine QC (i:=a0) (a:=(.func (.func 150) #[] #[])) Qx 0 Z Z Z Zq Z Z Z Z QF trivial (by rw [eq_of_beq z]; rfl) (u:=fun _=>.func (.func 150) #[] #[]) (fun _=>Z) (v:=fun _=>.func (.func 150) #[] #[]) (fun _=>Z) (fun _ _=>(wP Z (Q3 (Q4 (Q2 [2] (S':=[_]) Z (Qb ?_))))))
  have hE:=(Zi hm).symm
  cases hE
 rcases QG hm with ⟨a1,hm⟩ | ⟨a1,hm⟩
 ·
  refine QC (i:=a0) (a:=(.func (.func 151) #[] #[])) Qx 0 Z Z Z Zq Z Z Z Z QF trivial (by rw [eq_of_beq a1]; rfl) (u:=fun _=>.func (.func 151) #[] #[]) (fun _=>Z) (v:=fun _=>.func (.func 151) #[] #[]) (fun _=>Z) (fun _ _=>(wP Z (Q3 (Q4 (Q2 [2] (S':=[_]) Z (Qb ?_))))))
  have hE:=(Zi hm).symm
  cases hE
 rcases QG hm with ⟨a5,hm⟩ | ⟨a5,hm⟩
 ·
  refine QC (i:=a0) (a:=(.func (.func 152) #[] #[.pointer (some ⟨j,0,none⟩)])) Qx 0 Z Z Z Zq Z Z Z Z QF trivial (by rw [eq_of_beq a5]; rfl) (u:=fun _=>.func (.func 152) #[] #[.pointer (some ⟨j,0,none⟩)]) (fun _=>Z) (v:=fun _=>.func (.func 152) #[] #[.pointer (some ⟨j,0,none⟩)]) (fun _=>Z) (fun _ _=>(wP Z (Q3 (Q4 (Q2 [2] (S':=[_]) Z (Qb ?_))))))
  have hE:=(Zi hm).symm
  cases hE
 rcases QG hm with ⟨a6,hm⟩ | ⟨a6,hm⟩
 ·
  refine QC (i:=a0) (a:=(.func (.func 153) #[] #[.pointer (some ⟨j,0,none⟩)])) Qx 0 Z Z Z Zq Z Z Z Z QF trivial (by rw [eq_of_beq a6]; rfl) (u:=fun _=>.func (.func 153) #[] #[.pointer (some ⟨j,0,none⟩)]) (fun _=>Z) (v:=fun _=>.func (.func 153) #[] #[.pointer (some ⟨j,0,none⟩)]) (fun _=>Z) (fun _ _=>(wP Z (Q3 (Q4 (Q2 [2] (S':=[_]) Z (Qb ?_))))))
  have hE:=(Zi hm).symm
  cases hE
 rcases QG hm with ⟨a7,hm⟩ | ⟨a7,hm⟩
 refine QC (i:=a0) (a:=(.func (.func 154) #[] #[.pointer (some ⟨j,0,none⟩)])) Qx 0 Z Z Z Zq Z Z Z Z QF trivial (by rw [eq_of_beq a7]; rfl) (u:=fun _=>.func (.func 154) #[] #[.pointer (some ⟨j,0,none⟩)]) (fun _=>Z) (v:=fun _=>.func (.func 154) #[] #[.pointer (some ⟨j,0,none⟩)]) (fun _=>Z) (fun _ _=>(wP Z (Q3 (Q4 (Q2 [2] (S':=[_]) Z (Qb ?_))))))
 have hE:=(Zi hm).symm
 replace hE:=Sum.inr.inj hE
 replace hE:=Sum.inr.inj hE
 replace hE:=Sum.inr.inj hE
 replace hE:=Sum.inr.inj hE
 replace hE:=Sum.inr.inj hE
 replace hE:=Sum.inr.inj hE
 replace hE:=Sum.inl.inj hE
 refine Ql (Hr:=[_]) [1] Tryz.results118 (Qc Z) ⟨j,Z,Z,Z⟩ (asK [] Z) Z Z (.inl Z)
 rcases QG hm with ⟨a8,hm⟩ | ⟨a8,hm⟩
 ·
  refine QC (i:=a0) (a:=(.func (.func 155) #[] #[.pointer (some ⟨j,0,none⟩)])) Qx 0 Z Z Z Zq Z Z Z Z QF trivial (by rw [eq_of_beq a8]; rfl) (u:=fun _=>.func (.func 155) #[] #[.pointer (some ⟨j,0,none⟩)]) (fun _=>Z) (v:=fun _=>.func (.func 155) #[] #[.pointer (some ⟨j,0,none⟩)]) (fun _=>Z) (fun _ _=>(wP Z (Q3 (Q4 (Q2 [2] (S':=[_]) Z (Qb ?_))))))
  have hE:=(Zi hm).symm
  cases hE
 rcases QG hm with ⟨a9,hm⟩ | ⟨a9,hm⟩
 ·
  refine QC (i:=a0) (a:=(.func (.func 156) #[] #[.pointer (some ⟨j,0,none⟩)])) Qx 0 Z Z Z Zq Z Z Z Z QF trivial (by rw [eq_of_beq a9]; rfl) (u:=fun _=>.func (.func 156) #[] #[.pointer (some ⟨j,0,none⟩)]) (fun _=>Z) (v:=fun _=>.func (.func 156) #[] #[.pointer (some ⟨j,0,none⟩)]) (fun _=>Z) (fun _ _=>(wP Z (Q3 (Q4 (Q2 [2] (S':=[_]) Z (Qb ?_))))))
  have hE:=(Zi hm).symm
  cases hE
 ·
  refine Q58 (i:=a0) 0 Z Z Z Zq Z Z Z Z QaR QF trivial (by simp [Q70,(ne_of_beq_false q).symm,(ne_of_beq_false s).symm,(ne_of_beq_false z).symm,(ne_of_beq_false a1).symm,(ne_of_beq_false a5).symm,(ne_of_beq_false a6).symm,(ne_of_beq_false a7).symm,(ne_of_beq_false a8).symm,(ne_of_beq_false a9).symm]) (v:=.nilFunc) Z (wP Z (Q3 (Q4 (Q2 [2] (S':=[_]) Z (Qb ?_)))))
  have hE:=(Zi hm).symm
  cases hE
theorem w_value_does_s7 (N:Nat) (a0:Int)  (hm:Q2a N a0 = some (.inr (.inr (.inr (.inr (.inr (.inr (.inr (.inl ()))))))))):Q1o Tryz.prog 118 [.int .u8 a0] [] [] (fun v Φr Hr=>∃ (o0:Nat),v = .func (.func 155) #[] #[.pointer (some ⟨o0,0,none⟩)] ∧ Φr = [] ∧ Hr = [.blk o0 [.func (.func 147) #[] #[]] 220]):=by
 unfold Q2a at hm
 refine QD Tryz.func118 Z Tryz.ntmps118 Z (S:=[_]) Z (fun C=>(Q5 (Q1 (wP Z (Q3 (Q4 (Q2 [0] (S':=[_]) Z (Q5 (Q1 (QE Z Z Z Zq Z QaS Z (fun j=>(wS 0 0 Z Q7M (all':=[_]) Z (H':=[_]) Z (Q3 (Q4 (Q5 ?_)))))))))))))))
 refine Q1 (Q4b (Q1q (QT Q1O)) false Q1p Z Z Z Zq Z (fun g4=>(QK (i:=1) (u:=.func (.func 148) #[] #[]) (cs:=[.func (.func 148) #[] #[]]) 0 Z Z (.inr Z) Z Z Z Z QF trivial Z (fun F w hφ=>⟨Z,Z⟩) (H':=[Q2h (Q1q (QT Q1O)) false Q1p g4 ([(1,.func (.func 148) #[] #[])]),.blk j [.func (.func 147) #[] #[]] 220]) Z (QK (i:=2) (u:=.func (.func 149) #[] #[]) (cs:=[.func (.func 149) #[] #[]]) 0 Z Z (.inr Z) Z Z Z Z QF trivial Z (fun F w hφ=>⟨Z,Z⟩) (H':=[Q2h (Q1q (QT Q1O)) false Q1p g4 ([(1,.func (.func 148) #[] #[]),(2,.func (.func 149) #[] #[])]),.blk j [.func (.func 147) #[] #[]] 220]) Z (QK (i:=3) (u:=.func (.func 150) #[] #[]) (cs:=[.func (.func 150) #[] #[]]) 0 Z Z (.inr Z) Z Z Z Z QF trivial Z (fun F w hφ=>⟨Z,Z⟩) (H':=[Q2h (Q1q (QT Q1O)) false Q1p g4 ([(1,.func (.func 148) #[] #[]),(2,.func (.func 149) #[] #[]),(3,.func (.func 150) #[] #[])]),.blk j [.func (.func 147) #[] #[]] 220]) Z (QK (i:=4) (u:=.func (.func 151) #[] #[]) (cs:=[.func (.func 151) #[] #[]]) 0 Z Z (.inr Z) Z Z Z Z QF trivial Z (fun F w hφ=>⟨Z,Z⟩) (H':=[Q2h (Q1q (QT Q1O)) false Q1p g4 ([(1,.func (.func 148) #[] #[]),(2,.func (.func 149) #[] #[]),(3,.func (.func 150) #[] #[]),(4,.func (.func 151) #[] #[])]),.blk j [.func (.func 147) #[] #[]] 220]) Z (QY Z Z Z Zq Z Z (QK (i:=7) (u:=.func (.func 152) #[] #[.pointer (some ⟨j,0,none⟩)]) (cs:=[.func (.func 152) #[] #[.pointer (some ⟨j,0,none⟩)]]) 0 Z Z (.inr Z) Z Z Z Z QF trivial Z (fun F w hφ=>⟨Z,Z⟩) (H':=[Q2h (Q1q (QT Q1O)) false Q1p g4 ([(1,.func (.func 148) #[] #[]),(2,.func (.func 149) #[] #[]),(3,.func (.func 150) #[] #[]),(4,.func (.func 151) #[] #[]),(7,.func (.func 152) #[] #[.pointer (some ⟨j,0,none⟩)])]),.blk j [.func (.func 147) #[] #[]] 220]) Z (QY Z Z Z Zq Z Z (QK (i:=8) (u:=.func (.func 153) #[] #[.pointer (some ⟨j,0,none⟩)]) (cs:=[.func (.func 153) #[] #[.pointer (some ⟨j,0,none⟩)]]) 0 Z Z (.inr Z) Z Z Z Z QF trivial Z (fun F w hφ=>⟨Z,Z⟩) (H':=[Q2h (Q1q (QT Q1O)) false Q1p g4 ([(1,.func (.func 148) #[] #[]),(2,.func (.func 149) #[] #[]),(3,.func (.func 150) #[] #[]),(4,.func (.func 151) #[] #[]),(7,.func (.func 152) #[] #[.pointer (some ⟨j,0,none⟩)]),(8,.func (.func 153) #[] #[.pointer (some ⟨j,0,none⟩)])]),.blk j [.func (.func 147) #[] #[]] 220]) Z (QY Z Z Z Zq Z Z (QK (i:=9) (u:=.func (.func 154) #[] #[.pointer (some ⟨j,0,none⟩)]) (cs:=[.func (.func 154) #[] #[.pointer (some ⟨j,0,none⟩)]]) 0 Z Z (.inr Z) Z Z Z Z QF trivial Z (fun F w hφ=>⟨Z,Z⟩) (H':=[Q2h (Q1q (QT Q1O)) false Q1p g4 ([(1,.func (.func 148) #[] #[]),(2,.func (.func 149) #[] #[]),(3,.func (.func 150) #[] #[]),(4,.func (.func 151) #[] #[]),(7,.func (.func 152) #[] #[.pointer (some ⟨j,0,none⟩)]),(8,.func (.func 153) #[] #[.pointer (some ⟨j,0,none⟩)]),(9,.func (.func 154) #[] #[.pointer (some ⟨j,0,none⟩)])]),.blk j [.func (.func 147) #[] #[]] 220]) Z (QY Z Z Z Zq Z Z (QK (i:=10) (u:=.func (.func 155) #[] #[.pointer (some ⟨j,0,none⟩)]) (cs:=[.func (.func 155) #[] #[.pointer (some ⟨j,0,none⟩)]]) 0 Z Z (.inr Z) Z Z Z Z QF trivial Z (fun F w hφ=>⟨Z,Z⟩) (H':=[Q2h (Q1q (QT Q1O)) false Q1p g4 ([(1,.func (.func 148) #[] #[]),(2,.func (.func 149) #[] #[]),(3,.func (.func 150) #[] #[]),(4,.func (.func 151) #[] #[]),(7,.func (.func 152) #[] #[.pointer (some ⟨j,0,none⟩)]),(8,.func (.func 153) #[] #[.pointer (some ⟨j,0,none⟩)]),(9,.func (.func 154) #[] #[.pointer (some ⟨j,0,none⟩)]),(10,.func (.func 155) #[] #[.pointer (some ⟨j,0,none⟩)])]),.blk j [.func (.func 147) #[] #[]] 220]) Z ?_))))))))))))))
 refine QY Z Z Z Zq Z Z (QK (i:=11) (u:=.func (.func 156) #[] #[.pointer (some ⟨j,0,none⟩)]) (cs:=[.func (.func 156) #[] #[.pointer (some ⟨j,0,none⟩)]]) 0 Z Z (.inr Z) Z Z Z Z QF trivial Z (fun F w hφ=>⟨Z,Z⟩) (H':=[Q2h (Q1q (QT Q1O)) false Q1p g4 ([(1,.func (.func 148) #[] #[]),(2,.func (.func 149) #[] #[]),(3,.func (.func 150) #[] #[]),(4,.func (.func 151) #[] #[]),(7,.func (.func 152) #[] #[.pointer (some ⟨j,0,none⟩)]),(8,.func (.func 153) #[] #[.pointer (some ⟨j,0,none⟩)]),(9,.func (.func 154) #[] #[.pointer (some ⟨j,0,none⟩)]),(10,.func (.func 155) #[] #[.pointer (some ⟨j,0,none⟩)]),(11,.func (.func 156) #[] #[.pointer (some ⟨j,0,none⟩)])]),.blk j [.func (.func 147) #[] #[]] 220]) Z (wP Z (wP Z ?_)))
 rcases QG hm with ⟨q,hm⟩ | ⟨q,hm⟩
 ·
  refine QC (i:=a0) (a:=(.func (.func 148) #[] #[])) Qx 0 Z Z Z Zq Z Z Z Z QF trivial (by rw [eq_of_beq q]; rfl) (u:=fun _=>.func (.func 148) #[] #[]) (fun _=>Z) (v:=fun _=>.func (.func 148) #[] #[]) (fun _=>Z) (fun _ _=>(wP Z (Q3 (Q4 (Q2 [2] (S':=[_]) Z (Qb ?_))))))
  have hE:=(Zi hm).symm
  cases hE
 rcases QG hm with ⟨s,hm⟩ | ⟨s,hm⟩
 ·
  refine QC (i:=a0) (a:=(.func (.func 149) #[] #[])) Qx 0 Z Z Z Zq Z Z Z Z QF trivial (by rw [eq_of_beq s]; rfl) (u:=fun _=>.func (.func 149) #[] #[]) (fun _=>Z) (v:=fun _=>.func (.func 149) #[] #[]) (fun _=>Z) (fun _ _=>(wP Z (Q3 (Q4 (Q2 [2] (S':=[_]) Z (Qb ?_))))))
  have hE:=(Zi hm).symm
  cases hE
 rcases QG hm with ⟨z,hm⟩ | ⟨z,hm⟩
 ·
  refine QC (i:=a0) (a:=(.func (.func 150) #[] #[])) Qx 0 Z Z Z Zq Z Z Z Z QF trivial (by rw [eq_of_beq z]; rfl) (u:=fun _=>.func (.func 150) #[] #[]) (fun _=>Z) (v:=fun _=>.func (.func 150) #[] #[]) (fun _=>Z) (fun _ _=>(wP Z (Q3 (Q4 (Q2 [2] (S':=[_]) Z (Qb ?_))))))
  have hE:=(Zi hm).symm
  cases hE
 rcases QG hm with ⟨a1,hm⟩ | ⟨a1,hm⟩
 ·
  refine QC (i:=a0) (a:=(.func (.func 151) #[] #[])) Qx 0 Z Z Z Zq Z Z Z Z QF trivial (by rw [eq_of_beq a1]; rfl) (u:=fun _=>.func (.func 151) #[] #[]) (fun _=>Z) (v:=fun _=>.func (.func 151) #[] #[]) (fun _=>Z) (fun _ _=>(wP Z (Q3 (Q4 (Q2 [2] (S':=[_]) Z (Qb ?_))))))
  have hE:=(Zi hm).symm
  cases hE
 rcases QG hm with ⟨a5,hm⟩ | ⟨a5,hm⟩
 ·
  refine QC (i:=a0) (a:=(.func (.func 152) #[] #[.pointer (some ⟨j,0,none⟩)])) Qx 0 Z Z Z Zq Z Z Z Z QF trivial (by rw [eq_of_beq a5]; rfl) (u:=fun _=>.func (.func 152) #[] #[.pointer (some ⟨j,0,none⟩)]) (fun _=>Z) (v:=fun _=>.func (.func 152) #[] #[.pointer (some ⟨j,0,none⟩)]) (fun _=>Z) (fun _ _=>(wP Z (Q3 (Q4 (Q2 [2] (S':=[_]) Z (Qb ?_))))))
  have hE:=(Zi hm).symm
  cases hE
 rcases QG hm with ⟨a6,hm⟩ | ⟨a6,hm⟩
 ·
  refine QC (i:=a0) (a:=(.func (.func 153) #[] #[.pointer (some ⟨j,0,none⟩)])) Qx 0 Z Z Z Zq Z Z Z Z QF trivial (by rw [eq_of_beq a6]; rfl) (u:=fun _=>.func (.func 153) #[] #[.pointer (some ⟨j,0,none⟩)]) (fun _=>Z) (v:=fun _=>.func (.func 153) #[] #[.pointer (some ⟨j,0,none⟩)]) (fun _=>Z) (fun _ _=>(wP Z (Q3 (Q4 (Q2 [2] (S':=[_]) Z (Qb ?_))))))
  have hE:=(Zi hm).symm
  cases hE
 rcases QG hm with ⟨a7,hm⟩ | ⟨a7,hm⟩
 ·
  refine QC (i:=a0) (a:=(.func (.func 154) #[] #[.pointer (some ⟨j,0,none⟩)])) Qx 0 Z Z Z Zq Z Z Z Z QF trivial (by rw [eq_of_beq a7]; rfl) (u:=fun _=>.func (.func 154) #[] #[.pointer (some ⟨j,0,none⟩)]) (fun _=>Z) (v:=fun _=>.func (.func 154) #[] #[.pointer (some ⟨j,0,none⟩)]) (fun _=>Z) (fun _ _=>(wP Z (Q3 (Q4 (Q2 [2] (S':=[_]) Z (Qb ?_))))))
  have hE:=(Zi hm).symm
  cases hE
 rcases QG hm with ⟨a8,hm⟩ | ⟨a8,hm⟩
 refine QC (i:=a0) (a:=(.func (.func 155) #[] #[.pointer (some ⟨j,0,none⟩)])) Qx 0 Z Z Z Zq Z Z Z Z QF trivial (by rw [eq_of_beq a8]; rfl) (u:=fun _=>.func (.func 155) #[] #[.pointer (some ⟨j,0,none⟩)]) (fun _=>Z) (v:=fun _=>.func (.func 155) #[] #[.pointer (some ⟨j,0,none⟩)]) (fun _=>Z) (fun _ _=>(wP Z (Q3 (Q4 (Q2 [2] (S':=[_]) Z (Qb ?_))))))
 have hE:=(Zi hm).symm
 replace hE:=Sum.inr.inj hE
 replace hE:=Sum.inr.inj hE
 replace hE:=Sum.inr.inj hE
 replace hE:=Sum.inr.inj hE
 replace hE:=Sum.inr.inj hE
 replace hE:=Sum.inr.inj hE
 replace hE:=Sum.inr.inj hE
 replace hE:=Sum.inl.inj hE
 refine Ql (Hr:=[_]) [1] Tryz.results118 (Qc Z) ⟨j,Z,Z,Z⟩ (asK [] Z) Z Z (.inl Z)
 rcases QG hm with ⟨a9,hm⟩ | ⟨a9,hm⟩
 ·
  refine QC (i:=a0) (a:=(.func (.func 156) #[] #[.pointer (some ⟨j,0,none⟩)])) Qx 0 Z Z Z Zq Z Z Z Z QF trivial (by rw [eq_of_beq a9]; rfl) (u:=fun _=>.func (.func 156) #[] #[.pointer (some ⟨j,0,none⟩)]) (fun _=>Z) (v:=fun _=>.func (.func 156) #[] #[.pointer (some ⟨j,0,none⟩)]) (fun _=>Z) (fun _ _=>(wP Z (Q3 (Q4 (Q2 [2] (S':=[_]) Z (Qb ?_))))))
  have hE:=(Zi hm).symm
  cases hE
 ·
  refine Q58 (i:=a0) 0 Z Z Z Zq Z Z Z Z QaR QF trivial (by simp [Q70,(ne_of_beq_false q).symm,(ne_of_beq_false s).symm,(ne_of_beq_false z).symm,(ne_of_beq_false a1).symm,(ne_of_beq_false a5).symm,(ne_of_beq_false a6).symm,(ne_of_beq_false a7).symm,(ne_of_beq_false a8).symm,(ne_of_beq_false a9).symm]) (v:=.nilFunc) Z (wP Z (Q3 (Q4 (Q2 [2] (S':=[_]) Z (Qb ?_)))))
  have hE:=(Zi hm).symm
  cases hE
theorem w_value_does_s8 (N:Nat) (a0:Int)  (hm:Q2a N a0 = some (.inr (.inr (.inr (.inr (.inr (.inr (.inr (.inr (.inl ())))))))))):Q1o Tryz.prog 118 [.int .u8 a0] [] [] (fun v Φr Hr=>∃ (o0:Nat),v = .func (.func 156) #[] #[.pointer (some ⟨o0,0,none⟩)] ∧ Φr = [] ∧ Hr = [.blk o0 [.func (.func 147) #[] #[]] 220]):=by
 unfold Q2a at hm
 refine QD Tryz.func118 Z Tryz.ntmps118 Z (S:=[_]) Z (fun C=>(Q5 (Q1 (wP Z (Q3 (Q4 (Q2 [0] (S':=[_]) Z (Q5 (Q1 (QE Z Z Z Zq Z QaS Z (fun j=>(wS 0 0 Z Q7M (all':=[_]) Z (H':=[_]) Z (Q3 (Q4 (Q5 ?_)))))))))))))))
 refine Q1 (Q4b (Q1q (QT Q1O)) false Q1p Z Z Z Zq Z (fun g4=>(QK (i:=1) (u:=.func (.func 148) #[] #[]) (cs:=[.func (.func 148) #[] #[]]) 0 Z Z (.inr Z) Z Z Z Z QF trivial Z (fun F w hφ=>⟨Z,Z⟩) (H':=[Q2h (Q1q (QT Q1O)) false Q1p g4 ([(1,.func (.func 148) #[] #[])]),.blk j [.func (.func 147) #[] #[]] 220]) Z (QK (i:=2) (u:=.func (.func 149) #[] #[]) (cs:=[.func (.func 149) #[] #[]]) 0 Z Z (.inr Z) Z Z Z Z QF trivial Z (fun F w hφ=>⟨Z,Z⟩) (H':=[Q2h (Q1q (QT Q1O)) false Q1p g4 ([(1,.func (.func 148) #[] #[]),(2,.func (.func 149) #[] #[])]),.blk j [.func (.func 147) #[] #[]] 220]) Z (QK (i:=3) (u:=.func (.func 150) #[] #[]) (cs:=[.func (.func 150) #[] #[]]) 0 Z Z (.inr Z) Z Z Z Z QF trivial Z (fun F w hφ=>⟨Z,Z⟩) (H':=[Q2h (Q1q (QT Q1O)) false Q1p g4 ([(1,.func (.func 148) #[] #[]),(2,.func (.func 149) #[] #[]),(3,.func (.func 150) #[] #[])]),.blk j [.func (.func 147) #[] #[]] 220]) Z (QK (i:=4) (u:=.func (.func 151) #[] #[]) (cs:=[.func (.func 151) #[] #[]]) 0 Z Z (.inr Z) Z Z Z Z QF trivial Z (fun F w hφ=>⟨Z,Z⟩) (H':=[Q2h (Q1q (QT Q1O)) false Q1p g4 ([(1,.func (.func 148) #[] #[]),(2,.func (.func 149) #[] #[]),(3,.func (.func 150) #[] #[]),(4,.func (.func 151) #[] #[])]),.blk j [.func (.func 147) #[] #[]] 220]) Z (QY Z Z Z Zq Z Z (QK (i:=7) (u:=.func (.func 152) #[] #[.pointer (some ⟨j,0,none⟩)]) (cs:=[.func (.func 152) #[] #[.pointer (some ⟨j,0,none⟩)]]) 0 Z Z (.inr Z) Z Z Z Z QF trivial Z (fun F w hφ=>⟨Z,Z⟩) (H':=[Q2h (Q1q (QT Q1O)) false Q1p g4 ([(1,.func (.func 148) #[] #[]),(2,.func (.func 149) #[] #[]),(3,.func (.func 150) #[] #[]),(4,.func (.func 151) #[] #[]),(7,.func (.func 152) #[] #[.pointer (some ⟨j,0,none⟩)])]),.blk j [.func (.func 147) #[] #[]] 220]) Z (QY Z Z Z Zq Z Z (QK (i:=8) (u:=.func (.func 153) #[] #[.pointer (some ⟨j,0,none⟩)]) (cs:=[.func (.func 153) #[] #[.pointer (some ⟨j,0,none⟩)]]) 0 Z Z (.inr Z) Z Z Z Z QF trivial Z (fun F w hφ=>⟨Z,Z⟩) (H':=[Q2h (Q1q (QT Q1O)) false Q1p g4 ([(1,.func (.func 148) #[] #[]),(2,.func (.func 149) #[] #[]),(3,.func (.func 150) #[] #[]),(4,.func (.func 151) #[] #[]),(7,.func (.func 152) #[] #[.pointer (some ⟨j,0,none⟩)]),(8,.func (.func 153) #[] #[.pointer (some ⟨j,0,none⟩)])]),.blk j [.func (.func 147) #[] #[]] 220]) Z (QY Z Z Z Zq Z Z (QK (i:=9) (u:=.func (.func 154) #[] #[.pointer (some ⟨j,0,none⟩)]) (cs:=[.func (.func 154) #[] #[.pointer (some ⟨j,0,none⟩)]]) 0 Z Z (.inr Z) Z Z Z Z QF trivial Z (fun F w hφ=>⟨Z,Z⟩) (H':=[Q2h (Q1q (QT Q1O)) false Q1p g4 ([(1,.func (.func 148) #[] #[]),(2,.func (.func 149) #[] #[]),(3,.func (.func 150) #[] #[]),(4,.func (.func 151) #[] #[]),(7,.func (.func 152) #[] #[.pointer (some ⟨j,0,none⟩)]),(8,.func (.func 153) #[] #[.pointer (some ⟨j,0,none⟩)]),(9,.func (.func 154) #[] #[.pointer (some ⟨j,0,none⟩)])]),.blk j [.func (.func 147) #[] #[]] 220]) Z (QY Z Z Z Zq Z Z (QK (i:=10) (u:=.func (.func 155) #[] #[.pointer (some ⟨j,0,none⟩)]) (cs:=[.func (.func 155) #[] #[.pointer (some ⟨j,0,none⟩)]]) 0 Z Z (.inr Z) Z Z Z Z QF trivial Z (fun F w hφ=>⟨Z,Z⟩) (H':=[Q2h (Q1q (QT Q1O)) false Q1p g4 ([(1,.func (.func 148) #[] #[]),(2,.func (.func 149) #[] #[]),(3,.func (.func 150) #[] #[]),(4,.func (.func 151) #[] #[]),(7,.func (.func 152) #[] #[.pointer (some ⟨j,0,none⟩)]),(8,.func (.func 153) #[] #[.pointer (some ⟨j,0,none⟩)]),(9,.func (.func 154) #[] #[.pointer (some ⟨j,0,none⟩)]),(10,.func (.func 155) #[] #[.pointer (some ⟨j,0,none⟩)])]),.blk j [.func (.func 147) #[] #[]] 220]) Z ?_))))))))))))))
 refine QY Z Z Z Zq Z Z (QK (i:=11) (u:=.func (.func 156) #[] #[.pointer (some ⟨j,0,none⟩)]) (cs:=[.func (.func 156) #[] #[.pointer (some ⟨j,0,none⟩)]]) 0 Z Z (.inr Z) Z Z Z Z QF trivial Z (fun F w hφ=>⟨Z,Z⟩) (H':=[Q2h (Q1q (QT Q1O)) false Q1p g4 ([(1,.func (.func 148) #[] #[]),(2,.func (.func 149) #[] #[]),(3,.func (.func 150) #[] #[]),(4,.func (.func 151) #[] #[]),(7,.func (.func 152) #[] #[.pointer (some ⟨j,0,none⟩)]),(8,.func (.func 153) #[] #[.pointer (some ⟨j,0,none⟩)]),(9,.func (.func 154) #[] #[.pointer (some ⟨j,0,none⟩)]),(10,.func (.func 155) #[] #[.pointer (some ⟨j,0,none⟩)]),(11,.func (.func 156) #[] #[.pointer (some ⟨j,0,none⟩)])]),.blk j [.func (.func 147) #[] #[]] 220]) Z (wP Z (wP Z ?_)))
 rcases QG hm with ⟨q,hm⟩ | ⟨q,hm⟩
 ·
  refine QC (i:=a0) (a:=(.func (.func 148) #[] #[])) Qx 0 Z Z Z Zq Z Z Z Z QF trivial (by rw [eq_of_beq q]; rfl) (u:=fun _=>.func (.func 148) #[] #[]) (fun _=>Z) (v:=fun _=>.func (.func 148) #[] #[]) (fun _=>Z) (fun _ _=>(wP Z (Q3 (Q4 (Q2 [2] (S':=[_]) Z (Qb ?_))))))
  have hE:=(Zi hm).symm
  cases hE
 rcases QG hm with ⟨s,hm⟩ | ⟨s,hm⟩
 ·
  refine QC (i:=a0) (a:=(.func (.func 149) #[] #[])) Qx 0 Z Z Z Zq Z Z Z Z QF trivial (by rw [eq_of_beq s]; rfl) (u:=fun _=>.func (.func 149) #[] #[]) (fun _=>Z) (v:=fun _=>.func (.func 149) #[] #[]) (fun _=>Z) (fun _ _=>(wP Z (Q3 (Q4 (Q2 [2] (S':=[_]) Z (Qb ?_))))))
  have hE:=(Zi hm).symm
  cases hE
 rcases QG hm with ⟨z,hm⟩ | ⟨z,hm⟩
 ·
  refine QC (i:=a0) (a:=(.func (.func 150) #[] #[])) Qx 0 Z Z Z Zq Z Z Z Z QF trivial (by rw [eq_of_beq z]; rfl) (u:=fun _=>.func (.func 150) #[] #[]) (fun _=>Z) (v:=fun _=>.func (.func 150) #[] #[]) (fun _=>Z) (fun _ _=>(wP Z (Q3 (Q4 (Q2 [2] (S':=[_]) Z (Qb ?_))))))
  have hE:=(Zi hm).symm
  cases hE
 rcases QG hm with ⟨a1,hm⟩ | ⟨a1,hm⟩
 ·
  refine QC (i:=a0) (a:=(.func (.func 151) #[] #[])) Qx 0 Z Z Z Zq Z Z Z Z QF trivial (by rw [eq_of_beq a1]; rfl) (u:=fun _=>.func (.func 151) #[] #[]) (fun _=>Z) (v:=fun _=>.func (.func 151) #[] #[]) (fun _=>Z) (fun _ _=>(wP Z (Q3 (Q4 (Q2 [2] (S':=[_]) Z (Qb ?_))))))
  have hE:=(Zi hm).symm
  cases hE
 rcases QG hm with ⟨a5,hm⟩ | ⟨a5,hm⟩
 ·
  refine QC (i:=a0) (a:=(.func (.func 152) #[] #[.pointer (some ⟨j,0,none⟩)])) Qx 0 Z Z Z Zq Z Z Z Z QF trivial (by rw [eq_of_beq a5]; rfl) (u:=fun _=>.func (.func 152) #[] #[.pointer (some ⟨j,0,none⟩)]) (fun _=>Z) (v:=fun _=>.func (.func 152) #[] #[.pointer (some ⟨j,0,none⟩)]) (fun _=>Z) (fun _ _=>(wP Z (Q3 (Q4 (Q2 [2] (S':=[_]) Z (Qb ?_))))))
  have hE:=(Zi hm).symm
  cases hE
 rcases QG hm with ⟨a6,hm⟩ | ⟨a6,hm⟩
 ·
  refine QC (i:=a0) (a:=(.func (.func 153) #[] #[.pointer (some ⟨j,0,none⟩)])) Qx 0 Z Z Z Zq Z Z Z Z QF trivial (by rw [eq_of_beq a6]; rfl) (u:=fun _=>.func (.func 153) #[] #[.pointer (some ⟨j,0,none⟩)]) (fun _=>Z) (v:=fun _=>.func (.func 153) #[] #[.pointer (some ⟨j,0,none⟩)]) (fun _=>Z) (fun _ _=>(wP Z (Q3 (Q4 (Q2 [2] (S':=[_]) Z (Qb ?_))))))
  have hE:=(Zi hm).symm
  cases hE
 rcases QG hm with ⟨a7,hm⟩ | ⟨a7,hm⟩
 ·
  refine QC (i:=a0) (a:=(.func (.func 154) #[] #[.pointer (some ⟨j,0,none⟩)])) Qx 0 Z Z Z Zq Z Z Z Z QF trivial (by rw [eq_of_beq a7]; rfl) (u:=fun _=>.func (.func 154) #[] #[.pointer (some ⟨j,0,none⟩)]) (fun _=>Z) (v:=fun _=>.func (.func 154) #[] #[.pointer (some ⟨j,0,none⟩)]) (fun _=>Z) (fun _ _=>(wP Z (Q3 (Q4 (Q2 [2] (S':=[_]) Z (Qb ?_))))))
  have hE:=(Zi hm).symm
  cases hE
 rcases QG hm with ⟨a8,hm⟩ | ⟨a8,hm⟩
 ·
  refine QC (i:=a0) (a:=(.func (.func 155) #[] #[.pointer (some ⟨j,0,none⟩)])) Qx 0 Z Z Z Zq Z Z Z Z QF trivial (by rw [eq_of_beq a8]; rfl) (u:=fun _=>.func (.func 155) #[] #[.pointer (some ⟨j,0,none⟩)]) (fun _=>Z) (v:=fun _=>.func (.func 155) #[] #[.pointer (some ⟨j,0,none⟩)]) (fun _=>Z) (fun _ _=>(wP Z (Q3 (Q4 (Q2 [2] (S':=[_]) Z (Qb ?_))))))
  have hE:=(Zi hm).symm
  cases hE
 rcases QG hm with ⟨a9,hm⟩ | ⟨a9,hm⟩
 refine QC (i:=a0) (a:=(.func (.func 156) #[] #[.pointer (some ⟨j,0,none⟩)])) Qx 0 Z Z Z Zq Z Z Z Z QF trivial (by rw [eq_of_beq a9]; rfl) (u:=fun _=>.func (.func 156) #[] #[.pointer (some ⟨j,0,none⟩)]) (fun _=>Z) (v:=fun _=>.func (.func 156) #[] #[.pointer (some ⟨j,0,none⟩)]) (fun _=>Z) (fun _ _=>(wP Z (Q3 (Q4 (Q2 [2] (S':=[_]) Z (Qb ?_))))))
 have hE:=(Zi hm).symm
 replace hE:=Sum.inr.inj hE
 replace hE:=Sum.inr.inj hE
 replace hE:=Sum.inr.inj hE
 replace hE:=Sum.inr.inj hE
 replace hE:=Sum.inr.inj hE
 replace hE:=Sum.inr.inj hE
 replace hE:=Sum.inr.inj hE
 replace hE:=Sum.inr.inj hE
 replace hE:=Sum.inl.inj hE
 refine Ql (Hr:=[_]) [1] Tryz.results118 (Qc Z) ⟨j,Z,Z,Z⟩ (asK [] Z) Z Z (.inl Z)
 ·
  refine Q58 (i:=a0) 0 Z Z Z Zq Z Z Z Z QaR QF trivial (by simp [Q70,(ne_of_beq_false q).symm,(ne_of_beq_false s).symm,(ne_of_beq_false z).symm,(ne_of_beq_false a1).symm,(ne_of_beq_false a5).symm,(ne_of_beq_false a6).symm,(ne_of_beq_false a7).symm,(ne_of_beq_false a8).symm,(ne_of_beq_false a9).symm]) (v:=.nilFunc) Z (wP Z (Q3 (Q4 (Q2 [2] (S':=[_]) Z (Qb ?_)))))
  have hE:=(Zi hm).symm
  cases hE
end Go.Proofs.YtbgodclhmgmcgaaGreatDoor
