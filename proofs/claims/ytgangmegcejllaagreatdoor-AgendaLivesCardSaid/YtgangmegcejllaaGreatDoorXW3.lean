import Derived.Test.YtgangmegcejllaaGreatDoorXW2
namespace Go.Proofs.YtgangmegcejllaaGreatDoor
open Go.RowKit
set_option maxRecDepth 100000
set_option maxHeartbeats 4000000
theorem Q9j (N:Nat) (a2:Nat) (a0:Int)  (hm:Q5V N a0 = some ()):Q1R Tryz.prog 175 [.pointer (some ⟨a2,0,none⟩)] [tF] [.blk a2 [.int .u64 a0] 305] (fun v Φr Hr=>v = .int .u64 (Q1t .xor .u64 (Q1t .xor .u64 (Q1t .xor .u64 a0 (IntKind.wrap .u64 (a0 * 2 ^ (13)))) (Int.fdiv (Q1t .xor .u64 a0 (IntKind.wrap .u64 (a0 * 2 ^ (13)))) (2 ^ (7)))) (IntKind.wrap .u64 ((Q1t .xor .u64 (Q1t .xor .u64 a0 (IntKind.wrap .u64 (a0 * 2 ^ (13)))) (Int.fdiv (Q1t .xor .u64 a0 (IntKind.wrap .u64 (a0 * 2 ^ (13)))) (2 ^ (7)))) * 2 ^ (17)))) ∧ Φr = [] ∧ Hr = [.blk a2 [.int .u64 (Q1t .xor .u64 (Q1t .xor .u64 (Q1t .xor .u64 a0 (IntKind.wrap .u64 (a0 * 2 ^ (13)))) (Int.fdiv (Q1t .xor .u64 a0 (IntKind.wrap .u64 (a0 * 2 ^ (13)))) (2 ^ (7)))) (IntKind.wrap .u64 ((Q1t .xor .u64 (Q1t .xor .u64 a0 (IntKind.wrap .u64 (a0 * 2 ^ (13)))) (Int.fdiv (Q1t .xor .u64 a0 (IntKind.wrap .u64 (a0 * 2 ^ (13)))) (2 ^ (7)))) * 2 ^ (17))))] 305]):=by
 unfold Q5V at hm
 refine QZ Tryz.func175 Z Tryz.ntmps175 Z (S:=[_]) Z (fun C=>(Q6 (Q2 (wP Z (Q3 (Q4 (Q5 [0] (S':=[_]) Z (Q6 (QV [0,1,2,3,4,5,6,7,8] Z Z (fun hok=>(xP hok 0 Z (xP hok 1 Z (Qq hok 2 0 0 Z Z Z Zq Z Z Z Z (cs:=[_]) Z Q8J tA_305 Z Z (xP hok 3 Z (xP hok 4 Z ?_)))))))))))))))
 refine Qq hok 5 0 0 Z Z Z Zq Z Z Z Z (cs:=[_]) Z Q8J tA_305 Z Z (wx_bin hok 6 Z Z Z Zq Z Z Z Z (run_shl (by decide)) (wx_bin hok 7 Z Z Z Zq Z Z Z Z run_xor (xP hok 8 Z (xS hok 9 Z (wS 0 0 Z Q8J (all':=[_]) Z (H':=[_]) Z (Q3 (Qy [0] [] Z Z (QL hok Z (Q4 (Q5 [0] (S':=[_]) Z (Q6 (QV [0,1,2,3,4,5,6,7,8] Z Z (fun hok=>(xP hok 0 Z ?_))))))))))))))
 refine xP hok 1 Z (Qq hok 2 0 0 Z Z Z Zq Z Z Z Z (cs:=[_]) Z Q8J tA_305 Z Z (xP hok 3 Z (xP hok 4 Z (Qq hok 5 0 0 Z Z Z Zq Z Z Z Z (cs:=[_]) Z Q8J tA_305 Z Z (wx_bin hok 6 Z Z Z Zq Z Z Z Z (run_shr (by decide)) (wx_bin hok 7 Z Z Z Zq Z Z Z Z run_xor (xP hok 8 Z (xS hok 9 Z (wS 0 0 Z Q8J (all':=[_]) Z (H':=[_]) Z (Q3 (Qy [0] [] Z Z (QL hok Z (Q4 ?_)))))))))))))
 refine Q5 [0] (S':=[_]) Z (Q6 (QV [0,1,2,3,4,5,6,7,8] Z Z (fun hok=>(xP hok 0 Z (xP hok 1 Z (Qq hok 2 0 0 Z Z Z Zq Z Z Z Z (cs:=[_]) Z Q8J tA_305 Z Z (xP hok 3 Z (xP hok 4 Z (Qq hok 5 0 0 Z Z Z Zq Z Z Z Z (cs:=[_]) Z Q8J tA_305 Z Z (wx_bin hok 6 Z Z Z Zq Z Z Z Z (run_shl (by decide)) (wx_bin hok 7 Z Z Z Zq Z Z Z Z run_xor (xP hok 8 Z (xS hok 9 Z (wS 0 0 Z Q8J (all':=[_]) Z (H':=[_]) Z ?_))))))))))))))
 refine Q3 (Qy [0] [] Z Z (QL hok Z (Q4 (Q5 [0] (S':=[_]) Z (Q6 (Q2 (wP Z (wP Z (wD 0 0 Z Q8J tA_305 Z (wP Z (Q3 (Q4 (Q5 [2] (S':=[_]) Z ?_)))))))))))))
 refine QP ?_
 have hE:=(Zi hm).symm
 refine QH (Hr:=[_]) [0] Tryz.results175 (QD Z) ⟨Z,Z,Z⟩ (asK [] Z) Z Z (.inl Z)
theorem Q6Y (N:Nat) (aA:OA) (aB:Nat) (aC:Nat) (l0:List Q1) (a1:Int) (a2:Int) (aJ:Addr) (aK:Nat) (aL:Nat) (l3:List Int) (o0:List Q1) (hm:Q24 N l0 a1 a2 l3 = some o0):Q1R Tryz.prog 150 [.slice aA aB aC,.int .i64 a1,.int .i64 a2,.func (.func 41) #[.slice (some aJ) aK aL] #[]] [tF] [.own 45 2 Q9 (.slice aA aB aC) l0,.own 3 1 Qi (.slice (some aJ) aK aL) l3] (fun v Φr Hr=>v = .tuple #[] ∧ Φr = [] ∧ Hr = [.own 45 2 Q9 (.slice aA aB aC) o0,.own 3 1 Qi (.slice (some aJ) aK aL) l3]):=by
 unfold Q24 at hm
 refine QZ Tryz.func150 Z Tryz.ntmps150 Z (S:=V4 ..) Z (fun C=>(Q6 (Q2 (wP Z (wP Z (wP Z ?_))))))
 obtain ⟨aU,hm⟩:=Qd hm
 refine Qz (d:=15) (v':=.int .i64 (a2 - a1)) (S':=V6 ..) Z Z (i64_in aU) (wP Z (Q3 (Q4 (Q5 [8,0,1] (S':=V3 ..) Z (Q6 (Q2 (wP Z (wP Z (Q3 (Q4 (Q5 [17,8,0,1] (S':=V4 ..) Z ?_)))))))))))
 refine QA Z (fun aM=>?_) (fun aM=>?_)
 replace hm:=Q1z hm aM
 refine Q5 [8,0,1] (S':=V3 ..) Z (Q6 (Q2 (wP Z (Q9M Z Z Z Zq (rk_conv Z Z tI_3 tI_305) (Q25 Z Z Z Zq Z tZ_305 Z (fun g9=>(wS 0 0 Z Q8J (all':=[_]) Z (H':=V3 ..) Z (Q3 (Q4 (Q5 [9,8,0,1] (S':=V4 ..) Z (Q6 (Q2 (wP Z ?_)))))))))))))
 obtain ⟨aI,aW,hm⟩:=Q7 hm
 refine wC [] [0,1,2] Z fn_174 Z (Q90 N (a2 - a1) _ aW) (asK [0] Z) Z (H':=V3 ..) Z ?_
 rintro _ _ _ ⟨rfl,rfl,rfl⟩
 refine wP Z (Q3 (Q4 (Q5 [10,9,8,0,1] (S':=V5 ..) Z (Q6 (Q2 (wP Z (wP Z (Q5q Z Z Z Zq Z Z Z (Q9C (by decide)) (wP Z ?_)))))))))
 obtain ⟨aX,hm⟩:=Qd hm
 refine Qz (d:=25) (v':=.int .i64 ((IntKind.wrap .i64 (Int.tdiv (a2 - a1) 4)) * 2)) (S':=V8 ..) Z Z (i64_in aX) (wP Z ?_)
 obtain ⟨aY,hm⟩:=Qd hm
 refine Qz (d:=26) (v':=.int .i64 (a1 + ((IntKind.wrap .i64 (Int.tdiv (a2 - a1) 4)) * 2))) (S':=V9 ..) Z Z (i64_in aY) (wP Z ?_)
 obtain ⟨aZ,hm⟩:=Qd hm
 refine Qz (d:=27) (v':=.int .i64 ((a1 + ((IntKind.wrap .i64 (Int.tdiv (a2 - a1) 4)) * 2)) - 1)) (S':=V10 ..) Z Z (i64_in aZ) (wP Z (Q3 (Q4 (Q5 [11,10,9,8,0,1] (S':=V6 ..) Z (Qm (Q1f (σ:=Nat × Int × Int × (List Q1)) (fun (aD,a4,a0,a5)=>Q1o (Q1r N a2 a1 aI) aD (a4,a0,a5) = some o0) (fun (aD,a4,a0,a5)=>aD) (fun (aD,a4,a0,a5)=>[(11,.int .i64 a4),(10,.int .u64 aI),(9,.pointer (some ⟨g9,0,none⟩)),(8,.int .i64 (a2 - a1)),(0,.slice aA aB aC),(1,.int .i64 a1)]) (fun (aD,a4,a0,a5)=>[tF]) (fun (aD,a4,a0,a5)=>[.blk g9 [.int .u64 a0] 305,.own 45 2 Q9 (.slice aA aB aC) a5,.own 3 1 Qi (.slice (some aJ) aK aL) l3]) (N,(a1 + ((IntKind.wrap .i64 (Int.tdiv (a2 - a1) 4)) * 2)) - 1,IntKind.wrap .u64 (a2 - a1),l0) hm [11,10,9,8,0,1] Z (asK [0] Z) Z (fun s_ hm=>?_)))))))
 obtain ⟨aD,a4,a0,a5⟩:=s_
 try dsimp only at hm ⊢
 obtain ⟨bF,bG,b0,hq,hLu1⟩:=Q1d hm
 clear hm
 subst b0
 replace hm:=hq
 clear hq
 unfold Q1r at hm
 try dsimp only at hm
 refine Q6 (Q6 (Q2 (wP Z (wP Z (wP Z (Q5q Z Z Z Zq Z Z Z (Q9C (by decide)) (wP Z ?_)))))))
 obtain ⟨b1,hm⟩:=Qd hm
 refine Qz (d:=32) (v':=.int .i64 ((IntKind.wrap .i64 (Int.tdiv (a2 - a1) 4)) * 2)) (S':=V10 ..) Z Z (i64_in b1) (wP Z ?_)
 obtain ⟨b2,hm⟩:=Qd hm
 refine Qz (d:=33) (v':=.int .i64 (a1 + ((IntKind.wrap .i64 (Int.tdiv (a2 - a1) 4)) * 2))) (S':=V11 ..) Z Z (i64_in b2) (wP Z ?_)
 obtain ⟨b3,hm⟩:=Qd hm
 refine Qz (d:=34) (v':=.int .i64 ((a1 + ((IntKind.wrap .i64 (Int.tdiv (a2 - a1) 4)) * 2)) + 1)) (S':=V12 ..) Z Z (i64_in b3) (wP Z (Q3 (Q4 (Q5 [35,11,10,9,8,0,1] (S':=V7 ..) Z ?_))))
 refine QA Z (fun aN=>?_) (fun aN=>?_)
 replace hm:=Q1z hm aN
 refine Q5 [11,10,9,8,0,1] (S':=V6 ..) Z (Qs (Q4 (Q6 (Qm (Q6 (Q2 ?_))))))
 obtain ⟨_,b4,hm⟩:=Q7 hm
 try dsimp only at hm
 refine wC [0] [1,2] Z fn_175 Z (Q9j N g9 a0 b4) (asK [0] Z) Z (H':=[_,_]) Z ?_
 rintro _ _ _ ⟨rfl,rfl,rfl⟩
 refine wP Z (wP Z (Q5q Z Z Z Zq Z Z Z run_and (Q9M Z Z Z Zq (rk_conv Z Z tI_157 tI_3) (wP Z (Q3 (Q4 (Q5 [12,11,10,9,8,0,1] (S':=V7 ..) Z (Q6 ?_))))))))
 obtain ⟨b5,hm,hLj_1⟩:=Q7 hm
 refine Q18 (σ:=Int) (fun a3=>b5 = a3) (fun a3=>[(12,.int .i64 a3),(11,.int .i64 a4),(10,.int .u64 aI),(9,.pointer (some ⟨g9,0,none⟩)),(8,.int .i64 (a2 - a1)),(0,.slice aA aB aC),(1,.int .i64 a1)]) (fun a3=>[tF]) (fun a3=>[.blk g9 [.int .u64 (Q1t .xor .u64 (Q1t .xor .u64 (Q1t .xor .u64 a0 (IntKind.wrap .u64 (a0 * 2 ^ (13)))) (Int.fdiv (Q1t .xor .u64 a0 (IntKind.wrap .u64 (a0 * 2 ^ (13)))) (2 ^ (7)))) (IntKind.wrap .u64 ((Q1t .xor .u64 (Q1t .xor .u64 a0 (IntKind.wrap .u64 (a0 * 2 ^ (13)))) (Int.fdiv (Q1t .xor .u64 a0 (IntKind.wrap .u64 (a0 * 2 ^ (13)))) (2 ^ (7)))) * 2 ^ (17))))] 305,.own 45 2 Q9 (.slice aA aB aC) a5,.own 3 1 Qi (.slice (some aJ) aK aL) l3]) ?_ ?_
 refine Q6 (Q2 (wP Z (wP Z (wP Z (Q3 (Q4 (Q5 [45,12,11,10,9,8,0,1] (S':=V8 ..) Z ?_)))))))
 refine QA Z (fun aO=>?_) (fun aO=>?_)
 replace hm:=Q1z hm aO
 refine Q5 [12,11,10,9,8,0,1] (S':=V7 ..) Z (Q2 (wP Z (wP Z (wP Z ?_))))
 obtain ⟨b6,hm⟩:=Qd hm
 refine Qz (d:=48) (v':=.int .i64 ((IntKind.wrap .i64 (Q1t .and .u64 (Q1t .xor .u64 (Q1t .xor .u64 (Q1t .xor .u64 a0 (IntKind.wrap .u64 (a0 * 2 ^ (13)))) (Int.fdiv (Q1t .xor .u64 a0 (IntKind.wrap .u64 (a0 * 2 ^ (13)))) (2 ^ (7)))) (IntKind.wrap .u64 ((Q1t .xor .u64 (Q1t .xor .u64 a0 (IntKind.wrap .u64 (a0 * 2 ^ (13)))) (Int.fdiv (Q1t .xor .u64 a0 (IntKind.wrap .u64 (a0 * 2 ^ (13)))) (2 ^ (7)))) * 2 ^ (17)))) (IntKind.wrap .u64 (aI - 1)))) - (a2 - a1))) (S':=V9 ..) Z Z (i64_in b6) (QI (S':=V9 ..) Z Z Z Z Z (Q3 ?_))
 have hE:=(Zi hm).symm
 refine Qp ((IntKind.wrap .i64 (Q1t .and .u64 (Q1t .xor .u64 (Q1t .xor .u64 (Q1t .xor .u64 a0 (IntKind.wrap .u64 (a0 * 2 ^ (13)))) (Int.fdiv (Q1t .xor .u64 a0 (IntKind.wrap .u64 (a0 * 2 ^ (13)))) (2 ^ (7)))) (IntKind.wrap .u64 ((Q1t .xor .u64 (Q1t .xor .u64 a0 (IntKind.wrap .u64 (a0 * 2 ^ (13)))) (Int.fdiv (Q1t .xor .u64 a0 (IntKind.wrap .u64 (a0 * 2 ^ (13)))) (2 ^ (7)))) * 2 ^ (17)))) (IntKind.wrap .u64 (aI - 1)))) - (a2 - a1)) hE [12,11,10,9,8,0,1] Z (asK [0] Z) Z
 replace hm:=Q1y hm aO
 refine Q5 [12,11,10,9,8,0,1] (S':=V7 ..) Z (Qs ?_)
 have hE:=(Zi hm).symm
 refine Qp (IntKind.wrap .i64 (Q1t .and .u64 (Q1t .xor .u64 (Q1t .xor .u64 (Q1t .xor .u64 a0 (IntKind.wrap .u64 (a0 * 2 ^ (13)))) (Int.fdiv (Q1t .xor .u64 a0 (IntKind.wrap .u64 (a0 * 2 ^ (13)))) (2 ^ (7)))) (IntKind.wrap .u64 ((Q1t .xor .u64 (Q1t .xor .u64 a0 (IntKind.wrap .u64 (a0 * 2 ^ (13)))) (Int.fdiv (Q1t .xor .u64 a0 (IntKind.wrap .u64 (a0 * 2 ^ (13)))) (2 ^ (7)))) * 2 ^ (17)))) (IntKind.wrap .u64 (aI - 1)))) hE [12,11,10,9,8,0,1] Z (asK [0] Z) Z
 ·
  rintro a3 hE
  try dsimp only
  have hm:=hLj_1
  try rw [hE] at hm
  obtain ⟨b7,hm⟩:=Qd hm
  obtain ⟨b8,hm⟩:=Qd hm
  obtain ⟨b9,hm⟩:=Qd hm
  obtain ⟨aE,aP,hm⟩:=Q7 hm
  obtain ⟨bA,hm⟩:=Qd hm
  obtain ⟨aF,aQ,hm⟩:=Q7 hm
  obtain ⟨aR,hm⟩:=Qd hm
  obtain ⟨bH,aG,hm⟩:=Q7 hm
  obtain ⟨aS,hm⟩:=Qd hm
  obtain ⟨bI,aH,hm⟩:=Q7 hm
  refine QV [0,1,2,3,4,5,6,7,8,9,10,12,13,14,16,18] Z Z (fun hok=>(xP hok 0 Z (xP hok 1 Z (xP hok 2 Z (xP hok 3 Z (xP hok 4 Z (xP hok 5 Z (Q1e (d:=54) (v':=.int .i64 (a1 + a3)) (S':=V12 ..) Z Z (i64_in b7) (xP hok 6 Z (xP hok 7 Z (xP hok 8 Z (xP hok 9 Z (Q1e (d:=58) (v':=.int .i64 (a1 + a3)) (S':=V16 ..) Z Z (i64_in b8) (Q1F hok 10 1 ((a1 + a3).toNat) Z Z Z Zq Z Z Z Z Z (QC b9) (Qw aP) QB Qe (fun bJ bB=>?_)))))))))))))))
  subst bB
  refine xP hok 12 Z (xP hok 13 Z (QJ hok 14 1 a4.toNat Z Z Z Zq Z Z Z Z Z (QC bA) (Qw aQ) QB Qe ?_))
  refine Q1W hok 11 15 Z Z Z Z Z Z ?_ ?_
  rotate_left
  focus
   refine Qk Qa 1 a4.toNat 0 Z Z Z Zq Z Z Z aQ Qe QS (v:=fun a7=>.agg #[.int .i64 (aF.rule),.slice a7.1 aF.ids.length a7.2]) (fun _=>Z) (fun _=>Z) (fun a7 _=>(Q3 (Qy [1] [] Z Z (xS hok 11 Z (Qk Qa 1 ((a1 + a3).toNat) 0 Z Z Z Zq Z Z Z aP Qe QS (v:=fun a8=>.agg #[.int .i64 (aE.rule),.slice a8.1 aE.ids.length a8.2]) (fun _=>Z) (fun _=>Z) (fun a8 _=>(Q3 (Qy [1,2] [] Z Z (QJ hok 16 1 a4.toNat Z Z Z Zq Z Z Z Z Z (QC aR) (Qw aG) QB Qe (xS hok 17 Z (QU (u:=aE) 1 a4.toNat Z Z Z Z Z (Qw aG) Z Z Qe Z (fun F w hφ=>⟨(a8.1,a8.2),Z,(Qh (hφ _ (Qu (k:=0) Z)) Qv)⟩) (H':=V3 ..) Z (Q3 (Qy [0,1,2] [] Z Z (QJ hok 18 1 ((a1 + a3).toNat) Z Z Z Zq Z Z Z Z Z (QC aS) (Qw aH) QB Qe (xS hok 19 Z ?_)))))))))))))))
   refine QU (u:=aF) 1 ((a1 + a3).toNat) Z Z Z Z Z (Qw aH) Z Z Qe Z (fun F w hφ=>⟨(a7.1,a7.2),Z,(Qh (hφ _ (Qu (k:=1) Z)) Qv)⟩) (H':=V3 ..) Z ?_
  rotate_right
  focus
   refine Qk Qa 1 ((a1 + a3).toNat) 0 Z Z Z Zq Z Z Z aP Qe QS (v:=fun a8=>.agg #[.int .i64 (aE.rule),.slice a8.1 aE.ids.length a8.2]) (fun _=>Z) (fun _=>Z) (fun a8 _=>(Q3 (Qy [1] [] Z Z (xS hok 15 Z (Qk Qa 1 a4.toNat 0 Z Z Z Zq Z Z Z aQ Qe QS (v:=fun a7=>.agg #[.int .i64 (aF.rule),.slice a7.1 aF.ids.length a7.2]) (fun _=>Z) (fun _=>Z) (fun a7 _=>(Q3 (Qy [1,2] [] Z Z (QJ hok 16 1 a4.toNat Z Z Z Zq Z Z Z Z Z (QC aR) (Qw aG) QB Qe (xS hok 17 Z (QU (u:=aE) 1 a4.toNat Z Z Z Z Z (Qw aG) Z Z Qe Z (fun F w hφ=>⟨(a8.1,a8.2),Z,(Qh (hφ _ (Qu (k:=1) Z)) Qv)⟩) (H':=V3 ..) Z (Q3 (Qy [0,1,2] [] Z Z (QJ hok 18 1 ((a1 + a3).toNat) Z Z Z Zq Z Z Z Z Z (QC aS) (Qw aH) QB Qe (xS hok 19 Z ?_)))))))))))))))
   refine QU (u:=aF) 1 ((a1 + a3).toNat) Z Z Z Z Z (Qw aH) Z Z Qe Z (fun F w hφ=>⟨(a7.1,a7.2),Z,(Qh (hφ _ (Qu (k:=0) Z)) Qv)⟩) (H':=V3 ..) Z ?_
  all_goals
   refine Q3 (Qy [0,1,2] [] Z Z (QL hok Z (Qj (Q4 (Q5 [11,10,9,8,0,1] (S':=V6 ..) Z (Q2 (wP Z (wP Z ?_))))))))
   obtain ⟨bC,hm⟩:=Qd hm
   refine Qz (d:=37) (v':=.int .i64 (a4 + 1)) (S':=V7 ..) Z Z (i64_in bC) (QI (S':=V7 ..) Z Z Z Z Z (Q3 ?_))
   have hE:=(Zi hm).symm
   replace hE:=Q14 hLu1 hE
   refine Q1a (_,a4 + 1,Q1t .xor .u64 (Q1t .xor .u64 (Q1t .xor .u64 a0 (IntKind.wrap .u64 (a0 * 2 ^ (13)))) (Int.fdiv (Q1t .xor .u64 a0 (IntKind.wrap .u64 (a0 * 2 ^ (13)))) (2 ^ (7)))) (IntKind.wrap .u64 ((Q1t .xor .u64 (Q1t .xor .u64 a0 (IntKind.wrap .u64 (a0 * 2 ^ (13)))) (Int.fdiv (Q1t .xor .u64 a0 (IntKind.wrap .u64 (a0 * 2 ^ (13)))) (2 ^ (7)))) * 2 ^ (17))),(a5.set a4.toNat aE).set ((a1 + a3).toNat) aF) (Nat.lt_succ_self _) hE [11,10,9,8,0,1] Z (asK [2] Z) Z
 replace hm:=Q1y hm aN
 refine Q5 [] (S':=[]) Z (Q19 (Qc (Qc (Qt ?_))))
 have hE:=(Zi hm).symm
 replace hE:=QO hLu1 hE
 replace hE:=hE.symm
 subst hE
 refine Q5E (Hr:=[_,_]) [1,2] Tryz.results150 ⟨Z,Z,Z⟩ (asK [] Z) Z Z (.inr Z)
 replace hm:=Q1y hm aM
 refine Q5 [] (S':=[]) Z (Qs ?_)
 have hE:=(Zi hm).symm
 replace hE:=hE.symm
 subst hE
 refine Q5E (Hr:=[_,_]) [0,1] Tryz.results150 ⟨Z,Z,Z⟩ (asK [] Z) Z Z (.inr Z)
theorem Q7o (N:Nat) (rc:(List Q1) → Int → Int → Int → (List Int) → Option ((List Q1) × (List Int))) (ih : ∀ (a8:OA) (b7:Nat) (a9:Nat) (l0:List Q1) (a1:Int) (a2:Int) (a3:Int) (aD:Addr) (aE:Nat) (aF:Nat) (l4:List Int) (o0:List Q1) (o2:List Int),rc l0 a1 a2 a3 l4 = some (o0,o2) → Q1R Tryz.prog 96 [.slice a8 b7 a9,.int .i64 a1,.int .i64 a2,.int .i64 a3,.func (.func 41) #[.slice (some aD) aE aF] #[]] [tF] [.own 45 2 Q9 (.slice a8 b7 a9) l0,.own 3 1 Qi (.slice (some aD) aE aF) l4] (fun v Φr Hr=>∃ (o1:Nat),v = .tuple #[] ∧ Φr = [] ∧ Hr = [.own 45 2 Q9 (.slice a8 o1 a9) o0,.own 3 1 Qi (.slice (some aD) aE aF) o2])) (a8:OA) (b7:Nat) (a9:Nat) (l0:List Q1) (a1:Int) (a2:Int) (a3:Int) (aD:Addr) (aE:Nat) (aF:Nat) (l4:List Int) (o0:List Q1) (o2:List Int) (hm:Q4U N rc l0 a1 a2 a3 l4 = some (o0,o2)):Q1R Tryz.prog 96 [.slice a8 b7 a9,.int .i64 a1,.int .i64 a2,.int .i64 a3,.func (.func 41) #[.slice (some aD) aE aF] #[]] [tF] [.own 45 2 Q9 (.slice a8 b7 a9) l0,.own 3 1 Qi (.slice (some aD) aE aF) l4] (fun v Φr Hr=>∃ (o1:Nat),v = .tuple #[] ∧ Φr = [] ∧ Hr = [.own 45 2 Q9 (.slice a8 o1 a9) o0,.own 3 1 Qi (.slice (some aD) aE aF) o2]):=by
 unfold Q4U at hm
 refine QZ Tryz.func96 Z Tryz.ntmps96 Z (S:=V5 ..) Z (fun C=>(Q6 (Q2 (wP Z (Q3 (Q4 (Q6 (Q2 (wP Z (Q3 (Q4 (Qm (Q1f (σ:=Nat × Bool × Bool × (List Q1) × Int × Int × Int × (List Int) × Nat) (fun (b3,aI,aJ,aA,a4,a5,aR,a0,aN)=>Q1o (Q1p N rc) b3 (aI,aJ,aA,a4,a5,aR,a0) = some (o0,o2)) (fun (b3,aI,aJ,aA,a4,a5,aR,a0,aN)=>b3) (fun (b3,aI,aJ,aA,a4,a5,aR,a0,aN)=>[(11,.bool aI),(10,.bool aJ),(0,.slice a8 aN a9),(1,.int .i64 a4),(2,.int .i64 a5),(3,.int .i64 aR),(4,.func (.func 41) #[.slice (some aD) aE aF] #[])]) (fun (b3,aI,aJ,aA,a4,a5,aR,a0,aN)=>[tF]) (fun (b3,aI,aJ,aA,a4,a5,aR,a0,aN)=>[.own 45 2 Q9 (.slice a8 aN a9) aA,.own 3 1 Qi (.slice (some aD) aE aF) a0]) (N,true,true,l0,a1,a2,a3,l4,b7) hm [11,10,0,1,2,3,4] Z (asK [0] Z) Z (fun s_ hm=>?_))))))))))))))
 obtain ⟨b3,aI,aJ,aA,a4,a5,aR,a0,aN⟩:=s_
 try dsimp only at hm ⊢
 obtain ⟨d0,d1,c8,hq,hLu1⟩:=Q1d hm
 clear hm
 subst c8
 replace hm:=hq
 clear hq
 unfold Q1p at hm
 try dsimp only at hm
 refine Qm (Q6 (Q2 (wP Z (wP Z (wP Z ?_)))))
 obtain ⟨c9,hm⟩:=Qd hm
 refine Qz (d:=23) (v':=.int .i64 (a5 - a4)) (S':=V9 ..) Z Z (i64_in c9) (wP Z (Q3 (Q4 (Q5 [12,11,10,0,1,2,3,4] (S':=V8 ..) Z (Q6 (Q6 (Q2 (wP Z (wP Z (Q3 (Q4 (Q5 [25,12,11,10,0,1,2,3,4] (S':=V9 ..) Z ?_))))))))))))
 refine QA Z (fun bA=>?_) (fun bA=>?_)
 replace hm:=Q1z hm bA
 refine Q5 [0,1,2,4] (S':=V4 ..) Z (Q6 (Q2 (wP Z (wP Z (wP Z (wP Z (QK 0 Z (fun aK _=>?_))))))))
 subst aK
 obtain ⟨d2,cA,hm⟩:=Q7 hm
 refine wC [0,1] [] Z fn_148 Z (Q6Z N a8 aA.length a9 aA a4 a5 aD aE aF a0 _ cA) (asK [0] Z) Z (H':=[]) Z ?_
 rintro _ _ _ ⟨rfl,rfl,rfl⟩
 refine Q3 (Q4 (Q5 [] (S':=[]) Z (QP (Qn (Q11 (Qn (Q11 ?_)))))))
 have hE:=(Zi hm).symm
 replace hE:=QO hLu1 hE
 obtain ⟨hE0,hE1⟩:=Prod.mk.inj hE
 clear hE
 replace hE0:=hE0.symm
 subst hE0
 replace hE1:=hE1.symm
 subst hE1
 refine Q5E (Hr:=[_,_]) [0,1] Tryz.results96 ⟨aA.length,Z,Z,Z⟩ (asK [] Z) Z Z (.inl Z)
 replace hm:=Q1y hm bA
 refine Q5 [12,11,10,0,1,2,3,4] (S':=V8 ..) Z (Qs (Q4 (Q6 (Q6 (Q2 (wP Z (wP Z (Q3 (Q4 (Q5 [32,12,11,10,0,1,2,3,4] (S':=V9 ..) Z ?_))))))))))
 refine QA Z (fun bB=>?_) (fun bB=>?_)
 replace hm:=Q1z hm bB
 refine Q5 [0,1,2,4] (S':=V4 ..) Z (Q6 (Q2 (wP Z (wP Z (wP Z (wP Z (QK 0 Z (fun aK _=>?_))))))))
 subst aK
 obtain ⟨d3,cB,hm⟩:=Q7 hm
 refine wC [0,1] [] Z fn_149 Z (Q7v N a8 aA.length a9 aA a4 a5 aD aE aF a0 _ cB) (asK [0] Z) Z (H':=[]) Z ?_
 rintro _ _ _ ⟨rfl,rfl,rfl⟩
 refine Q3 (Q4 (Q5 [] (S':=[]) Z (QP (Qn (Q11 (Qn (Q11 ?_)))))))
 have hE:=(Zi hm).symm
 replace hE:=QO hLu1 hE
 obtain ⟨hE0,hE1⟩:=Prod.mk.inj hE
 clear hE
 replace hE0:=hE0.symm
 subst hE0
 replace hE1:=hE1.symm
 subst hE1
 refine Q5E (Hr:=[_,_]) [0,1] Tryz.results96 ⟨aA.length,Z,Z,Z⟩ (asK [] Z) Z Z (.inl Z)
 replace hm:=Q1y hm bB
 refine Q5 [12,11,10,0,1,2,3,4] (S':=V8 ..) Z (Qs (Q4 (Q6 ?_)))
 obtain ⟨cC,hm,hLj_1⟩:=Q7 hm
 refine Q18 (σ:=(List Q1) × Int) (fun (a7,aH)=>cC = (a7,aH)) (fun (a7,aH)=>[(12,.int .i64 (a5 - a4)),(11,.bool aI),(10,.bool aJ),(0,.slice a8 aN a9),(1,.int .i64 a4),(2,.int .i64 a5),(3,.int .i64 aH),(4,.func (.func 41) #[.slice (some aD) aE aF] #[])]) (fun (a7,aH)=>[tF]) (fun (a7,aH)=>[.own 45 2 Q9 (.slice a8 aN a9) a7,.own 3 1 Qi (.slice (some aD) aE aF) a0]) ?_ ?_
 refine Q6 (Q2 (wP Z (wP Z (Q3 (Q4 (Q5 [39,12,11,10,0,1,2,3,4] (S':=V9 ..) Z ?_))))))
 refine QA Z (fun bC=>?_) (fun bC=>?_)
 replace hm:=Q1z hm bC
 refine Q5 [12,11,10,0,1,2,3,4] (S':=V8 ..) Z (Q6 (Q2 (wP Z (wP Z (wP Z (wP Z (QK 0 Z (fun aK _=>?_))))))))
 subst aK
 obtain ⟨cW,cD,hm⟩:=Q7 hm
 refine wC [0,1] [] Z fn_150 Z (Q6Y N a8 aA.length a9 aA a4 a5 aD aE aF a0 _ cD) (asK [0] Z) Z (H':=[]) Z ?_
 rintro _ _ _ ⟨rfl,rfl,rfl⟩
 refine Q3 (Q4 (Q5 [12,11,10,0,1,2,3,4] (S':=V8 ..) Z (Q2 (wP Z (wP Z ?_)))))
 obtain ⟨cE,hm⟩:=Qd hm
 refine Qz (d:=46) (v':=.int .i64 (aR - 1)) (S':=V9 ..) Z Z (i64_in cE) (QI (S':=V9 ..) Z Z Z Z Z (Q3 ?_))
 have hE:=(Zi hm).symm
 refine Qp (cW,aR - 1) hE [12,11,10,0,1,2,3,4] Z (asK [0] Z) Z
 replace hm:=Q1y hm bC
 refine Q5 [12,11,10,0,1,2,3,4] (S':=V8 ..) Z (Qs ?_)
 have hE:=(Zi hm).symm
 refine Qp (aA,aR) hE [12,11,10,0,1,2,3,4] Z (asK [0] Z) Z
 rintro ⟨a7,aH⟩ hE
 try dsimp only
 have hm:=hLj_1
 try rw [hE] at hm
 try dsimp only at hm
 refine Q6 (Q2 (wP Z (wP Z (wP Z (wP Z (QK 0 Z (fun aK _=>?_)))))))
 subst aK
 obtain ⟨⟨b2,b4⟩,cF,hm⟩:=Q7 hm
 try dsimp only at hm
 refine Q2k [1] [0] [0] Z Z Z Zq Z Z fn_151 Z (Q7u N a8 a9 a7 a4 a5 aD aE aF a0 _ _ cF) (fun F w hφ hh=>(Qh (Q1n (hh _ (Qu (k:=0) Z))) (Qh (hφ _ (Qu (k:=0) Z)) Qv))) (fun _ _ _ hR=>by obtain ⟨rfl,rfl,rfl⟩:=hR; exact ⟨Z,(Q7d (Q7N Q6I) (fun _ h=>Q1O h))⟩) Z Z (H':=[_]) Z ?_
 rintro _ _ _ ⟨rfl,rfl,rfl⟩
 refine wP Z (wP Z (wP Z (wP Z (wP Z (Q3 (Q4 (Q5 [14,13,12,11,10,0,1,2,3,4] (S':=V10 ..) Z (Q6 ?_))))))))
 obtain ⟨cG,hm,hLj_2⟩:=Q7 hm
 unfold Q3C at hm
 refine Q18 (σ:=Nat × Int × (List Q1)) (fun (aO,aC,a6)=>cG = (aO,aC,a6)) (fun (aO,aC,a6)=>[(14,.int .i64 ((aO:Nat):Int)),(13,.int .i64 aC),(12,.int .i64 (a5 - a4)),(11,.bool aI),(10,.bool aJ),(0,.slice a8 a7.length a9),(1,.int .i64 a4),(2,.int .i64 a5),(3,.int .i64 aH),(4,.func (.func 41) #[.slice (some aD) aE aF] #[])]) (fun (aO,aC,a6)=>[tF]) (fun (aO,aC,a6)=>[.own 45 2 Q9 (.slice a8 a7.length a9) a6,.own 3 1 Qi (.slice (some aD) aE aF) a0]) ?_ ?_
 refine Q6 (Q2 (wP Z (wP Z (Qz (d:=56) (v':=.bool (b4 == 2)) (S':=V11 ..) Z Z (nateq (a:=b4) (b:=2)) (Q3 (Q4 (Q5 [56,14,13,12,11,10,0,1,2,3,4] (S':=V11 ..) Z ?_)))))))
 refine QA Z (fun bD=>?_) (fun bD=>?_)
 replace hm:=Q1z hm bD
 refine Q5 [13,12,11,10,0,1,2,3,4] (S':=V9 ..) Z (Q6 (Q2 (wP Z (wP Z (wP Z (wP Z ?_))))))
 obtain ⟨cX,cH,hm⟩:=Q7 hm
 refine wC [1,0] [] Z fn_152 Z (Q76 N a8 a7.length a9 a7 a4 a5 aD aE aF a0 _ cH) (asK [0] Z) Z (H':=[]) Z ?_
 rintro _ _ _ ⟨rfl,rfl,rfl⟩
 refine Q3 (Q4 (Q5 [13,12,11,10,0,1,2,3,4] (S':=V9 ..) Z (Q6 (Q2 (wP Z (wP Z ?_))))))
 obtain ⟨cI,hm⟩:=Qd hm
 refine Qz (d:=63) (v':=.int .i64 (a5 - 1)) (S':=V10 ..) Z Z (i64_in cI) (wP Z (wP Z (wP Z ?_)))
 obtain ⟨cJ,hm⟩:=Qd hm
 refine Qz (d:=66) (v':=.int .i64 (b2 - a4)) (S':=V13 ..) Z Z (i64_in cJ) (wP Z ?_)
 obtain ⟨cK,hm⟩:=Qd hm
 refine Qz (d:=67) (v':=.int .i64 ((a5 - 1) - (b2 - a4))) (S':=V14 ..) Z Z (i64_in cK) (QI (S':=V14 ..) Z Z Z Z Z (Q3 (Q4 (Q5 [13,12,11,10,0,1,2,3,4] (S':=V9 ..) Z (Q2 (wP Z (Q3 ?_)))))))
 have hE:=(Zi hm).symm
 refine Qp (1,(a5 - 1) - (b2 - a4),cX) hE [14,13,12,11,10,0,1,2,3,4] Z (asK [0] Z) Z
 replace hm:=Q1y hm bD
 refine Q5 [14,13,12,11,10,0,1,2,3,4] (S':=V10 ..) Z (Qs ?_)
 have hE:=(Zi hm).symm
 refine Q1m [1,0] Z (H':=[_,_]) Z ?_
 refine Qp (b4,b2,a7) hE [14,13,12,11,10,0,1,2,3,4] Z (asK [0] Z) Z
 rintro ⟨aO,aC,a6⟩ hE
 try dsimp only
 have hm:=hLj_2
 try rw [hE] at hm
 try dsimp only at hm
 refine Q6 ?_
 obtain ⟨cL,hm,hLj_3⟩:=Q35 hm
 unfold Q2h at hm
 refine Q18 (σ:=(List Q1) × Nat) (fun (aB,aM)=>cL = .inl aB) (fun (aB,aM)=>[(13,.int .i64 aC),(12,.int .i64 (a5 - a4)),(11,.bool aI),(10,.bool aJ),(0,.slice a8 aM a9),(1,.int .i64 a4),(2,.int .i64 a5),(3,.int .i64 aH),(4,.func (.func 41) #[.slice (some aD) aE aF] #[])]) (fun (aB,aM)=>[tF]) (fun (aB,aM)=>[.own 45 2 Q9 (.slice a8 aM a9) aB,.own 3 1 Qi (.slice (some aD) aE aF) a0]) ?_ ?_
 refine Q6 ?_
 obtain ⟨cM,hm,hLj_4⟩:=Q7 hm
 refine Q18 (σ:=Bool) (fun aP=>cM = aP) (fun aP=>[(13,.int .i64 aC),(12,.int .i64 (a5 - a4)),(11,.bool aI),(10,.bool aJ),(0,.slice a8 a7.length a9),(1,.int .i64 a4),(2,.int .i64 a5),(3,.int .i64 aH),(4,.func (.func 41) #[.slice (some aD) aE aF] #[]),(75,.bool aP)]) (fun aP=>[tF]) (fun aP=>[.own 45 2 Q9 (.slice a8 a7.length a9) a6,.own 3 1 Qi (.slice (some aD) aE aF) a0]) ?_ ?_
 refine Q2 (wP Z (wP Z ?_))
 refine Q5F (d:=69) (S':=V11 ..) Z Z (fun bE=>?_) (fun bE=>?_)
 replace hm:=Q1z hm bE
 refine wP Z (wP Z (wP Z ?_))
 refine Q5F (d:=72) (S':=V14 ..) Z Z (fun bF=>?_) (fun bF=>?_)
 replace hm:=Q1z hm bF
 refine wP Z (wP Z (Qz (d:=74) (v':=.bool (aO == 1)) (S':=V16 ..) Z Z (nateq (a:=aO) (b:=1)) (wP Z (Q3 ?_))))
 have hE:=(Zi hm).symm
 refine Qp (aO == 1) hE [13,12,11,10,0,1,2,3,4,75] Z (asK [0] Z) Z
 replace hm:=Q1y hm bF
 refine wO Z (wO Z (wP Z (Q3 ?_)))
 have hE:=(Zi hm).symm
 refine Qp false hE [13,12,11,10,0,1,2,3,4,75] Z (asK [0] Z) Z
 replace hm:=Q1y hm bE
 refine wO Z (wP Z (wP Z (wO Z (wO Z (wP Z (Q3 ?_))))))
 have hE:=(Zi hm).symm
 refine Qp false hE [13,12,11,10,0,1,2,3,4,75] Z (asK [0] Z) Z
 rintro aP hE
 try dsimp only
 have hm:=hLj_4
 try rw [hE] at hm
 refine QA Z (fun bG=>?_) (fun bG=>?_)
 replace hm:=Q1z hm bG
 refine Q5 [13,12,11,10,0,1,2,3,4] (S':=V9 ..) Z (Q6 (Q2 (wP Z (wP Z (wP Z (wP Z (QK 0 Z (fun aZ _=>(Q4F 3 (v':=.slice a8 a6.length a9) Z (by first | rfl | rw [aZ]) (Q4F 8 (v':=.slice a8 a6.length a9) Z (by first | rfl | rw [aZ]) (Q28 0 (φ':=.own 45 2 Q9 (.slice a8 a6.length a9) a6) Z (by first | rfl | rw [aZ]) (H':=[_,_]) Z ?_)))))))))))
 obtain ⟨⟨cY,bS⟩,cN,hm⟩:=Q7 hm
 try dsimp only at hm
 refine wC [0,1] [] Z fn_153 Z (Q6k N a8 a6.length a9 a6 a4 a5 aD aE aF a0 _ _ cN) (asK [0] Z) Z (H':=[]) Z ?_
 rintro _ _ _ ⟨rfl,rfl,rfl⟩
 refine Q3 (Q4 (Q5 [80,13,12,11,10,0,1,2,3,4] (S':=V10 ..) Z ?_))
 refine QA Z (fun bH=>?_) (fun bH=>?_)
 replace hm:=Q1z hm bH
 refine Q5 [] (S':=[]) Z (QP (Qn (Q11 (Qn (Q11 ?_)))))
 have hE:=(Zi hm).symm
 replace hE:=QO hLj_3 hE
 replace hE:=QO hLu1 hE
 obtain ⟨hE0,hE1⟩:=Prod.mk.inj hE
 clear hE
 replace hE0:=hE0.symm
 subst hE0
 replace hE1:=hE1.symm
 subst hE1
 refine Q5E (Hr:=[_,_]) [0,1] Tryz.results96 ⟨a6.length,Z,Z,Z⟩ (asK [] Z) Z Z (.inl Z)
 replace hm:=Q1y hm bH
 refine Q5 [13,12,11,10,0,1,2,3,4] (S':=V9 ..) Z (Qs ?_)
 have hE:=(Zi hm).symm
 refine Qp (bS,a6.length) hE [13,12,11,10,0,1,2,3,4] Z (asK [0] Z) Z
 replace hm:=Q1y hm bG
 refine Q5 [13,12,11,10,0,1,2,3,4] (S':=V9 ..) Z (Qs ?_)
 have hE:=(Zi hm).symm
 refine Qp (a6,a7.length) hE [13,12,11,10,0,1,2,3,4] Z (asK [0] Z) Z
 rintro ⟨aB,aM⟩ hE
 try dsimp only
 have hm:=Q14 hLj_3 hE
 refine Q6 (Q6 ?_)
 obtain ⟨cO,hm,hLj_5⟩:=Q7 hm
 unfold Q2T at hm
 refine Q18 (σ:=Bool) (fun aQ=>cO = aQ) (fun aQ=>[(13,.int .i64 aC),(12,.int .i64 (a5 - a4)),(11,.bool aI),(10,.bool aJ),(0,.slice a8 aM a9),(1,.int .i64 a4),(2,.int .i64 a5),(3,.int .i64 aH),(4,.func (.func 41) #[.slice (some aD) aE aF] #[]),(97,.bool aQ)]) (fun aQ=>[tF]) (fun aQ=>[.own 45 2 Q9 (.slice a8 aM a9) aB,.own 3 1 Qi (.slice (some aD) aE aF) a0]) ?_ ?_
 rcases Q32 hm with ⟨bI,hm⟩ | ⟨bI,hm⟩
 ·
  obtain ⟨cP,hm⟩:=Qd hm
  obtain ⟨cQ,hm⟩:=Qd hm
  obtain ⟨aV,bJ,hm⟩:=Q7 hm
  obtain ⟨cR,hm⟩:=Qd hm
  obtain ⟨aW,bK,hm⟩:=Q7 hm
  obtain ⟨cZ,bR,hm⟩:=Q7 hm
  refine QV [0,1,2,3,4,5,6,7,9,10,11,14,15,16] Z Z (fun hok=>(xP hok 0 Z (xP hok 1 Z (xP hok 2 Z (Q1e (d:=83) (v':=.bool true) (S':=V11 ..) Z Z (Q16 bI) (xP hok 3 Z (xP hok 4 Z (xP hok 5 Z (xP hok 6 Z (Q1e (d:=87) (v':=.int .i64 (a4 - 1)) (S':=V15 ..) Z Z (i64_in cP) (Q1F hok 7 0 ((a4 - 1).toNat) Z Z Z Zq Z Z Z Z Z (QC cQ) (Qw bJ) QB Qe (fun d4 cS=>?_))))))))))))
  subst cS
  refine xP hok 9 Z (xP hok 10 Z (QJ hok 11 0 aC.toNat Z Z Z Zq Z Z Z Z Z (QC cR) (Qw bK) QB Qe ?_))
  refine Q1W hok 8 12 Z Z Z Z Z Z ?_ ?_
  rotate_left
  focus
   refine Qk Qa 0 aC.toNat 0 Z Z Z Zq Z Z Z bK Qe QS (v:=fun aS=>.agg #[.int .i64 (aW.rule),.slice aS.1 aW.ids.length aS.2]) (fun _=>Z) (fun _=>Z) (fun aS _=>(Q3 (Qy [1] [] Z Z (xS hok 8 Z (Qk Qa 0 ((a4 - 1).toNat) 0 Z Z Z Zq Z Z Z bJ Qe QS (v:=fun aT=>.agg #[.int .i64 (aV.rule),.slice aT.1 aV.ids.length aT.2]) (fun _=>Z) (fun _=>Z) (fun aT _=>(Q3 (Qy [1,2] [] Z Z (xS hok 13 Z (Q26 (args:=[.slice (some aD) aE aF,.agg #[.int .i64 (aV.rule),.slice aT.1 aV.ids.length aT.2],.agg #[.int .i64 (aW.rule),.slice aS.1 aW.ids.length aS.2]]) [1] [0] Z Z Z Zq Z Z Z Q66 Z Z (QN N aD aE aF a0 aV.rule aT.1 aT.2 aV.ids aW.rule aS.1 aS.2 aW.ids _ bR) (asK [0,1,2] Z) Z (H':=[_]) Z ?_))))))))))
  rotate_right
  focus
   refine Qk Qa 0 ((a4 - 1).toNat) 0 Z Z Z Zq Z Z Z bJ Qe QS (v:=fun aT=>.agg #[.int .i64 (aV.rule),.slice aT.1 aV.ids.length aT.2]) (fun _=>Z) (fun _=>Z) (fun aT _=>(Q3 (Qy [1] [] Z Z (xS hok 12 Z (Qk Qa 0 aC.toNat 0 Z Z Z Zq Z Z Z bK Qe QS (v:=fun aS=>.agg #[.int .i64 (aW.rule),.slice aS.1 aW.ids.length aS.2]) (fun _=>Z) (fun _=>Z) (fun aS _=>(Q3 (Qy [1,2] [] Z Z (xS hok 13 Z (Q26 (args:=[.slice (some aD) aE aF,.agg #[.int .i64 (aV.rule),.slice aT.1 aV.ids.length aT.2],.agg #[.int .i64 (aW.rule),.slice aS.1 aW.ids.length aS.2]]) [1] [0] Z Z Z Zq Z Z Z Q66 Z Z (QN N aD aE aF a0 aV.rule aT.1 aT.2 aV.ids aW.rule aS.1 aS.2 aW.ids _ bR) (asK [1,0,2] Z) Z (H':=[_]) Z ?_))))))))))
  all_goals
   rintro _ _ _ ⟨rfl,rfl,rfl⟩
   refine Q3 (Qy [0,1,2] [] Z Z (xP hok 14 Z (xP hok 15 Z (xP hok 16 Z (QL hok Z ?_)))))
   have hE:=(Zi hm).symm
   refine Q1m [1,0] Z (H':=[_,_]) Z ?_
   refine Qp (!(decide (cZ < 0))) hE [13,12,11,10,0,1,2,3,4,97] Z (asK [2] Z) Z
 ·
  refine QV [0,1,2,3,4,5,6,7,9,10,11,14,15,16] Z Z (fun hok=>(xP hok 0 Z (xP hok 1 Z (xP hok 2 Z (Q1e (d:=83) (v':=.bool false) (S':=V11 ..) Z Z (Q16 bI) (xO hok 3 Z (xO hok 4 Z (xO hok 5 Z (xO hok 6 Z (xO hok 7 Z (xO hok 9 Z (xO hok 10 Z (xO hok 11 Z ?_)))))))))))))
  refine Q1W hok 8 12 Z Z Z Z Z Z ?_ ?_
  rotate_left
  focus
   refine wO Z (Q3 (Qy [0] [] Z Z (xS hok 8 Z ?_)))
  rotate_right
  focus
   refine wO Z (Q3 (Qy [0] [] Z Z (xS hok 12 Z ?_)))
  all_goals
   refine wO Z (Q3 (Qy [0] [] Z Z (xS hok 13 Z (wO Z (Q3 (Qy [0] [] Z Z (xO hok 14 Z (xO hok 15 Z (xP hok 16 Z (QL hok Z ?_))))))))))
   have hE:=(Zi hm).symm
   refine Qp false hE [13,12,11,10,0,1,2,3,4,97] Z (asK [0] Z) Z
 rintro aQ hE
 try dsimp only
 have hm:=hLj_5
 try rw [hE] at hm
 refine QA Z (fun bL=>?_) (fun bL=>?_)
 replace hm:=Q1z hm bL
 refine Q5 [13,11,10,0,1,2,3,4] (S':=V8 ..) Z (Q6 (Q2 (wP Z (wP Z (wP Z (wP Z (wP Z (QK 0 Z (fun aU _=>?_)))))))))
 subst aU
 obtain ⟨⟨bN,bO⟩,bT,hm⟩:=Q7 hm
 try dsimp only at hm
 refine wC [0,1] [] Z fn_154 Z (Q6U N a8 aB.length a9 aB a4 a5 aC aD aE aF a0 _ _ bT) (asK [0] Z) Z (H':=[]) Z ?_
 rintro _ _ _ ⟨rfl,rfl,rfl⟩
 refine wP Z (Q3 (Q4 (Q5 [15,11,10,0,2,3,4] (S':=V7 ..) Z (Q6 (Q2 (wP Z (wP Z (Q3 (Q4 (Q5 [1,11,10,0,2,3,4] (S':=V7 ..) Z (Q19 (Qc (Qt ?_)))))))))))))
 have hE:=(Zi hm).symm
 replace hE:=Q14 hLu1 hE
 refine Q1a (_,aI,aJ,bO,bN,a5,aH,a0,aB.length) (Nat.lt_succ_self _) hE [11,10,0,1,2,3,4] Z (asK [0] Z) Z
 replace hm:=Q1y hm bL
 refine Q5 [13,12,0,1,2,3,4] (S':=V7 ..) Z (Qs (Q4 (Q6 (Q2 (wP Z (wP Z (wP Z (wP Z (wP Z (QK 0 Z (fun aU _=>?_)))))))))))
 subst aU
 obtain ⟨⟨aL,b6,aG⟩,bU,hm⟩:=Q7 hm
 try dsimp only at hm
 refine wC [0,1] [] Z fn_155 Z (Q7n N a8 aB.length a9 aB a4 a5 aC aD aE aF a0 _ _ _ bU) (asK [0] Z) Z (H':=[]) Z ?_
 rintro _ _ _ ⟨rfl,rfl,rfl⟩
 refine wP Z (wP Z (wP Z (wP Z (wP Z (Q3 (Q4 (Q5 [17,16,12,0,1,2,3,4] (S':=V8 ..) Z (Q6 (Q2 (wP Z (wP Z (Q3 (Q4 ?_)))))))))))))
 refine Q5 [11,16,12,0,1,2,3,4] (S':=V8 ..) Z (Q6 (Q2 (wP Z (wP Z (wP Z ?_)))))
 obtain ⟨bV,hm⟩:=Qd hm
 refine Qz (d:=117) (v':=.int .i64 (aL - a4)) (S':=V10 ..) Z Z (i64_in bV) (wP Z (wP Z (wP Z ?_)))
 obtain ⟨bW,hm⟩:=Qd hm
 refine Qz (d:=120) (v':=.int .i64 (a5 - aL)) (S':=V13 ..) Z Z (i64_in bW) (wP Z (wP Z (Q3 (Q4 (Q5 [19,18,11,16,12,0,1,2,3,4] (S':=V10 ..) Z (Q6 (Q2 (wP Z (Q5q Z Z Z Zq Z Z Z (Q9C (by decide)) (wP Z (Q3 (Q4 (Q5 [20,19,18,11,16,0,1,2,3,4] (S':=V10 ..) Z ?_)))))))))))))
 refine Q6 (Q2 (wP Z (wP Z (wP Z (Q3 (Q4 (Q5 [125,20,19,18,11,16,0,1,2,3,4] (S':=V11 ..) Z ?_)))))))
 refine QA Z (fun b5=>?_) (fun b5=>?_)
 replace hm:=Q1z hm b5
 refine Q5 [20,18,11,16,0,1,2,3,4] (S':=V9 ..) Z (Q6 (Q2 (wP Z (wP Z (wP Z (wP Z (Q3 (Q4 (Q5 [10,11,16,0,1,2,3,4] (S':=V8 ..) Z (Q6 (Q2 (wP Z (wP Z ?_)))))))))))))
 refine wP Z (wP Z (wP Z (QK 0 Z (fun aZ _=>(Q4F 4 (v':=.slice a8 aG.length a9) Z (by first | rfl | rw [aZ]) (Q4F 8 (v':=.slice a8 aG.length a9) Z (by first | rfl | rw [aZ]) (Q28 0 (φ':=.own 45 2 Q9 (.slice a8 aG.length a9) aG) Z (by first | rfl | rw [aZ]) (H':=[_,_]) Z ?_)))))))
 obtain ⟨⟨aX,bP⟩,bX,hm⟩:=Q7 hm
 try dsimp only at hm
 refine wC [0,1] [] Z fn_96 Z (ih a8 aG.length a9 aG a4 aL aH aD aE aF a0 _ _ bX) (asK [0] Z) Z (H':=[]) Z ?_
 rintro _ _ _ ⟨cT,rfl,rfl,rfl⟩
 refine QK 0 Z (fun b8 _=>?_)
 subst b8
 obtain ⟨b0,hm⟩:=Qd hm
 refine Q4F 5 (v':=.slice a8 aX.length a9) Z (by rw [b0]) (Q4F 9 (v':=.slice a8 aX.length a9) Z (by rw [b0]) (Q3 (Q4 (Q5 [10,11,16,0,2,3,4] (S':=V7 ..) Z (Q2 (wP Z (wP Z ?_)))))))
 obtain ⟨bY,hm⟩:=Qd hm
 refine Qz (d:=136) (v':=.int .i64 (aL + 1)) (S':=V8 ..) Z Z (i64_in bY) (wP Z (Q3 (Qj ?_)))
 have hE:=(Zi hm).symm
 replace hE:=Q14 hLu1 hE
 refine Q1a (_,b6,decide ((aL - a4) ≥ (IntKind.wrap .i64 (Int.tdiv (a5 - a4) 8))),aX,aL + 1,a5,aH,bP,aX.length) (Nat.lt_succ_self _) hE [11,10,0,1,2,3,4] Z (asK [0] Z) Z
 replace hm:=Q1y hm b5
 refine Q5 [20,19,11,16,0,1,2,3,4] (S':=V9 ..) Z (Q6 (Q2 (wP Z (wP Z (wP Z (wP Z (Q3 (Q4 (Q5 [10,11,16,0,1,2,3,4] (S':=V8 ..) Z (Q6 (Q2 (wP Z (wP Z ?_)))))))))))))
 refine wP Z ?_
 obtain ⟨bZ,hm⟩:=Qd hm
 refine Qz (d:=142) (v':=.int .i64 (aL + 1)) (S':=V10 ..) Z Z (i64_in bZ) (wP Z (wP Z (wP Z (QK 0 Z (fun bM _=>(Q4F 5 (v':=.slice a8 aG.length a9) Z (by first | rfl | rw [bM]) (Q4F 9 (v':=.slice a8 aG.length a9) Z (by first | rfl | rw [bM]) (Q28 0 (φ':=.own 45 2 Q9 (.slice a8 aG.length a9) aG) Z (by first | rfl | rw [bM]) (H':=[_,_]) Z ?_))))))))
 obtain ⟨⟨aY,bQ⟩,c0,hm⟩:=Q7 hm
 try dsimp only at hm
 refine wC [0,1] [] Z fn_96 Z (ih a8 aG.length a9 aG (aL + 1) a5 aH aD aE aF a0 _ _ c0) (asK [0] Z) Z (H':=[]) Z ?_
 rintro _ _ _ ⟨cU,rfl,rfl,rfl⟩
 refine QK 0 Z (fun b9 _=>?_)
 subst b9
 obtain ⟨b1,hm⟩:=Qd hm
 refine Q4F 6 (v':=.slice a8 aY.length a9) Z (by rw [b1]) (Q4F 10 (v':=.slice a8 aY.length a9) Z (by rw [b1]) (Q3 (Q4 (Q5 [10,11,16,0,1,3,4] (S':=V7 ..) Z (Q2 (wP Z (wP Z (Q3 (Qj ?_)))))))))
 have hE:=(Zi hm).symm
 replace hE:=Q14 hLu1 hE
 refine Q1a (_,b6,decide ((a5 - aL) ≥ (IntKind.wrap .i64 (Int.tdiv (a5 - a4) 8))),aY,a4,aL,aH,bQ,aY.length) (Nat.lt_succ_self _) hE [11,10,0,1,2,3,4] Z (asK [0] Z) Z
theorem Q7B : ∀ (N:Nat),∀ (qp0:OA) (qn1:Nat) (qc2:Nat) (l0:List Q1) (a1:Int) (a2:Int) (a3:Int) (qp3:Addr) (qn4:Nat) (qc5:Nat) (l4:List Int) (o0:List Q1) (o2:List Int),Q1k N l0 a1 a2 a3 l4 = some (o0,o2) → Q1R Tryz.prog 96 [.slice qp0 qn1 qc2,.int .i64 a1,.int .i64 a2,.int .i64 a3,.func (.func 41) #[.slice (some qp3) qn4 qc5] #[]] [tF] [.own 45 2 Q9 (.slice qp0 qn1 qc2) l0,.own 3 1 Qi (.slice (some qp3) qn4 qc5) l4] (fun v Φr Hr=>∃ (o1:Nat),v = .tuple #[] ∧ Φr = [] ∧ Hr = [.own 45 2 Q9 (.slice qp0 o1 qc2) o0,.own 3 1 Qi (.slice (some qp3) qn4 qc5) o2]):=by
 intro N
 induction N with
 | zero=>intro qp0 qn1 qc2 l0 a1 a2 a3 qp3 qn4 qc5 l4 o0 o2 hm; cases hm
 | succ N ih=>intro qp0 qn1 qc2 l0 a1 a2 a3 qp3 qn4 qc5 l4 o0 o2 hm; exact Q7o N (Q1k N) ih qp0 qn1 qc2 l0 a1 a2 a3 qp3 qn4 qc5 l4 o0 o2 hm
theorem Q2J (N:Nat) (qp0:OA) (qn1:Nat) (qc2:Nat) (l0:List Q1) (qp3:Addr) (qn4:Nat) (qc5:Nat) (l1:List Int) (o0:List Q1) (o2:List Int) (hm:Q2b N l0 l1 = some (o0,o2)):Q1R Tryz.prog 43 [.slice qp0 qn1 qc2,.func (.func 41) #[.slice (some qp3) qn4 qc5] #[]] [tF] [.own 45 2 Q9 (.slice qp0 qn1 qc2) l0,.own 3 1 Qi (.slice (some qp3) qn4 qc5) l1] (fun v Φr Hr=>∃ (o1:Nat),v = .tuple #[] ∧ Φr = [] ∧ Hr = [.own 45 2 Q9 (.slice qp0 o1 qc2) o0,.own 3 1 Qi (.slice (some qp3) qn4 qc5) o2]):=by
 unfold Q2b at hm
 refine QZ Tryz.func43 Z Tryz.ntmps43 Z (S:=[_,_]) Z (fun C=>(Q6 (Q2 (wP Z (QK 0 Z (fun hl6 _=>(wN Z QB (Qz (d:=6) (v':=.int .i64 ((l0.length:Nat):Int)) (S':=V3 ..) Z Z (Q4A hl6) (wP Z (Q3 (Q4 (Q5 [4,0,1] (S':=V3 ..) Z (Q2 (wP Z (wP Z ?_)))))))))))))))
 refine wP Z (Q9M Z Z Z Zq (rk_conv Z Z tI_3 tI_157) ?_)
 obtain ⟨v11,hc11,hm⟩:=Q7 hm
 refine wC [] [0,1] Z fn_97 Z (w_bits_Len_s N (IntKind.wrap .u64 ((l0.length:Nat):Int)) _ hc11) (asK [0] Z) Z (H':=[_,_]) Z ?_
 rintro _ _ _ ⟨rfl,rfl,rfl⟩
 refine wP Z (QK 0 Z (fun hzqn1 _=>?_))
 subst hzqn1
 obtain ⟨⟨v13_0,v13_1⟩,hc13,hm⟩:=Q7 hm
 try dsimp only at hm
 refine wC [0,1] [] Z fn_96 Z (Q7B N qp0 l0.length qc2 l0 0 ((l0.length:Nat):Int) v11 qp3 qn4 qc5 l1 _ _ hc13) (asK [0] Z) Z (H':=[]) Z ?_
 rintro _ _ _ ⟨c13_0,rfl,rfl,rfl⟩
 refine QK 0 Z (fun hzc13_0 _=>?_)
 subst hzc13_0
 obtain ⟨hrl13_0,hm⟩:=Qd hm
 refine Q4F 6 (v':=.slice qp0 v13_0.length qc2) Z (by rw [hrl13_0]) (Q4F 8 (v':=.slice qp0 v13_0.length qc2) Z (by rw [hrl13_0]) (Q3 ?_))
 have hE:=(Zi hm).symm
 obtain ⟨hE0,hE1⟩:=Prod.mk.inj hE
 clear hE
 replace hE0:=hE0.symm
 subst hE0
 replace hE1:=hE1.symm
 subst hE1
 refine Q5E (Hr:=[_,_]) [0,1] Tryz.results43 ⟨v13_0.length,Z,Z,Z⟩ (asK [] Z) Z Z (.inr Z)
theorem Q41 (N:Nat) (b1:Nat) (aW:Addr) (aX:Nat) (aY:Nat) (l0:List Int) (b2:OA) (b3:Nat) (b4:Nat) (l1:List Q1) (b5:OA) (b6:Nat) (b7:Nat) (l2:List Q1) (aH:Nat) (e3:List (ByteArray × Bool)) (bC:OA) (bS:Nat) (aI:Nat) (l4:List Q1) (o0:Nat) (o1:List Int) (o4:List Q1) (o8:List Q1) (d3:List (ByteArray × Bool)) (hm:Q2f N l0 l1 l2 e3 l4 = some (o0,o1,o4,o8,d3)):Q1R Tryz.prog 21 [.pointer (some ⟨b1,0,none⟩),.slice bC bS aI] [tF] [.blk b1 [.slice (some aW) aX aY,.slice b2 b3 b4,.slice b5 b6 b7,.map (some aH)] 66,.own 3 1 Qi (.slice (some aW) aX aY) l0,.own 45 2 Q9 (.slice b2 b3 b4) l1,.own 45 2 Q9 (.slice b5 b6 b7) l2,Q2s (Q1g (QQ Q2t)) false QW aH e3,Q1l Qb 45 2 (.slice bC bS aI) l4] (fun v Φr Hr=>∃ (o2:OA) (o3:Nat) (o5:Nat) (o6:OA) (o7:Nat) (o9:Nat) (d4:Nat),v = .int .i64 ((o0:Nat):Int) ∧ Φr = [] ∧ Hr = [.blk b1 [.slice (some aW) aX aY,.slice o2 o5 o3,.slice o6 o9 o7,.map (some d4)] 66,.own 3 1 Qi (.slice (some aW) aX aY) o1,.own 45 2 Q9 (.slice o2 o5 o3) o4,.own 45 2 Q9 (.slice o6 o9 o7) o8,Q2s (Q1g (QQ Q2t)) false QW d4 d3,Q1l Qb 45 2 (.slice bC bS aI) l4]):=by
 unfold Q2f at hm
 refine QZ Tryz.func21 Z Tryz.ntmps21 Z (S:=[_,_]) Z (fun C=>(Q6 (Q2 (wP Z (Q3 (Q4 (Q5 [0,1] (S':=[_,_]) Z (Q6 (Q6 (Q2 (wP Z ?_)))))))))))
 obtain ⟨_,d5,hm⟩:=Q7 hm
 try dsimp only at hm
 refine wC [0,1,2,3,4] [5] Z fn_32 Z (Q3B N b1 aW aX aY l0 b2 b3 b4 l1 b5 b6 b7 l2 aH e3 d5) (asK [0] Z) Z (H':=[_]) Z ?_
 rintro _ _ _ ⟨rfl,rfl,rfl⟩
 refine wP Z (Q3 (Q4 (Q5 [14,0,1] (S':=V3 ..) Z (Q4q Z (Q5 [0,1] (S':=[_,_]) Z (Qs (Q4 (Q6 (Q2 (Q7I (Q1g (QQ Q2t)) false QW Z Z Z Zq Z (fun c0=>(wP Z (Q3 (Q4 ?_))))))))))))))
 refine Q5 [5,0,1] (S':=V3 ..) Z (Q6 ?_)
 obtain ⟨cV,hm,hLj_1⟩:=Q35 hm
 refine Q18 (σ:=Unit) (fun _=>cV = .inl ()) (fun _=>[(0,.pointer (some ⟨b1,0,none⟩)),(1,.slice bC bS aI)]) (fun _=>[tF]) (fun _=>[.blk b1 [.slice (some aW) aX aY,.slice b2 b3 b4,.slice b5 b6 b7,.map (some aH)] 66,.own 3 1 Qi (.slice (some aW) aX aY) l0,.own 45 2 Q9 (.slice b2 b3 b4) l1,.own 45 2 Q9 (.slice b5 b6 b7) l2,Q2s (Q1g (QQ Q2t)) false QW aH e3,Q1l Qb 45 2 (.slice bC bS aI) l4]) ?_ ?_
 refine Q6 (Q2 (wP Z (Q2o 6 Z (fun d6 _=>?_))))
 subst d6
 refine wN Z QB (wP Z (Q3 (Q4 (Qm (Q6L [6,0,1,2,3,4,5] Z (H':=V7 ..) Z (Q1f (σ:=Nat × Nat × (List (ByteArray × Bool))) (fun (c1,aG,aZ)=>Q1o (Q2q N l4 l0 l1 l2 e3) c1 (aG,aZ) = some cV) (fun (c1,aG,aZ)=>c1) (fun (c1,aG,aZ)=>[(18,.int .i64 ((aG:Nat):Int)),(17,.int .i64 ((l4.length:Nat):Int)),(16,.slice bC l4.length aI),(5,.map (some c0)),(0,.pointer (some ⟨b1,0,none⟩)),(1,.slice bC l4.length aI)]) (fun (c1,aG,aZ)=>[tF]) (fun (c1,aG,aZ)=>[Q1l Qb 45 2 (.slice bC l4.length aI) l4,Q2s (Q1g (QQ Q2t)) false QW c0 aZ,.blk b1 [.slice (some aW) aX aY,.slice b2 b3 b4,.slice b5 b6 b7,.map (some aH)] 66,.own 3 1 Qi (.slice (some aW) aX aY) l0,.own 45 2 Q9 (.slice b2 b3 b4) l1,.own 45 2 Q9 (.slice b5 b6 b7) l2,Q2s (Q1g (QQ Q2t)) false QW aH e3]) (N,0,([] : List (ByteArray × Bool))) hm [18,17,16,5,0,1] Z (asK [0] Z) Z (fun s_ hm=>?_)))))))
 obtain ⟨c1,aG,aZ⟩:=s_
 try dsimp only at hm ⊢
 obtain ⟨e4,e5,d7,hq,hLu1⟩:=Q1d hm
 clear hm
 subst d7
 replace hm:=hq
 clear hq
 unfold Q2q at hm
 try dsimp only at hm
 refine Q6 (Q2 (wP Z (Qz (d:=19) (v':=.bool (decide (aG < l4.length))) (S':=V6 ..) Z Z (Q3f (a:=aG) (b:=l4.length)) (Q3 (Q4 (Q6 ?_))))))
 refine QA Z (fun cE=>?_) (fun cE=>?_)
 replace hm:=Q1z hm cE
 refine Q5 [18,17,16,5,0,1] (S':=V6 ..) Z (Qs (Q4 (Q6 (Qm (Q6 (Q2 (Q46 0 Z (fun b8 c2=>?_))))))))
 obtain ⟨b0,d8,hm⟩:=Q7 hm
 obtain ⟨aJ,bL⟩:=zip_at c2 d8
 refine Q2E 1 aG Z Z Z Zq Z Z Z Z Z (Qw bL) QB Qe (fun bT d9=>?_)
 subst d9
 refine Q2x [.own 3 1 Qi (.slice aJ.1 b0.ids.length aJ.2) b0.ids,Q2j Qb b8 (some aG),_,_,_,_,_,_,_] (fun _ h=>h.bagOpen 0 aG Z bL) (Qk Q7z 2 aG 0 Z Z Z Zq Z Z Z bL Qe QS (v:=fun _=>.agg #[.int .i64 (b0.rule),.slice aJ.1 b0.ids.length aJ.2]) (fun _=>Z) (fun _=>Z) (fun _ _=>(Q25 Z Z Z Zq Z Q42 Z (fun g7=>(wS 0 0 Z Qe (all':=[_,_]) Z (H':=V10 ..) Z (Q3 (Q4 (Q5 [7,18,17,16,5,0,1] (S':=V7 ..) Z (Q6 (Q6 ?_))))))))))
 obtain ⟨dB,hm,hLj_2⟩:=Q7 hm
 unfold Q5Q at hm
 refine Q18 (σ:=Bool) (fun bI=>dB = bI) (fun bI=>[(7,.pointer (some ⟨g7,0,none⟩)),(18,.int .i64 ((aG:Nat):Int)),(17,.int .i64 ((l4.length:Nat):Int)),(16,.slice (some ⟨bT,0,none⟩) l4.length aI),(5,.map (some c0)),(0,.pointer (some ⟨b1,0,none⟩)),(1,.slice (some ⟨bT,0,none⟩) l4.length aI),(40,.bool bI)]) (fun bI=>[tF]) (fun bI=>[.blk g7 [.int .i64 (b0.rule),.slice aJ.1 b0.ids.length aJ.2] 45,.own 3 1 Qi (.slice aJ.1 b0.ids.length aJ.2) b0.ids,.own 45 2 Qb.pair (.slice (some ⟨bT,0,none⟩) l4.length aI) b8,Q2s (Q1g (QQ Q2t)) false QW c0 aZ,.blk b1 [.slice (some aW) aX aY,.slice b2 b3 b4,.slice b5 b6 b7,.map (some aH)] 66,.own 3 1 Qi (.slice (some aW) aX aY) l0,.own 45 2 Q9 (.slice b2 b3 b4) l1,.own 45 2 Q9 (.slice b5 b6 b7) l2,Q2s (Q1g (QQ Q2t)) false QW aH e3,Q2j Qb b8 (some aG)]) ?_ ?_
 rcases Q32 hm with ⟨bU,hm⟩ | ⟨bU,hm⟩
 refine QV [0,1,2,3,4,5,6,7,8,9,10,11,12,13,14,15,18] Z Z (fun hok=>(Ql hok 0 Z Z Z Zq Z Z Z Q2L (Qq hok 1 0 0 Z Z Z Zq Z Z Z Z (cs:=[_]) Z Q1w Q3z Z Z (xP hok 2 Z (xP hok 3 Z (Q1e (d:=25) (v':=.bool true) (S':=V10 ..) Z Z (Q16 bU) (xO hok 4 Z (xO hok 5 Z (xO hok 6 Z (xO hok 7 Z (xO hok 8 Z (xO hok 9 Z (xO hok 10 Z (xO hok 11 Z ?_))))))))))))))
 refine xP hok 12 Z (xP hok 13 Z (xO hok 14 Z (xO hok 15 Z (xS hok 16 Z (wO Z (Q3 (Qy [0] [0] Z Z (xS hok 17 Z (wO Z (Q3 (Qy [0] [0] Z Z (xP hok 18 Z (QL hok Z ?_)))))))))))))
 have hE:=(Zi hm).symm
 refine Q1m [0,1,3,4,5,6,7,8,9,2] Z (H':=V10 ..) Z ?_
 refine Qp true hE [7,18,17,16,5,0,1,40] Z (asK [0] Z) Z
 rcases Q32 hm with ⟨c9,hm⟩ | ⟨c9,hm⟩
 refine QV [0,1,2,3,4,5,6,7,8,9,10,11,12,13,14,15,18] Z Z (fun hok=>(Ql hok 0 Z Z Z Zq Z Z Z Q2L (Qq hok 1 0 0 Z Z Z Zq Z Z Z Z (cs:=[_]) Z Q1w Q3z Z Z (xP hok 2 Z (xP hok 3 Z (Q1e (d:=25) (v':=.bool false) (S':=V10 ..) Z Z (Q16 bU) (Ql hok 4 Z Z Z Zq Z Z Z Q2L (Qq hok 5 0 0 Z Z Z Zq Z Z Z Z (cs:=[_]) Z Q1w Q3z Z Z (xP hok 6 Z (xP hok 7 Z (Ql hok 8 Z Z Z Zq Z Z Z Q6j (Qq hok 9 5 0 Z Z Z Zq Z Z Z Z (cs:=[_]) Z Q8d Q8c Z Z (Q6D 6 Z (fun bV _=>(Q4r hok 10 Z Z Z Zq Z Z Z tE_62 ?_)))))))))))))))
 refine Q1e (d:=32) (v':=.int .i64 ((l0.length:Nat):Int)) (S':=V17 ..) Z Z (Q4A bV) (xP hok 11 Z (xP hok 12 Z (xP hok 13 Z (Q1e (d:=35) (v':=.bool true) (S':=V20 ..) Z Z (Q16 c9) (xO hok 14 Z (xO hok 15 Z (xS hok 16 Z (wO Z (Q3 (Qy [0] [5,0,0] Z Z (xS hok 17 Z (wO Z (Q3 ?_)))))))))))))
 refine Qy [0] [5,0,0] Z Z (xP hok 18 Z (QL hok Z ?_))
 have hE:=(Zi hm).symm
 refine Q1m [0,1,3,4,5,6,7,8,9,2] Z (H':=V10 ..) Z ?_
 refine Qp true hE [7,18,17,16,5,0,1,40] Z (asK [0] Z) Z
 obtain ⟨dC,cW,hm⟩:=Q7 hm
 rcases Qab hm with ⟨cF,hm⟩ | ⟨cP,cF,hm⟩
 refine QV [0,1,2,3,4,5,6,7,8,9,10,11,12,13,14,15,18] Z Z (fun hok=>(Ql hok 0 Z Z Z Zq Z Z Z Q2L (Qq hok 1 0 0 Z Z Z Zq Z Z Z Z (cs:=[_]) Z Q1w Q3z Z Z (xP hok 2 Z (xP hok 3 Z (Q1e (d:=25) (v':=.bool false) (S':=V10 ..) Z Z (Q16 bU) (Ql hok 4 Z Z Z Zq Z Z Z Q2L (Qq hok 5 0 0 Z Z Z Zq Z Z Z Z (cs:=[_]) Z Q1w Q3z Z Z (xP hok 6 Z (xP hok 7 Z (Ql hok 8 Z Z Z Zq Z Z Z Q6j (Qq hok 9 5 0 Z Z Z Zq Z Z Z Z (cs:=[_]) Z Q8d Q8c Z Z (Q6D 6 Z (fun bV _=>(Q4r hok 10 Z Z Z Zq Z Z Z tE_62 ?_)))))))))))))))
 refine Q1e (d:=32) (v':=.int .i64 ((l0.length:Nat):Int)) (S':=V17 ..) Z Z (Q4A bV) (xP hok 11 Z (xP hok 12 Z (xP hok 13 Z (Q1e (d:=35) (v':=.bool false) (S':=V20 ..) Z Z (Q16 c9) (xP hok 14 Z (Qq hok 15 0 0 Z Z Z Zq Z Z Z Z (cs:=[_,_]) Z Qe QS Z Z (xS hok 16 Z (Q2k [] [0,1,2,3,4,5,6,7,8,9] [1] Z Z Z Zq Z Z fn_42 Z (Q3U N b0.rule aJ.1 aJ.2 b0.ids _ cW) (fun F w hφ hh=>(Qh (Q1n (hh _ (Qu (k:=0) Z))) (Qh (hφ _ (Qu (k:=0) Z)) Qv))) (fun _ _ _ hR=>by obtain ⟨rfl,rfl,rfl⟩:=hR; exact ⟨Z,(fun _ h=>Q1O h)⟩) Z Z (H':=V10 ..) Z ?_))))))))
 rintro _ _ _ ⟨rfl,rfl,rfl⟩
 refine Q3 (Qy [0] [5,0,0] Z Z (xS hok 17 Z (Q9L (i:=dC) 4 Z Z Z Zq Z Z Z Z tZ_4 Q8I trivial cF (v:=.bool false) Z (Q3 (Qy [0] [0,5,0,0] Z Z (xP hok 18 Z (QL hok Z ?_)))))))
 have hE:=(Zi hm).symm
 refine Q1m [0,1,3,4,5,6,7,8,9,2] Z (H':=V10 ..) Z ?_
 refine Qp false hE [7,18,17,16,5,0,1,40] Z (asK [0] Z) Z
 refine QV [0,1,2,3,4,5,6,7,8,9,10,11,12,13,14,15,18] Z Z (fun hok=>(Ql hok 0 Z Z Z Zq Z Z Z Q2L (Qq hok 1 0 0 Z Z Z Zq Z Z Z Z (cs:=[_]) Z Q1w Q3z Z Z (xP hok 2 Z (xP hok 3 Z (Q1e (d:=25) (v':=.bool false) (S':=V10 ..) Z Z (Q16 bU) (Ql hok 4 Z Z Z Zq Z Z Z Q2L (Qq hok 5 0 0 Z Z Z Zq Z Z Z Z (cs:=[_]) Z Q1w Q3z Z Z (xP hok 6 Z (xP hok 7 Z (Ql hok 8 Z Z Z Zq Z Z Z Q6j (Qq hok 9 5 0 Z Z Z Zq Z Z Z Z (cs:=[_]) Z Q8d Q8c Z Z (Q6D 6 Z (fun bV _=>(Q4r hok 10 Z Z Z Zq Z Z Z tE_62 ?_)))))))))))))))
 refine Q1e (d:=32) (v':=.int .i64 ((l0.length:Nat):Int)) (S':=V17 ..) Z Z (Q4A bV) (xP hok 11 Z (xP hok 12 Z (xP hok 13 Z (Q1e (d:=35) (v':=.bool false) (S':=V20 ..) Z Z (Q16 c9) (xP hok 14 Z (Qq hok 15 0 0 Z Z Z Zq Z Z Z Z (cs:=[_,_]) Z Qe QS Z Z (xS hok 16 Z (Q2k [] [0,1,2,3,4,5,6,7,8,9] [1] Z Z Z Zq Z Z fn_42 Z (Q3U N b0.rule aJ.1 aJ.2 b0.ids _ cW) (fun F w hφ hh=>(Qh (Q1n (hh _ (Qu (k:=0) Z))) (Qh (hφ _ (Qu (k:=0) Z)) Qv))) (fun _ _ _ hR=>by obtain ⟨rfl,rfl,rfl⟩:=hR; exact ⟨Z,(fun _ h=>Q1O h)⟩) Z Z (H':=V10 ..) Z ?_))))))))
 rintro _ _ _ ⟨rfl,rfl,rfl⟩
 refine Q3 (Qy [0] [5,0,0] Z Z (xS hok 17 Z (Q98 (i:=dC) (a:=cP) Q56 4 Z Z Z Zq Z Z Z Z Q8I trivial cF (u:=fun _=>.bool cP) (fun _=>Z) (v:=fun _=>.bool cP) (fun _=>Z) (fun _ _=>(Q3 (Qy [0] [0,5,0,0] Z Z (xP hok 18 Z (QL hok Z ?_))))))))
 have hE:=(Zi hm).symm
 refine Q1m [0,1,3,4,5,6,7,8,9,2] Z (H':=V10 ..) Z ?_
 refine Qp cP hE [7,18,17,16,5,0,1,40] Z (asK [0] Z) Z
 rintro bI hE
 try dsimp only
 have hm:=hLj_2
 try rw [hE] at hm
 refine QA Z (fun cG=>?_) (fun cG=>?_)
 replace hm:=Q1z hm cG
 refine Q5 [] (S':=[]) Z (Q6 (Q2 (wP Z (Q3 (Q4 (QP (Qn (Q11 (Qn (Qn (Q11 (Qn ?_))))))))))))
 have hE:=(Zi hm).symm
 replace hE:=QO hLu1 hE
 replace hE:=QO hLj_1 hE
 obtain ⟨hE0,hF1⟩:=Prod.mk.inj hE
 obtain ⟨hE1,hF2⟩:=Prod.mk.inj hF1
 obtain ⟨hE2,hF3⟩:=Prod.mk.inj hF2
 obtain ⟨hE3,hE4⟩:=Prod.mk.inj hF3
 clear hE hF1 hF2 hF3
 replace hE0:=hE0.symm
 subst hE0
 replace hE1:=hE1.symm
 subst hE1
 replace hE2:=hE2.symm
 subst hE2
 replace hE3:=hE3.symm
 subst hE3
 replace hE4:=hE4.symm
 subst hE4
 refine Q1m [1,0,2,3,4,5,6,7,8,9] Z (H':=V10 ..) Z (Q6F [_,_,_,_,_,_,_,_,Q2j Qb (b8.set aG (b0,aJ)) none] (fun _ h=>QY.bagClose (T:=Qb) (x:=b0) (r:=aJ) (i:=aG) (zs:=b8) (H:=V9 ..) h 8 Z) (Q9k 8 (φ':=Q2j Qb b8 none) Z (by rw [Q8a bL]) (H':=[.blk g7 [.int .i64 (b0.rule),.slice aJ.1 b0.ids.length aJ.2] 45,.own 45 2 Qb.pair (.slice (some ⟨bT,0,none⟩) l4.length aI) b8,Q2s (Q1g (QQ Q2t)) false QW c0 aZ,.blk b1 [.slice (some aW) aX aY,.slice b2 b3 b4,.slice b5 b6 b7,.map (some aH)] 66,.own 3 1 Qi (.slice (some aW) aX aY) l0,.own 45 2 Q9 (.slice b2 b3 b4) l1,.own 45 2 Q9 (.slice b5 b6 b7) l2,Q2s (Q1g (QQ Q2t)) false QW aH e3,Q2j Qb b8 none]) Z (Q6F [_,Q1l Qb 45 2 (.slice (some ⟨bT,0,none⟩) l4.length aI) l4,_,_,_,_,_,_] (fun _ h=>h.treeIn 1 8 Z Z Z c2) ?_)))
 refine QH (Hr:=V6 ..) [3,4,5,6,7,1] Tryz.results21 (QD Z) ⟨b2,b4,b3,b5,b7,b6,aH,Z,Z,Z⟩ (asK [] Z) Z Z (.inl Z)
 replace hm:=Q1y hm cG
 refine Q5 [7,18,17,16,5,0,1] (S':=V7 ..) Z (Qs (Q4 (Q2 (wP Z (Q1V 0 0 Z Z Z Zq Z Z Z (cs:=[_,_]) Z Qe QS Z Z ?_)))))
 obtain ⟨cQ,dD,hm⟩:=Q7 hm
 refine Q2k [] [0,1,2,3,4,5,6,7,8,9] [1] Z Z Z Zq Z Z fn_42 Z (Q3U N b0.rule aJ.1 aJ.2 b0.ids _ dD) (fun F w hφ hh=>(Qh (Q1n (hh _ (Qu (k:=0) Z))) (Qh (hφ _ (Qu (k:=0) Z)) Qv))) (fun _ _ _ hR=>by obtain ⟨rfl,rfl,rfl⟩:=hR; exact ⟨Z,(fun _ h=>Q1O h)⟩) Z Z (H':=V10 ..) Z ?_
 rintro _ _ _ ⟨rfl,rfl,rfl⟩
 refine Q7C (i:=cQ) (u:=true) (cs:=[.bool true]) ltB 3 Z Z (.inl Z) Z Z Z Z Q8I trivial Z (fun F w hφ=>⟨(),Z,Qv⟩) (H':=[.blk g7 [.int .i64 (b0.rule),.slice aJ.1 b0.ids.length aJ.2] 45,.own 3 1 Qi (.slice aJ.1 b0.ids.length aJ.2) b0.ids,.own 45 2 Qb.pair (.slice (some ⟨bT,0,none⟩) l4.length aI) b8,Q2s (Q1g (QQ Q2t)) false QW c0 (Q61 ltB cQ true aZ),.blk b1 [.slice (some aW) aX aY,.slice b2 b3 b4,.slice b5 b6 b7,.map (some aH)] 66,.own 3 1 Qi (.slice (some aW) aX aY) l0,.own 45 2 Q9 (.slice b2 b3 b4) l1,.own 45 2 Q9 (.slice b5 b6 b7) l2,Q2s (Q1g (QQ Q2t)) false QW aH e3,Q2j Qb b8 (some aG)]) Z (Q3 (Qj (Q4 (Q5 [18,17,16,5,0,1] (S':=V6 ..) Z (Q2 (wP Z ?_))))))
 obtain ⟨dE,hm⟩:=Qd hm
 refine Qz (d:=44) (v':=.int .i64 ((aG + 1:Nat):Int)) (S':=V6 ..) Z Z (Q1i (a:=aG) (b:=1) dE) (QI (S':=V6 ..) Z Z Z Z Z (Q3 ?_))
 have hE:=(Zi hm).symm
 replace hE:=Q14 hLu1 hE
 refine Q1m [1,0,2,3,4,5,6,7,8,9] Z (H':=V10 ..) Z (Q6F [_,_,_,_,_,_,_,_,Q2j Qb (b8.set aG (b0,aJ)) none] (fun _ h=>QY.bagClose (T:=Qb) (x:=b0) (r:=aJ) (i:=aG) (zs:=b8) (H:=V9 ..) h 8 Z) (Q9k 8 (φ':=Q2j Qb b8 none) Z (by rw [Q8a bL]) (H':=[.blk g7 [.int .i64 (b0.rule),.slice aJ.1 b0.ids.length aJ.2] 45,.own 45 2 Qb.pair (.slice (some ⟨bT,0,none⟩) l4.length aI) b8,Q2s (Q1g (QQ Q2t)) false QW c0 (Q61 ltB cQ true aZ),.blk b1 [.slice (some aW) aX aY,.slice b2 b3 b4,.slice b5 b6 b7,.map (some aH)] 66,.own 3 1 Qi (.slice (some aW) aX aY) l0,.own 45 2 Q9 (.slice b2 b3 b4) l1,.own 45 2 Q9 (.slice b5 b6 b7) l2,Q2s (Q1g (QQ Q2t)) false QW aH e3,Q2j Qb b8 none]) Z (Q6F [_,Q1l Qb 45 2 (.slice (some ⟨bT,0,none⟩) l4.length aI) l4,_,_,_,_,_,_] (fun _ h=>h.treeIn 1 8 Z Z Z c2) (Q1m [1,2,3,4,5,6,7] Z (H':=V7 ..) Z ?_))))
 refine Q1a (_,aG + 1,Q61 ltB cQ true aZ) (Nat.lt_succ_self _) hE [18,17,16,5,0,1] Z (asK [0] Z) Z
 replace hm:=Q1y hm cE
 refine Q5 [0,1] (S':=[_,_]) Z (Q19 (Qc (Qc (Qt ?_))))
 have hE:=(Zi hm).symm
 replace hE:=QO hLu1 hE
 refine Q1m [2,3,4,5,6,0] Z (H':=V6 ..) Z ?_
 refine Qp () hE [0,1] Z (asK [0] Z) Z
 rintro _ hE
 try dsimp only
 have hm:=Q14 hLj_1 hE
 try dsimp only at hm
 refine Q6 (Q2 (wP Z (wP Z (wP Z (wF Z Q5W (wS 0 1 Z Q1X (all':=V4 ..) Z (H':=V6 ..) Z (wP Z (wF Z Q6b (wS 0 2 Z Q1X (all':=V4 ..) Z (H':=V6 ..) Z (Q3 (Q4 (Q5 [0,1] (S':=[_,_]) Z (Q6 ?_)))))))))))))
 refine Q2 (Q7I (Q1g (QQ Q2t)) false QW Z Z Z Zq Z (fun bK=>(wP Z (Q3 (Q4 (Q5 [8,0,1] (S':=V3 ..) Z (Q6 ?_)))))))
 obtain ⟨cX,hm,hLj_3⟩:=Q7 hm
 refine Q18 (σ:=(List (ByteArray × Bool)) × (List Q1) × (List Q1) × OA × Nat × Nat × OA × Nat × Nat) (fun (bD,a9,aA,aC,aD,aM,aE,aF,aN)=>cX = (bD,a9,aA)) (fun (bD,a9,aA,aC,aD,aM,aE,aF,aN)=>[(8,.map (some bK)),(0,.pointer (some ⟨b1,0,none⟩))]) (fun (bD,a9,aA,aC,aD,aM,aE,aF,aN)=>[tF]) (fun (bD,a9,aA,aC,aD,aM,aE,aF,aN)=>[Q2s (Q1g (QQ Q2t)) false QW bK bD,.blk b1 [.slice (some aW) aX aY,.slice aC aM aD,.slice aE aN aF,.map (some aH)] 66,.own 3 1 Qi (.slice (some aW) aX aY) l0,Q1l Qb 45 2 (.slice aC aM aD) a9,Q1l Qb 45 2 (.slice aE aN aF) aA,Q2s (Q1g (QQ Q2t)) false QW aH e3,.own 45 2 Q9 (.slice b2 b3 b4) l1,.own 45 2 Q9 (.slice b5 b6 b7) l2,Q1l Qb 45 2 (.slice bC bS aI) l4]) ?_ ?_
 refine Q6 (Q2 (wP Z (Q2o 6 Z (fun cY _=>?_))))
 subst cY
 refine wN Z QB (wP Z (Q3 (Q4 (Q5 [54,53,52,8,0] (S':=V5 ..) Z (Qm (wc_sh [Q1l Qb 45 2 (V1) [],_,_,_,_,_,_,_] (fun _ h=>h.treeNil Qb 45 2) (wc_sh [Q1l Qb 45 2 (V1) [],_,_,_,_,_,_,_,_] (fun _ h=>h.treeNil Qb 45 2) (Q6L [8,2,3,4,1,0,7,5,6] Z (H':=V9 ..) Z (Q1f (σ:=Nat × Nat × (List (ByteArray × Bool)) × (List Q1) × (List Q1) × OA × Nat × Nat × OA × Nat × Nat) (fun (c3,aB,aL,a0,a1,a3,a4,a5,a6,a7,a8)=>Q1o (Q2r N l4 e3) c3 (aB,aL,a0,a1) = some cX) (fun (c3,aB,aL,a0,a1,a3,a4,a5,a6,a7,a8)=>c3) (fun (c3,aB,aL,a0,a1,a3,a4,a5,a6,a7,a8)=>[(54,.int .i64 ((aB:Nat):Int)),(53,.int .i64 ((l4.length:Nat):Int)),(52,.slice bC l4.length aI),(8,.map (some bK)),(0,.pointer (some ⟨b1,0,none⟩))]) (fun (c3,aB,aL,a0,a1,a3,a4,a5,a6,a7,a8)=>[tF]) (fun (c3,aB,aL,a0,a1,a3,a4,a5,a6,a7,a8)=>[Q1l Qb 45 2 (.slice bC l4.length aI) l4,Q2s (Q1g (QQ Q2t)) false QW bK aL,.blk b1 [.slice (some aW) aX aY,.slice a3 a5 a4,.slice a6 a8 a7,.map (some aH)] 66,.own 3 1 Qi (.slice (some aW) aX aY) l0,Q1l Qb 45 2 (.slice a3 a5 a4) a0,Q1l Qb 45 2 (.slice a6 a8 a7) a1,Q2s (Q1g (QQ Q2t)) false QW aH e3,.own 45 2 Q9 (.slice b2 b3 b4) l1,.own 45 2 Q9 (.slice b5 b6 b7) l2]) (N,0,([] : List (ByteArray × Bool)),[],[],none,0,0,none,0,0) hm [54,53,52,8,0] Z (asK [0] Z) Z (fun s_ hm=>?_))))))))))
 obtain ⟨c3,aB,aL,a0,a1,a3,a4,a5,a6,a7,a8⟩:=s_
 try dsimp only at hm ⊢
 obtain ⟨e6,e7,dF,hq,hLu2⟩:=Q1d hm
 clear hm
 subst dF
 replace hm:=hq
 clear hq
 unfold Q2r at hm
 try dsimp only at hm
 refine Q6 (Q2 (wP Z (Qz (d:=55) (v':=.bool (decide (aB < l4.length))) (S':=V5 ..) Z Z (Q3f (a:=aB) (b:=l4.length)) (Q3 (Q4 (Q6 ?_))))))
 refine QA Z (fun cH=>?_) (fun cH=>?_)
 replace hm:=Q1z hm cH
 refine Q5 [54,53,52,8,0] (S':=V5 ..) Z (Qs (Q4 (Q6 ?_)))
 obtain ⟨dG,hm,hLj_4⟩:=Q7 hm
 unfold Q5R at hm
 refine Q18 (σ:=(List (ByteArray × Bool)) × (List Q1) × (List Q1) × OA × Nat × Nat × OA × Nat × Nat) (fun (b9,aO,aP,aQ,aR,aS,aT,aU,aV)=>dG = (b9,aO,aP)) (fun (b9,aO,aP,aQ,aR,aS,aT,aU,aV)=>[(54,.int .i64 ((aB:Nat):Int)),(53,.int .i64 ((l4.length:Nat):Int)),(52,.slice bC l4.length aI),(8,.map (some bK)),(0,.pointer (some ⟨b1,0,none⟩))]) (fun (b9,aO,aP,aQ,aR,aS,aT,aU,aV)=>[tF]) (fun (b9,aO,aP,aQ,aR,aS,aT,aU,aV)=>[Q1l Qb 45 2 (.slice bC l4.length aI) l4,Q2s (Q1g (QQ Q2t)) false QW bK b9,.blk b1 [.slice (some aW) aX aY,.slice aQ aS aR,.slice aT aV aU,.map (some aH)] 66,.own 3 1 Qi (.slice (some aW) aX aY) l0,Q1l Qb 45 2 (.slice aQ aS aR) aO,Q1l Qb 45 2 (.slice aT aV aU) aP,Q2s (Q1g (QQ Q2t)) false QW aH e3,.own 45 2 Q9 (.slice b2 b3 b4) l1,.own 45 2 Q9 (.slice b5 b6 b7) l2]) ?_ ?_
 refine Qm (Q6 (Q2 (Q46 0 Z (fun bA c4=>?_))))
 obtain ⟨a2,dH,hm⟩:=Q7 hm
 obtain ⟨aK,bM⟩:=zip_at c4 dH
 refine Q2E 1 aB Z Z Z Zq Z Z Z Z Z (Qw bM) QB Qe (fun c5 dI=>?_)
 subst dI
 refine Q2x [.own 3 1 Qi (.slice aK.1 a2.ids.length aK.2) a2.ids,Q2j Qb bA (some aB),_,_,_,_,_,_,_,_,_] (fun _ h=>h.bagOpen 0 aB Z bM) (Qk Q7z 2 aB 0 Z Z Z Zq Z Z Z bM Qe QS (v:=fun _=>.agg #[.int .i64 (a2.rule),.slice aK.1 a2.ids.length aK.2]) (fun _=>Z) (fun _=>Z) (fun _ _=>(Q25 Z Z Z Zq Z Q42 Z (fun cI=>(wS 0 0 Z Qe (all':=[_,_]) Z (H':=V12 ..) Z (Q3 (Q4 (Q5 [10,54,53,52,8,0] (S':=V6 ..) Z (Q6 (Q6 (Q2 (Q1V 0 0 Z Z Z Zq Z Z Z (cs:=[_,_]) Z Qe QS Z Z ?_))))))))))))
 obtain ⟨c6,dJ,hm⟩:=Q7 hm
 refine Q2k [] [0,1,2,3,4,5,6,7,8,9,10,11] [1] Z Z Z Zq Z Z fn_42 Z (Q3U N a2.rule aK.1 aK.2 a2.ids _ dJ) (fun F w hφ hh=>(Qh (Q1n (hh _ (Qu (k:=0) Z))) (Qh (hφ _ (Qu (k:=0) Z)) Qv))) (fun _ _ _ hR=>by obtain ⟨rfl,rfl,rfl⟩:=hR; exact ⟨Z,(fun _ h=>Q1O h)⟩) Z Z (H':=V12 ..) Z ?_
 rintro _ _ _ ⟨rfl,rfl,rfl⟩
 refine wP Z (Q3 (Q4 (Q5 [11,10,54,53,52,8,0] (S':=V7 ..) Z (Q6 ?_))))
 obtain ⟨dK,hm,hLj_5⟩:=Q7 hm
 refine Q18 (σ:=Bool) (fun bJ=>dK = bJ) (fun bJ=>[(11,.string c6),(10,.pointer (some ⟨cI,0,none⟩)),(54,.int .i64 ((aB:Nat):Int)),(53,.int .i64 ((l4.length:Nat):Int)),(52,.slice (some ⟨c5,0,none⟩) l4.length aI),(8,.map (some bK)),(0,.pointer (some ⟨b1,0,none⟩)),(65,.bool bJ)]) (fun bJ=>[tF]) (fun bJ=>[.blk cI [.int .i64 (a2.rule),.slice aK.1 a2.ids.length aK.2] 45,.own 3 1 Qi (.slice aK.1 a2.ids.length aK.2) a2.ids,.own 45 2 Qb.pair (.slice (some ⟨c5,0,none⟩) l4.length aI) bA,Q2s (Q1g (QQ Q2t)) false QW bK aL,.blk b1 [.slice (some aW) aX aY,.slice a3 a5 a4,.slice a6 a8 a7,.map (some aH)] 66,.own 3 1 Qi (.slice (some aW) aX aY) l0,Q1l Qb 45 2 (.slice a3 a5 a4) a0,Q1l Qb 45 2 (.slice a6 a8 a7) a1,Q2s (Q1g (QQ Q2t)) false QW aH e3,Q2j Qb bA (some aB),.own 45 2 Q9 (.slice b2 b3 b4) l1,.own 45 2 Q9 (.slice b5 b6 b7) l2]) ?_ ?_
 refine Q2 (wP Z (wP Z (wF Z Q9H (wD 5 3 Z tS_64 tA_64 Z (wP Z ?_)))))
 rcases Qab hm with ⟨cJ,hm⟩ | ⟨cR,cJ,hm⟩
 refine Q9L (i:=c6) 9 Z Z Z Zq Z Z Z Z tZ_4 Q8I trivial cJ (v:=.bool false) Z (Q3 ?_)
 have hE:=(Zi hm).symm
 refine Q1m [0,1,3,4,5,6,7,8,9,2,10,11] Z (H':=V12 ..) Z ?_
 refine Qp false hE [11,10,54,53,52,8,0,65] Z (asK [0] Z) Z
 refine Q98 (i:=c6) (a:=cR) Q56 9 Z Z Z Zq Z Z Z Z Q8I trivial cJ (u:=fun _=>.bool cR) (fun _=>Z) (v:=fun _=>.bool cR) (fun _=>Z) (fun _ _=>(Q3 ?_))
 have hE:=(Zi hm).symm
 refine Q1m [0,1,3,4,5,6,7,8,9,2,10,11] Z (H':=V12 ..) Z ?_
 refine Qp cR hE [11,10,54,53,52,8,0,65] Z (asK [0] Z) Z
 rintro bJ hE
 try dsimp only
 have hm:=hLj_5
 try rw [hE] at hm
 refine QA Z (fun cK=>?_) (fun cK=>?_)
 replace hm:=Q1z hm cK
 refine Q5 [11,10,54,53,52,8,0] (S':=V7 ..) Z (Q6 (Q2 (wP Z (wP Z (Q7C (i:=c6) (u:=true) (cs:=[.bool true]) ltB 3 Z Z (.inl Z) Z Z Z Z Q8I trivial Z (fun F w hφ=>⟨(),Z,Qv⟩) (H':=[.blk cI [.int .i64 (a2.rule),.slice aK.1 a2.ids.length aK.2] 45,.own 3 1 Qi (.slice aK.1 a2.ids.length aK.2) a2.ids,.own 45 2 Qb.pair (.slice (some ⟨c5,0,none⟩) l4.length aI) bA,Q2s (Q1g (QQ Q2t)) false QW bK (Q61 ltB c6 true aL),.blk b1 [.slice (some aW) aX aY,.slice a3 a5 a4,.slice a6 a8 a7,.map (some aH)] 66,.own 3 1 Qi (.slice (some aW) aX aY) l0,Q1l Qb 45 2 (.slice a3 a5 a4) a0,Q1l Qb 45 2 (.slice a6 a8 a7) a1,Q2s (Q1g (QQ Q2t)) false QW aH e3,Q2j Qb bA (some aB),.own 45 2 Q9 (.slice b2 b3 b4) l1,.own 45 2 Q9 (.slice b5 b6 b7) l2]) Z (Q3 (Q4 (Q5 [10,54,53,52,8,0] (S':=V6 ..) Z (Q6 ?_)))))))))
 obtain ⟨_,dL,hm⟩:=Q7 hm
 try dsimp only at hm
 obtain ⟨dM,hm⟩:=Qd hm
 refine QV [0,1,2,3,4,5,9,10] Z Z (fun hok=>(xP hok 0 Z (xP hok 1 Z (xP hok 2 Z (Ql hok 3 Z Z Z Zq Z Z Z Q6b (Qq hok 4 4 2 Z Z Z Zq Z Z Z Z (cs:=[_]) Z Q1X Q3D Z Z (Qq hok 5 0 0 Z Z Z Zq Z Z Z Z (cs:=[_,_]) Z Qe QS Z Z (xS hok 6 Z (Q2k [] [0,1,2,3,4,5,6,7,8,9,10,11] [1] Z Z Z Zq Z Z fn_33 Z (Q5d N a2.rule aK.1 aK.2 a2.ids dL) (fun F w hφ hh=>(Qh (Q1n (hh _ (Qu (k:=0) Z))) (Qh (hφ _ (Qu (k:=0) Z)) Qv))) (fun _ _ _ hR=>by obtain ⟨_,_,rfl,rfl,rfl⟩:=hR; exact ⟨Z,(Q7d (Q7N Q6I) (fun _ h=>Q1O h))⟩) Z Z (H':=V12 ..) Z ?_)))))))))
 rintro _ _ _ ⟨bE,bF,rfl,rfl,rfl⟩
 refine Q3 (Qy [0] [5] Z Z (xS hok 7 Z (QE Z Z Z Zq Z QB Qe Q42 Z (zs:=[.int .i64 0,V1]) (by kernel_rfl) Z (out:=[_,_]) Z (fun e8=>(Q3 (Qy [0] [2,6] Z Z (xS hok 8 Z (Q2o 9 Z (fun cZ _=>?_)))))))))
 subst cZ
 refine Q46 9 Z (fun bN cL=>?_)
 have c7:List.map (fun x:Q1 × (OA × Nat)=>x.1) (bN ++ [(a2,(bE,bF))]) = a1 ++ [a2]:=Q88 cL (us:=[a2]) rfl
 have cM:bN.length + ([(a2,(bE,bF))] : List (Q1 × (OA × Nat))).length ≤ 4398046511104:=by rw [Q3g cL]; exact dM
 refine Q2w (R:=Qb.pair) ([(a2,(bE,bF))]) 10 1 Z Z Z Zq Z Z Z Z Z (fun F w hφ=>⟨[.int .i64 (a2.rule),.slice bE a2.ids.length bF],[],Z,Z,Z,Z⟩) QB Q7P Z Z (Nat.le_trans cM (by decide)) (Nat.le_trans (Nat.mul_le_mul_right _ cM) (by decide)) (H2:=fun bW bX=>[_,_,_,_,_,_,_,_,_,_,.own 45 2 Qb.pair (.slice bW ((bN ++ [(a2,(bE,bF))]).length) bX) (bN ++ [(a2,(bE,bF))]),_,_,_,_]) (fun _ _=>Z) (fun bW bX=>(Q3E 1 Z (H':=V14 ..) Z (Qz (d:=76) (v':=.slice bW ((a1 ++ [a2]).length) bX) (S':=V14 ..) Z Z (by rw [Q3g c7]) (Q28 9 (φ':=.own 45 2 Qb.pair (.slice bW ((a1 ++ [a2]).length) bX) (bN ++ [(a2,(bE,bF))])) Z (by rw [Q3g c7]) (H':=V14 ..) Z (Q55 [1,0,2,3,4,5,6,7,8,9,10,11,12,13] Z (H':=V14 ..) Z (Q2x [Q2j Qb (bN ++ [(a2,(bE,bF))]) none,_,_,_,_,_,_,_,_,_,_,_,_] (fun _ h=>QY.bagPush (T:=Qb) (x:=a2) (r:=(bE,bF)) (zs:=bN) (H:=V13 ..) h 0 Z) (Q2x [_,_,_,_,_,_,_,Q1l Qb 45 2 (.slice bW ((a1 ++ [a2]).length) bX) (a1 ++ [a2]),_,_,_,_] (fun _ h=>h.treeIn 8 0 Z Z Z c7) (Q3 (Qy [0] [0] Z Z (xP hok 9 Z (Ql hok 10 Z Z Z Zq Z Z Z Q6b (xS hok 11 Z (wS 4 2 Z Q1X (all':=V4 ..) Z (H':=V12 ..) Z (Q3 ?_))))))))))))))
 refine Qy [0] [] Z Z (QL hok Z (Q4 (Q5 [54,53,52,8,0] (S':=V5 ..) Z (Q19 (Qc (Qt ?_))))))
 have hE:=(Zi hm).symm
 refine Q1m [1,0,2,3,4,5,6,7,8,9,10,11] Z (H':=V12 ..) Z (Q6F [_,_,_,_,_,_,_,_,Q2j Qb (bA.set aB (a2,aK)) none,_,_] (fun _ h=>QY.bagClose (T:=Qb) (x:=a2) (r:=aK) (i:=aB) (zs:=bA) (H:=V11 ..) h 8 Z) (Q9k 8 (φ':=Q2j Qb bA none) Z (by rw [Q8a bM]) (H':=[.blk cI [.int .i64 (a2.rule),.slice aK.1 a2.ids.length aK.2] 45,.own 45 2 Qb.pair (.slice (some ⟨c5,0,none⟩) l4.length aI) bA,Q2s (Q1g (QQ Q2t)) false QW bK (Q61 ltB c6 true aL),.blk b1 [.slice (some aW) aX aY,.slice a3 a5 a4,.slice bW ((a1 ++ [a2]).length) bX,.map (some aH)] 66,.own 3 1 Qi (.slice (some aW) aX aY) l0,Q1l Qb 45 2 (.slice a3 a5 a4) a0,Q1l Qb 45 2 (.slice bW ((a1 ++ [a2]).length) bX) (a1 ++ [a2]),Q2s (Q1g (QQ Q2t)) false QW aH e3,Q2j Qb bA none,.own 45 2 Q9 (.slice b2 b3 b4) l1,.own 45 2 Q9 (.slice b5 b6 b7) l2]) Z (Q6F [_,Q1l Qb 45 2 (.slice (some ⟨c5,0,none⟩) l4.length aI) l4,_,_,_,_,_,_,_,_] (fun _ h=>h.treeIn 1 8 Z Z Z c4) (Q1m [1,2,3,4,5,6,7,8,9] Z (H':=V9 ..) Z ?_))))
 refine Qp (Q61 ltB c6 true aL,a0,a1 ++ [a2],a3,a4,a5,bW,bX,(a1 ++ [a2]).length) hE [54,53,52,8,0] Z (asK [0] Z) Z
 replace hm:=Q1y hm cK
 refine Q5 [10,54,53,52,8,0] (S':=V6 ..) Z (Qs (Q4 ?_))
 obtain ⟨_,dN,hm⟩:=Q7 hm
 try dsimp only at hm
 obtain ⟨dO,hm⟩:=Qd hm
 refine QV [0,1,2,3,4,5,9,10] Z Z (fun hok=>(xP hok 0 Z (xP hok 1 Z (xP hok 2 Z (Ql hok 3 Z Z Z Zq Z Z Z Q5W (Qq hok 4 4 1 Z Z Z Zq Z Z Z Z (cs:=[_]) Z Q1X Q3D Z Z (Qq hok 5 0 0 Z Z Z Zq Z Z Z Z (cs:=[_,_]) Z Qe QS Z Z (xS hok 6 Z (Q2k [] [0,1,2,3,4,5,6,7,8,9,10,11] [1] Z Z Z Zq Z Z fn_33 Z (Q5d N a2.rule aK.1 aK.2 a2.ids dN) (fun F w hφ hh=>(Qh (Q1n (hh _ (Qu (k:=0) Z))) (Qh (hφ _ (Qu (k:=0) Z)) Qv))) (fun _ _ _ hR=>by obtain ⟨_,_,rfl,rfl,rfl⟩:=hR; exact ⟨Z,(Q7d (Q7N Q6I) (fun _ h=>Q1O h))⟩) Z Z (H':=V12 ..) Z ?_)))))))))
 rintro _ _ _ ⟨bG,bH,rfl,rfl,rfl⟩
 refine Q3 (Qy [0] [5] Z Z (xS hok 7 Z (QE Z Z Z Zq Z QB Qe Q42 Z (zs:=[.int .i64 0,V1]) (by kernel_rfl) Z (out:=[_,_]) Z (fun e9=>(Q3 (Qy [0] [2,6] Z Z (xS hok 8 Z (Q2o 8 Z (fun d0 _=>?_)))))))))
 subst d0
 refine Q46 8 Z (fun bO cN=>?_)
 have c8:List.map (fun x:Q1 × (OA × Nat)=>x.1) (bO ++ [(a2,(bG,bH))]) = a0 ++ [a2]:=Q88 cN (us:=[a2]) rfl
 have cO:bO.length + ([(a2,(bG,bH))] : List (Q1 × (OA × Nat))).length ≤ 4398046511104:=by rw [Q3g cN]; exact dO
 refine Q2w (R:=Qb.pair) ([(a2,(bG,bH))]) 9 1 Z Z Z Zq Z Z Z Z Z (fun F w hφ=>⟨[.int .i64 (a2.rule),.slice bG a2.ids.length bH],[],Z,Z,Z,Z⟩) QB Q7P Z Z (Nat.le_trans cO (by decide)) (Nat.le_trans (Nat.mul_le_mul_right _ cO) (by decide)) (H2:=fun bY bZ=>[_,_,_,_,_,_,_,_,_,.own 45 2 Qb.pair (.slice bY ((bO ++ [(a2,(bG,bH))]).length) bZ) (bO ++ [(a2,(bG,bH))]),_,_,_,_,_]) (fun _ _=>Z) (fun bY bZ=>(Q3E 1 Z (H':=V14 ..) Z (Qz (d:=87) (v':=.slice bY ((a0 ++ [a2]).length) bZ) (S':=V14 ..) Z Z (by rw [Q3g c8]) (Q28 8 (φ':=.own 45 2 Qb.pair (.slice bY ((a0 ++ [a2]).length) bZ) (bO ++ [(a2,(bG,bH))])) Z (by rw [Q3g c8]) (H':=V14 ..) Z (Q55 [1,0,2,3,4,5,6,7,8,9,10,11,12,13] Z (H':=V14 ..) Z (Q2x [Q2j Qb (bO ++ [(a2,(bG,bH))]) none,_,_,_,_,_,_,_,_,_,_,_,_] (fun _ h=>QY.bagPush (T:=Qb) (x:=a2) (r:=(bG,bH)) (zs:=bO) (H:=V13 ..) h 0 Z) (Q2x [_,_,_,_,_,_,Q1l Qb 45 2 (.slice bY ((a0 ++ [a2]).length) bZ) (a0 ++ [a2]),_,_,_,_,_] (fun _ h=>h.treeIn 7 0 Z Z Z c8) (Q3 (Qy [0] [0] Z Z (xP hok 9 Z (Ql hok 10 Z Z Z Zq Z Z Z Q5W (xS hok 11 Z (wS 4 1 Z Q1X (all':=V4 ..) Z (H':=V12 ..) Z (Q3 ?_))))))))))))))
 refine Qy [0] [] Z Z (QL hok Z (Qj ?_))
 have hE:=(Zi hm).symm
 refine Q1m [1,0,2,3,4,5,6,7,8,9,10,11] Z (H':=V12 ..) Z (Q6F [_,_,_,_,_,_,_,_,Q2j Qb (bA.set aB (a2,aK)) none,_,_] (fun _ h=>QY.bagClose (T:=Qb) (x:=a2) (r:=aK) (i:=aB) (zs:=bA) (H:=V11 ..) h 8 Z) (Q9k 8 (φ':=Q2j Qb bA none) Z (by rw [Q8a bM]) (H':=[.blk cI [.int .i64 (a2.rule),.slice aK.1 a2.ids.length aK.2] 45,.own 45 2 Qb.pair (.slice (some ⟨c5,0,none⟩) l4.length aI) bA,Q2s (Q1g (QQ Q2t)) false QW bK aL,.blk b1 [.slice (some aW) aX aY,.slice bY ((a0 ++ [a2]).length) bZ,.slice a6 a8 a7,.map (some aH)] 66,.own 3 1 Qi (.slice (some aW) aX aY) l0,Q1l Qb 45 2 (.slice bY ((a0 ++ [a2]).length) bZ) (a0 ++ [a2]),Q1l Qb 45 2 (.slice a6 a8 a7) a1,Q2s (Q1g (QQ Q2t)) false QW aH e3,Q2j Qb bA none,.own 45 2 Q9 (.slice b2 b3 b4) l1,.own 45 2 Q9 (.slice b5 b6 b7) l2]) Z (Q6F [_,Q1l Qb 45 2 (.slice (some ⟨c5,0,none⟩) l4.length aI) l4,_,_,_,_,_,_,_,_] (fun _ h=>h.treeIn 1 8 Z Z Z c4) (Q1m [1,2,3,4,5,6,7,8,9] Z (H':=V9 ..) Z ?_))))
 refine Qp (aL,a0 ++ [a2],a1,bY,bZ,(a0 ++ [a2]).length,a6,a7,a8) hE [54,53,52,8,0] Z (asK [0] Z) Z
 rintro ⟨b9,aO,aP,aQ,aR,aS,aT,aU,aV⟩ hE
 try dsimp only
 have hm:=hLj_4
 try rw [hE] at hm
 try dsimp only at hm
 refine Q2 (wP Z ?_)
 obtain ⟨dP,hm⟩:=Qd hm
 refine Qz (d:=90) (v':=.int .i64 ((aB + 1:Nat):Int)) (S':=V5 ..) Z Z (Q1i (a:=aB) (b:=1) dP) (QI (S':=V5 ..) Z Z Z Z Z (Q3 ?_))
 have hE:=(Zi hm).symm
 replace hE:=Q14 hLu2 hE
 refine Q1a (_,aB + 1,b9,aO,aP,aQ,aR,aS,aT,aU,aV) (Nat.lt_succ_self _) hE [54,53,52,8,0] Z (asK [0] Z) Z
 replace hm:=Q1y hm cH
 refine Q5 [8,0] (S':=[_,_]) Z (Q19 (Qc (Qc (Qt ?_))))
 have hE:=(Zi hm).symm
 replace hE:=QO hLu2 hE
 refine Q1m [1,2,3,4,5,6,7,8,0] Z (H':=V9 ..) Z ?_
 refine Qp (aL,a0,a1,a3,a4,a5,a6,a7,a8) hE [8,0] Z (asK [0] Z) Z
 rintro ⟨bD,a9,aA,aC,aD,aM,aE,aF,aN⟩ hE
 try dsimp only
 have hm:=hLj_3
 try rw [hE] at hm
 try dsimp only at hm
 refine Q6 (Q2 (wP Z (wP Z (wP Z (wF Z Q9H (wS 1 3 Z tS_64 (all':=V4 ..) Z (H':=V9 ..) Z (Q3 (Q4 (Q5 [0] (S':=[_]) Z (Q6 ?_))))))))))
 obtain ⟨⟨cS,cT⟩,d1,hm⟩:=Q7 hm
 try dsimp only at hm
 obtain ⟨cA,hm⟩:=Qd hm
 refine QV [0,1,2,3,4,5,6,7] Z Z (fun hok=>(xP hok 0 Z (xP hok 1 Z (Ql hok 2 Z Z Z Zq Z Z Z Q5W (Qq hok 3 1 1 Z Z Z Zq Z Z Z Z (cs:=[_]) Z Q1X Q3D Z Z (xP hok 4 Z (xP hok 5 Z (Ql hok 6 Z Z Z Zq Z Z Z Q6j (Qq hok 7 1 0 Z Z Z Zq Z Z Z Z (cs:=[_]) Z Q8d Q8c Z Z (xS hok 8 Z (Q6M Z Z Z Zq Z Z Z (Q3 (Qy [0] [1] Z Z (xS hok 9 Z ?_))))))))))))))
 refine Q2x [_,_,_,.own 45 2 Q9 (.slice aC aM aD) a9,_,_,_,_,_] (fun _ h=>h.letgo Q4B 3 Z) (QK 3 Z (fun bQ _=>?_))
 subst bQ
 refine wC [3,2] [0,1,4,5,6,7,8] Z fn_43 Z (Q2J N aC a9.length aD a9 aW aX aY l0 _ _ d1) (asK [0] Z) Z (H':=V7 ..) Z ?_
 rintro _ _ _ ⟨dQ,rfl,rfl,rfl⟩
 refine QK 0 Z (fun cB _=>?_)
 subst cB
 refine Q28 0 (φ':=.own 45 2 Q9 (.slice aC a9.length aD) cS) Z (by rw [cA]) (H':=V9 ..) Z (Q3 (Qy [0] [3] Z Z (QL hok Z (Q4 (Q5 [0] (S':=[_]) Z (Q6 ?_))))))
 obtain ⟨⟨cU,dR⟩,d2,hm⟩:=Q7 hm
 try dsimp only at hm
 obtain ⟨cC,hm⟩:=Qd hm
 refine QV [0,1,2,3,4,5,6,7] Z Z (fun hok=>(xP hok 0 Z (xP hok 1 Z (Ql hok 2 Z Z Z Zq Z Z Z Q6b (Qq hok 3 3 2 Z Z Z Zq Z Z Z Z (cs:=[_]) Z Q1X Q3D Z Z (xP hok 4 Z (xP hok 5 Z (Ql hok 6 Z Z Z Zq Z Z Z Q6j (Qq hok 7 3 0 Z Z Z Zq Z Z Z Z (cs:=[_]) Z Q8d Q8c Z Z (xS hok 8 Z (Q6M Z Z Z Zq Z Z Z (Q3 (Qy [0] [3] Z Z (xS hok 9 Z ?_))))))))))))))
 refine Q2x [_,_,_,_,.own 45 2 Q9 (.slice aE aN aF) aA,_,_,_,_] (fun _ h=>h.letgo Q4B 4 Z) (QK 4 Z (fun bR _=>?_))
 subst bR
 refine wC [4,1] [0,2,3,5,6,7,8] Z fn_43 Z (Q2J N aE aA.length aF aA aW aX aY cT _ _ d2) (asK [0] Z) Z (H':=V7 ..) Z ?_
 rintro _ _ _ ⟨dS,rfl,rfl,rfl⟩
 refine QK 0 Z (fun cD _=>?_)
 subst cD
 refine Q28 0 (φ':=.own 45 2 Q9 (.slice aE aA.length aF) cU) Z (by rw [cC]) (H':=V9 ..) Z (Q3 (Qy [0] [4] Z Z (QL hok Z (Q4 (Q5 [] (S':=[]) Z (Q6 (Q2 (wP Z (Q3 (Q4 (QP ?_)))))))))))
 have hE:=(Zi hm).symm
 obtain ⟨hE0,hF1⟩:=Prod.mk.inj hE
 obtain ⟨hE1,hF2⟩:=Prod.mk.inj hF1
 obtain ⟨hE2,hF3⟩:=Prod.mk.inj hF2
 obtain ⟨hE3,hE4⟩:=Prod.mk.inj hF3
 clear hE hF1 hF2 hF3
 replace hE0:=hE0.symm
 subst hE0
 replace hE1:=hE1.symm
 subst hE1
 replace hE2:=hE2.symm
 subst hE2
 replace hE3:=hE3.symm
 subst hE3
 replace hE4:=hE4.symm
 subst hE4
 refine QH (Hr:=V6 ..) [4,1,2,0,3,8] Tryz.results21 (QD Z) ⟨aC,aD,a9.length,aE,aF,aA.length,bK,Z,Z,Z⟩ (asK [] Z) Z Z (.inl Z)
theorem Q5c (N:Nat) (aD:Nat) (a1:Addr) (a2:Nat) (a3:Nat) (l0:List Int) (a4:OA) (a5:Nat) (a6:Nat) (l1:List Q1) (a7:OA) (a8:Nat) (a9:Nat) (l2:List Q1) (a0:Nat) (e3:List (ByteArray × Bool)) (o0:Int) (o3:List Int) (o5:Bool) (hm:Q2g N l0 l1 l2 e3 = some (o0,o3,o5)):Q1R Tryz.prog 11 [.pointer (some ⟨aD,0,none⟩)] [tF] [.blk aD [.slice (some a1) a2 a3,.slice a4 a5 a6,.slice a7 a8 a9,.map (some a0)] 66,.own 3 1 Qi (.slice (some a1) a2 a3) l0,.own 45 2 Q9 (.slice a4 a5 a6) l1,.own 45 2 Q9 (.slice a7 a8 a9) l2,Q2s (Q1g (QQ Q2t)) false QW a0 e3] (fun v Φr Hr=>∃ (o1:OA) (o2:Nat) (o4:Nat),v = .tuple #[.agg #[.int .i64 o0,.slice o1 o4 o2],.bool o5] ∧ Φr = [] ∧ Hr = [.own 3 1 Qi (.slice o1 o4 o2) o3,.blk aD [.slice (some a1) a2 a3,.slice a4 a5 a6,.slice a7 a8 a9,.map (some a0)] 66,.own 3 1 Qi (.slice (some a1) a2 a3) l0,.own 45 2 Q9 (.slice a4 a5 a6) l1,.own 45 2 Q9 (.slice a7 a8 a9) l2,Q2s (Q1g (QQ Q2t)) false QW a0 e3]):=by
 unfold Q2g at hm
 refine QZ Tryz.func11 Z Tryz.ntmps11 Z (S:=[_]) Z (fun C=>(Q6 (Q2 (Q25 Z Z Z Zq Z Q42 Z (fun g2=>(wP Z (Q3 (Q4 (Q5 [2,0] (S':=[_,_]) Z (Q6 (Q6 (Q2 (wP Z ?_)))))))))))))
 obtain ⟨_,aL,hm⟩:=Q7 hm
 try dsimp only at hm
 refine wC [1,2,3,4,5] [0] Z fn_32 Z (Q3B N aD a1 a2 a3 l0 a4 a5 a6 l1 a7 a8 a9 l2 a0 e3 aL) (asK [0] Z) Z (H':=[_]) Z ?_
 rintro _ _ _ ⟨rfl,rfl,rfl⟩
 refine wP Z (wP Z (wP Z (wP Z (wF Z Q5W (wD 0 1 Z Q1X Q3D Z (QK 2 Z (fun aH _=>(wN Z QB (Qz (d:=12) (v':=.int .i64 ((l1.length:Nat):Int)) (S':=V10 ..) Z Z (Q4A aH) (wP Z (Qz (d:=13) (v':=.bool (l1.length == 0)) (S':=V11 ..) Z Z (nateq (a:=l1.length) (b:=0)) (wP Z (Q3 (Q4 ?_))))))))))))))
 refine Q5 [14,2,0] (S':=V3 ..) Z ?_
 refine QA Z (fun aA=>?_) (fun aA=>?_)
 replace hm:=Q1z hm aA
 refine Q5 [2] (S':=[_]) Z (Q6 (Q2 (Q7w Z Z Z Zq Z Q42 tP_45 Z (out:=[_,_]) Z (wS 5 0 Z Qe (all':=[_,_]) Z (H':=V6 ..) Z (wP Z (Q3 (Q4 (Q5 [3,2] (S':=[_,_]) Z (QP (Qn ?_))))))))))
 have hE:=(Zi hm).symm
 obtain ⟨hE0,hF1⟩:=Prod.mk.inj hE
 obtain ⟨hE1,hE2⟩:=Prod.mk.inj hF1
 clear hE hF1
 replace hE0:=hE0.symm
 subst hE0
 replace hE1:=hE1.symm
 subst hE1
 replace hE2:=hE2.symm
 subst hE2
 refine we_rowNil 3 1 Qi ?_
 refine Q7e (Hr:=V6 ..) [0,1,2,3,4,5] Tryz.results11 (Q5D 6 Z Z Qe QS Z Z) (QD Z) ⟨none,0,0,Z,Z,Z⟩ (asK [] Z) Z Z (.inl Z)
 replace hm:=Q1y hm aA
 refine Q5 [2,0] (S':=[_,_]) Z (Qs (Q4 (Q6 (Q2 (wP Z (wP Z (wF Z Q5W (wD 0 1 Z Q1X Q3D Z ?_))))))))
 obtain ⟨aB,aE,hm⟩:=Q7 hm
 refine Q2E 2 0 Z Z Z Zq Z Z Z Z Z (Qw aE) QB Qe (fun aS aI=>?_)
 subst aI
 refine Qk Qa 2 0 0 Z Z Z Zq Z Z Z aE Qe QS (v:=fun aC=>.agg #[.int .i64 (aB.rule),.slice aC.1 aB.ids.length aC.2]) (fun _=>Z) (fun _=>Z) (fun aC _=>?_)
 obtain ⟨_,aJ,hm⟩:=Q7 hm
 try dsimp only at hm
 refine wC [] [0,1,2,3,4,5] Z fn_33 Z (Q5d N aB.rule aC.1 aC.2 aB.ids aJ) (asK [0,1] Z) Z (H':=V6 ..) Z ?_
 rintro _ _ _ ⟨aF,aG,rfl,rfl,rfl⟩
 refine wS 6 0 Z Qe (all':=[_,_]) Z (H':=V7 ..) Z (wP Z (Q3 (Q4 (Q5 [3,2] (S':=[_,_]) Z (QP ?_)))))
 have hE:=(Zi hm).symm
 obtain ⟨hE0,hF1⟩:=Prod.mk.inj hE
 obtain ⟨hE1,hE2⟩:=Prod.mk.inj hF1
 clear hE hF1
 replace hE0:=hE0.symm
 subst hE0
 replace hE1:=hE1.symm
 subst hE1
 replace hE2:=hE2.symm
 subst hE2
 refine Q7e (Hr:=V6 ..) [0,1,2,3,4,5] Tryz.results11 (Q5D 6 Z Z Qe QS Z Z) (QD Z) ⟨aF,aG,aB.ids.length,Z,Z,Z⟩ (asK [] Z) Z Z (.inl Z)
theorem Q7t (N:Nat) (a6:OA) (a7:Nat) (l0:List Int) (a8:OA) (a9:Nat) (l1:List Int) (o0:Bool) (hm:Q3N N l0 l1 = some o0):Q1R Tryz.prog 35 [.slice a6 l0.length a7,.slice a8 l1.length a9] [.sli 1 Qi a6 a7 l0,.sli 1 Qi a8 a9 l1] [] (fun v Φr Hr=>v = .bool o0 ∧ Φr = [] ∧ Hr = []):=by
 unfold Q3N at hm
 refine QZ Tryz.func35 Z Tryz.ntmps35 Z (S:=[_,_]) Z (fun C=>(Q6 (Q2 (wP Z (Q3 (Q4 (Q5 [0,1] (S':=[_,_]) Z (Q6 (Q6 (Q2 (wP Z (wN Z Q1j (wP Z (wN Z Q1j ?_))))))))))))))
 refine wP Z (Qz (d:=10) (v':=.bool (l0.length != l1.length)) (S':=V6 ..) Z Z (natne (a:=l0.length) (b:=l1.length)) (Q3 (Q4 (Q5 [10,0,1] (S':=V3 ..) Z ?_))))
 refine QA Z (fun a2=>?_) (fun a2=>?_)
 replace hm:=Q1z hm a2
 refine Q5 [] (S':=[]) Z (Q6 (Q2 (wP Z (Q3 (Q4 (QP (Qn ?_)))))))
 have hE:=(Zi hm).symm
 replace hE:=hE.symm
 subst hE
 refine QH (Hr:=[]) [] Tryz.results35 (QD Z) ⟨Z,Z,Z⟩ (asK [] Z) Z Z (.inl Z)
 replace hm:=Q1y hm a2
 refine Q5 [0,1] (S':=[_,_]) Z (Qs (Q4 (Q6 ?_)))
 obtain ⟨aA,hm,hLj_1⟩:=Q35 hm
 refine Q18 (σ:=Unit) (fun _=>aA = .inl ()) (fun _=>[]) (fun _=>[]) (fun _=>[]) ?_ ?_
 refine Q6 (Q2 (wP Z (Q3 (Q4 (Qm (Q1f (σ:=Nat × Nat) (fun (a1,a0)=>Q1o (Q3L N l0 l1) a1 a0 = some aA) (fun (a1,a0)=>a1) (fun (a1,a0)=>[(5,.int .i64 ((a0:Nat):Int)),(0,.slice a6 l0.length a7),(1,.slice a8 l1.length a9)]) (fun (a1,a0)=>[.sli 1 Qi a6 a7 l0,.sli 1 Qi a8 a9 l1]) (fun (a1,a0)=>[]) (N,0) hm [5,0,1] Z (asK [0,1] Z) Z (fun s_ hm=>?_)))))))
 obtain ⟨a1,a0⟩:=s_
 try dsimp only at hm ⊢
 obtain ⟨aM,aN,aB,hq,hLu1⟩:=Q1d hm
 clear hm
 subst aB
 replace hm:=hq
 clear hq
 unfold Q3L at hm
 try dsimp only at hm
 refine Q6 (Q6 (Q2 (wP Z (wP Z (wN Z Q1j (wP Z (Qz (d:=14) (v':=.bool (decide (a0 < l0.length))) (S':=V6 ..) Z Z (Q3f (a:=a0) (b:=l0.length)) (Q3 (Q4 (Q5 [14,5,0,1] (S':=V4 ..) Z ?_))))))))))
 refine QA Z (fun a3=>?_) (fun a3=>?_)
 replace hm:=Q1z hm a3
 refine Q5 [5,0,1] (S':=V3 ..) Z (Qs (Q4 (Q6 (Qm (Q6 ?_)))))
 obtain ⟨aO,aC,hm⟩:=Q7 hm
 obtain ⟨aP,aD,hm⟩:=Q7 hm
 refine QV [0,1,2,3,4,5,6,7,8] Z Z (fun hok=>(xP hok 0 Z (xP hok 1 Z (Q1Q hok 2 0 a0 Z Z Z Zq Z Z Z Z Z Z aC Q1j Q1w (fun aQ aR aK aH=>(Q2e Q1K 1 Z (fun aS aE _=>?_)))))))
 subst aE
 refine Q2Q hok 3 0 0 Z Z Z Zq Z Z Z Z (cs:=[_]) Z Q1w Q3z Z Z (xP hok 4 Z (xP hok 5 Z (Q1Q hok 6 3 a0 Z Z Z Zq Z Z Z Z Z Z aD Q1j Q1w (fun aT aU aL aI=>(Q2e Q1K 1 Z (fun aV aF _=>?_))))))
 subst aF
 refine Q2Q hok 7 0 0 Z Z Z Zq Z Z Z Z (cs:=[_]) Z Q1w Q3z Z Z (xP hok 8 Z (QL hok Z (Q4 (Q5 [25,5,0,1] (S':=V4 ..) Z ?_))))
 refine QA Z (fun a4=>?_) (fun a4=>?_)
 replace hm:=Q1z hm a4
 refine Q5 [] (S':=[]) Z (Q6 (Q2 (wP Z (Q3 (Q4 (QP (Q11 (Qn (Qn (Q11 (Qn ?_)))))))))))
 have hE:=(Zi hm).symm
 replace hE:=QO hLu1 hE
 replace hE:=QO hLj_1 hE
 replace hE:=hE.symm
 subst hE
 refine QH (Hr:=[]) [] Tryz.results35 (QD Z) ⟨Z,Z,Z⟩ (asK [] Z) Z Z (.inl Z)
 replace hm:=Q1y hm a4
 refine Q5 [5,0,1] (S':=V3 ..) Z (Qs (Qj (Q4 (Q2 (wP Z (wP Z ?_))))))
 obtain ⟨aG,hm⟩:=Qd hm
 refine Qz (d:=16) (v':=.int .i64 ((a0 + 1:Nat):Int)) (S':=V4 ..) Z Z (Q1i (a:=a0) (b:=1) aG) (QI (S':=V4 ..) Z Z Z Z Z (Q3 ?_))
 have hE:=(Zi hm).symm
 replace hE:=Q14 hLu1 hE
 refine Q1a (_,a0 + 1) (Nat.lt_succ_self _) hE [5,0,1] Z (asK [4,5] Z) Z
 replace hm:=Q1y hm a3
 refine Q5 [] (S':=[]) Z (Q19 (Qc (Qc (Qt ?_))))
 have hE:=(Zi hm).symm
 replace hE:=QO hLu1 hE
 refine Qp () hE [] Z (asK [] Z) Z
 rintro _ hE
 try dsimp only
 have hm:=Q14 hLj_1 hE
 try dsimp only at hm
 refine Q6 (Q2 (wP Z (Q3 (Q4 (QP ?_)))))
 have hE:=(Zi hm).symm
 replace hE:=hE.symm
 subst hE
 refine QH (Hr:=[]) [] Tryz.results35 (QD Z) ⟨Z,Z,Z⟩ (asK [] Z) Z Z (.inl Z)
theorem Q5l (N:Nat) (a0:Int) (qp0:OA) (qc1:Nat) (l1:List Int) (a2:Int) (qp2:OA) (qc3:Nat) (l3:List Int) (o0:Bool) (hm:Q2Y N a0 l1 a2 l3 = some o0):Q1R Tryz.prog 13 [.agg #[.int .i64 a0,.slice qp0 l1.length qc1],.agg #[.int .i64 a2,.slice qp2 l3.length qc3]] [.sli 1 Qi qp0 qc1 l1,.sli 1 Qi qp2 qc3 l3] [] (fun v Φr Hr=>v = .bool o0 ∧ Φr = [] ∧ Hr = []):=by
 unfold Q2Y at hm
 refine QZ Tryz.func13 Z Tryz.ntmps13 Z (S:=[_,_]) Z (fun C=>(Q6 (Q2 (wB Z (fun g2=>(wB Z (fun g3=>(wP Z (Q3 (Q4 (Q5 [3,2] (S':=[_,_]) Z (Q6 (Q2 (wF Z Q2L (wD 1 0 Z Q1w Q3z Z (wF Z Q2L ?_))))))))))))))))
 refine wD 0 0 Z Q1w Q3z Z (wP Z (wP Z ?_))
 refine Q5F (d:=10) (S':=V7 ..) Z Z (fun hs10=>?_) (fun hs10=>?_)
 replace hm:=Q1z hm hs10
 refine wF Z Q3u (wD 1 1 Z Q30 Q4R Z (wF Z Q3u (wD 0 1 Z Q30 Q4R Z ?_)))
 obtain ⟨v15,hc15,hm⟩:=Q7 hm
 refine wC [] [0,1] Z fn_35 Z (Q7t N qp0 qc1 l1 qp2 qc3 l3 _ hc15) (asK [0,1] Z) Z (H':=[_,_]) Z ?_
 rintro _ _ _ ⟨rfl,rfl,rfl⟩
 refine wP Z (wP Z (Q3 (Q4 (Q5 [4] (S':=[_]) Z (QP ?_)))))
 have hE:=(Zi hm).symm
 replace hE:=hE.symm
 subst hE
 refine QH (Hr:=[]) [] Tryz.results13 (QD Z) ⟨Z,Z,Z⟩ (asK [] Z) Z Z (.inl Z)
 replace hm:=Q1y hm hs10
 refine wO Z (wO Z (wO Z (wO Z (wO Z (wP Z (wP Z (Q3 (Q4 (Q5 [4] (S':=[_]) Z (QP ?_))))))))))
 have hE:=(Zi hm).symm
 replace hE:=hE.symm
 subst hE
 refine QH (Hr:=[]) [] Tryz.results13 (QD Z) ⟨Z,Z,Z⟩ (asK [] Z) Z Z (.inl Z)
end Go.Proofs.YtgangmegcejllaaGreatDoor
