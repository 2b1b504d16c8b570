import Derived.Test.YtgangmegcejllaaGreatDoorXW2
namespace Go.Proofs.YtgangmegcejllaaGreatDoor
open Go.RowKit
set_option maxRecDepth 100000
set_option maxHeartbeats 4000000
theorem Qa0 (N:Nat) (j:Nat) (f:Int)  (hm:Q6Y N f = some ()):Q1z Tryz.prog 175 [.pointer (some ⟨j,0,none⟩)] [tF] [.blk j [.int .u64 f] 305] (fun v Φr Hr=>v = .int .u64 (Q1A .xor .u64 (Q1A .xor .u64 (Q1A .xor .u64 f (IntKind.wrap .u64 (f * 2 ^ (13)))) (Int.fdiv (Q1A .xor .u64 f (IntKind.wrap .u64 (f * 2 ^ (13)))) (2 ^ (7)))) (IntKind.wrap .u64 ((Q1A .xor .u64 (Q1A .xor .u64 f (IntKind.wrap .u64 (f * 2 ^ (13)))) (Int.fdiv (Q1A .xor .u64 f (IntKind.wrap .u64 (f * 2 ^ (13)))) (2 ^ (7)))) * 2 ^ (17)))) ∧ Φr = [] ∧ Hr = [.blk j [.int .u64 (Q1A .xor .u64 (Q1A .xor .u64 (Q1A .xor .u64 f (IntKind.wrap .u64 (f * 2 ^ (13)))) (Int.fdiv (Q1A .xor .u64 f (IntKind.wrap .u64 (f * 2 ^ (13)))) (2 ^ (7)))) (IntKind.wrap .u64 ((Q1A .xor .u64 (Q1A .xor .u64 f (IntKind.wrap .u64 (f * 2 ^ (13)))) (Int.fdiv (Q1A .xor .u64 f (IntKind.wrap .u64 (f * 2 ^ (13)))) (2 ^ (7)))) * 2 ^ (17))))] 305]):=by
 unfold Q6Y at hm
 refine Q12 Tryz.func175 Z Tryz.ntmps175 Z (S:=[_]) Z (fun C=>(Q6 (Q3 (wP Z (Q2 (Q4 (Q5 [0] (S':=[_]) Z (Q6 (QV [0,1,2,3,4,5,6,7,8] Z Z (fun hok=>(xP hok 0 Z (xP hok 1 Z (Qr hok 2 0 0 Z Z Z Zq Z Z Z Z (cs:=[_]) Z Q9j tA_305 Z Z (xP hok 3 Z (xP hok 4 Z ?_)))))))))))))))
 refine Qr hok 5 0 0 Z Z Z Zq Z Z Z Z (cs:=[_]) Z Q9j tA_305 Z Z (Q8m hok 6 Z Z Z Zq Z Z Z Z (run_shl (by decide)) (Q8m hok 7 Z Z Z Zq Z Z Z Z run_xor (xP hok 8 Z (xS hok 9 Z (wS 0 0 Z Q9j (all':=[_]) Z (H':=[_]) Z (Q2 (Qs [0] [] Z Z (QI hok Z (Q4 (Q5 [0] (S':=[_]) Z (Q6 (QV [0,1,2,3,4,5,6,7,8] Z Z (fun hok=>(xP hok 0 Z ?_))))))))))))))
 refine xP hok 1 Z (Qr hok 2 0 0 Z Z Z Zq Z Z Z Z (cs:=[_]) Z Q9j tA_305 Z Z (xP hok 3 Z (xP hok 4 Z (Qr hok 5 0 0 Z Z Z Zq Z Z Z Z (cs:=[_]) Z Q9j tA_305 Z Z (Q8m hok 6 Z Z Z Zq Z Z Z Z (run_shr (by decide)) (Q8m hok 7 Z Z Z Zq Z Z Z Z run_xor (xP hok 8 Z (xS hok 9 Z (wS 0 0 Z Q9j (all':=[_]) Z (H':=[_]) Z (Q2 (Qs [0] [] Z Z (QI hok Z (Q4 ?_)))))))))))))
 refine Q5 [0] (S':=[_]) Z (Q6 (QV [0,1,2,3,4,5,6,7,8] Z Z (fun hok=>(xP hok 0 Z (xP hok 1 Z (Qr hok 2 0 0 Z Z Z Zq Z Z Z Z (cs:=[_]) Z Q9j tA_305 Z Z (xP hok 3 Z (xP hok 4 Z (Qr hok 5 0 0 Z Z Z Zq Z Z Z Z (cs:=[_]) Z Q9j tA_305 Z Z (Q8m hok 6 Z Z Z Zq Z Z Z Z (run_shl (by decide)) (Q8m hok 7 Z Z Z Zq Z Z Z Z run_xor (xP hok 8 Z (xS hok 9 Z (wS 0 0 Z Q9j (all':=[_]) Z (H':=[_]) Z ?_))))))))))))))
 refine Q2 (Qs [0] [] Z Z (QI hok Z (Q4 (Q5 [0] (S':=[_]) Z (Q6 (Q3 (wP Z (wP Z (wD 0 0 Z Q9j tA_305 Z (wP Z (Q2 (Q4 (Q5 [2] (S':=[_]) Z ?_)))))))))))))
 refine QJ ?_
 have hE:=(Zi hm).symm
 refine QA (Hr:=[_]) [0] Tryz.results175 (Qy Z) ⟨Z,Z,Z⟩ (asK [] Z) Z Z (.inl Z)
theorem Q7f (N:Nat) (a3:OA) (a4:Nat) (a5:Nat) (l0:List Q1) (s:Int) (a2:Int) (aC:Addr) (aD:Nat) (aE:Nat) (l3:List Int) (o0:List Q1) (hm:Q3o N l0 s a2 l3 = some o0):Q1z Tryz.prog 150 [.slice a3 a4 a5,.int .i64 s,.int .i64 a2,.func (.func 41) #[.slice (some aC) aD aE] #[]] [tF] [.own 45 2 Q8 (.slice a3 a4 a5) l0,.own 3 1 Qh (.slice (some aC) aD aE) l3] (fun v Φr Hr=>v = .tuple #[] ∧ Φr = [] ∧ Hr = [.own 45 2 Q8 (.slice a3 a4 a5) o0,.own 3 1 Qh (.slice (some aC) aD aE) l3]):=by
 unfold Q3o at hm
 refine Q12 Tryz.func150 Z Tryz.ntmps150 Z (S:=V4 ..) Z (fun C=>(Q6 (Q3 (wP Z (wP Z (wP Z ?_))))))
 obtain ⟨aN,hm⟩:=Qd hm
 refine Qx (d:=15) (v':=.int .i64 (a2 - s)) (S':=V6 ..) Z Z (i64_in aN) (wP Z (Q2 (Q4 (Q5 [8,0,1] (S':=V3 ..) Z (Q6 (Q3 (wP Z (wP Z (Q2 (Q4 (Q5 [17,8,0,1] (S':=V4 ..) Z ?_)))))))))))
 refine Qv Z (fun aF=>?_) (fun aF=>?_)
 replace hm:=Q1m hm aF
 refine Q5 [8,0,1] (S':=V3 ..) Z (Q6 (Q3 (wP Z (Qao Z Z Z Zq (rk_conv Z Z tI_3 tI_305) (Q1s Z Z Z Zq Z tZ_305 Z (fun g9=>(wS 0 0 Z Q9j (all':=[_]) Z (H':=V3 ..) Z (Q2 (Q4 (Q5 [9,8,0,1] (S':=V4 ..) Z (Q6 (Q3 (wP Z ?_)))))))))))))
 obtain ⟨aB,aP,hm⟩:=Q7 hm
 refine wC [] [0,1,2] Z fn_174 Z (Q9G N (a2 - s) _ aP) (asK [0] Z) Z (H':=V3 ..) Z ?_
 rintro _ _ _ ⟨rfl,rfl,rfl⟩
 refine wP Z (Q2 (Q4 (Q5 [10,9,8,0,1] (S':=V5 ..) Z (Q6 (Q3 (wP Z (wP Z (Q4l Z Z Z Zq Z Z Z (Q95 (by decide)) (wP Z ?_)))))))))
 obtain ⟨aQ,hm⟩:=Qd hm
 refine Qx (d:=25) (v':=.int .i64 ((IntKind.wrap .i64 (Int.tdiv (a2 - s) 4)) * 2)) (S':=V8 ..) Z Z (i64_in aQ) (wP Z ?_)
 obtain ⟨aR,hm⟩:=Qd hm
 refine Qx (d:=26) (v':=.int .i64 (s + ((IntKind.wrap .i64 (Int.tdiv (a2 - s) 4)) * 2))) (S':=V9 ..) Z Z (i64_in aR) (wP Z ?_)
 obtain ⟨aS,hm⟩:=Qd hm
 refine Qx (d:=27) (v':=.int .i64 ((s + ((IntKind.wrap .i64 (Int.tdiv (a2 - s) 4)) * 2)) - 1)) (S':=V10 ..) Z Z (i64_in aS) (wP Z (Q2 (Q4 (Q5 [11,10,9,8,0,1] (S':=V6 ..) Z (Qn (Q1b (σ:=Nat × Int × Int × (List Q1)) (fun (a6,o,f,q)=>Q1B (Q2S N a2 s aB) a6 (o,f,q) = some o0) (fun (a6,o,f,q)=>a6) (fun (a6,o,f,q)=>[(11,.int .i64 o),(10,.int .u64 aB),(9,.pointer (some ⟨g9,0,none⟩)),(8,.int .i64 (a2 - s)),(0,.slice a3 a4 a5),(1,.int .i64 s)]) (fun (a6,o,f,q)=>[tF]) (fun (a6,o,f,q)=>[.blk g9 [.int .u64 f] 305,.own 45 2 Q8 (.slice a3 a4 a5) q,.own 3 1 Qh (.slice (some aC) aD aE) l3]) (N,(s + ((IntKind.wrap .i64 (Int.tdiv (a2 - s) 4)) * 2)) - 1,IntKind.wrap .u64 (a2 - s),l0) hm [11,10,9,8,0,1] Z (asK [0] Z) Z (fun s_ hm=>?_)))))))
 obtain ⟨a6,o,f,q⟩:=s_
 try dsimp only at hm ⊢
 obtain ⟨b8,b9,aT,hq,hLu1⟩:=Q18 hm
 clear hm
 subst aT
 replace hm:=hq
 clear hq
 unfold Q2S at hm
 try dsimp only at hm
 refine Q6 (Q6 (Q3 (wP Z (wP Z (wP Z (Q4l Z Z Z Zq Z Z Z (Q95 (by decide)) (wP Z ?_)))))))
 obtain ⟨aU,hm⟩:=Qd hm
 refine Qx (d:=32) (v':=.int .i64 ((IntKind.wrap .i64 (Int.tdiv (a2 - s) 4)) * 2)) (S':=V10 ..) Z Z (i64_in aU) (wP Z ?_)
 obtain ⟨aV,hm⟩:=Qd hm
 refine Qx (d:=33) (v':=.int .i64 (s + ((IntKind.wrap .i64 (Int.tdiv (a2 - s) 4)) * 2))) (S':=V11 ..) Z Z (i64_in aV) (wP Z ?_)
 obtain ⟨aW,hm⟩:=Qd hm
 refine Qx (d:=34) (v':=.int .i64 ((s + ((IntKind.wrap .i64 (Int.tdiv (a2 - s) 4)) * 2)) + 1)) (S':=V12 ..) Z Z (i64_in aW) (wP Z (Q2 (Q4 (Q5 [35,11,10,9,8,0,1] (S':=V7 ..) Z ?_))))
 refine Qv Z (fun aG=>?_) (fun aG=>?_)
 replace hm:=Q1m hm aG
 refine Q5 [11,10,9,8,0,1] (S':=V6 ..) Z (Qt (Q4 (Q6 (Qn (Q6 (Q3 ?_))))))
 obtain ⟨_,aX,hm⟩:=Q7 hm
 try dsimp only at hm
 refine wC [0] [1,2] Z fn_175 Z (Qa0 N g9 f aX) (asK [0] Z) Z (H':=[_,_]) Z ?_
 rintro _ _ _ ⟨rfl,rfl,rfl⟩
 refine wP Z (wP Z (Q4l Z Z Z Zq Z Z Z run_and (Qao Z Z Z Zq (rk_conv Z Z tI_157 tI_3) (wP Z (Q2 (Q4 (Q5 [12,11,10,9,8,0,1] (S':=V7 ..) Z (Q6 ?_))))))))
 obtain ⟨aY,hm,hLj_1⟩:=Q7 hm
 refine Q15 (σ:=Int) (fun j=>aY = j) (fun j=>[(12,.int .i64 j),(11,.int .i64 o),(10,.int .u64 aB),(9,.pointer (some ⟨g9,0,none⟩)),(8,.int .i64 (a2 - s)),(0,.slice a3 a4 a5),(1,.int .i64 s)]) (fun j=>[tF]) (fun j=>[.blk g9 [.int .u64 (Q1A .xor .u64 (Q1A .xor .u64 (Q1A .xor .u64 f (IntKind.wrap .u64 (f * 2 ^ (13)))) (Int.fdiv (Q1A .xor .u64 f (IntKind.wrap .u64 (f * 2 ^ (13)))) (2 ^ (7)))) (IntKind.wrap .u64 ((Q1A .xor .u64 (Q1A .xor .u64 f (IntKind.wrap .u64 (f * 2 ^ (13)))) (Int.fdiv (Q1A .xor .u64 f (IntKind.wrap .u64 (f * 2 ^ (13)))) (2 ^ (7)))) * 2 ^ (17))))] 305,.own 45 2 Q8 (.slice a3 a4 a5) q,.own 3 1 Qh (.slice (some aC) aD aE) l3]) ?_ ?_
 refine Q6 (Q3 (wP Z (wP Z (wP Z (Q2 (Q4 (Q5 [45,12,11,10,9,8,0,1] (S':=V8 ..) Z ?_)))))))
 refine Qv Z (fun aH=>?_) (fun aH=>?_)
 replace hm:=Q1m hm aH
 refine Q5 [12,11,10,9,8,0,1] (S':=V7 ..) Z (Q3 (wP Z (wP Z (wP Z ?_))))
 obtain ⟨aZ,hm⟩:=Qd hm
 refine Qx (d:=48) (v':=.int .i64 ((IntKind.wrap .i64 (Q1A .and .u64 (Q1A .xor .u64 (Q1A .xor .u64 (Q1A .xor .u64 f (IntKind.wrap .u64 (f * 2 ^ (13)))) (Int.fdiv (Q1A .xor .u64 f (IntKind.wrap .u64 (f * 2 ^ (13)))) (2 ^ (7)))) (IntKind.wrap .u64 ((Q1A .xor .u64 (Q1A .xor .u64 f (IntKind.wrap .u64 (f * 2 ^ (13)))) (Int.fdiv (Q1A .xor .u64 f (IntKind.wrap .u64 (f * 2 ^ (13)))) (2 ^ (7)))) * 2 ^ (17)))) (IntKind.wrap .u64 (aB - 1)))) - (a2 - s))) (S':=V9 ..) Z Z (i64_in aZ) (QM (S':=V9 ..) Z Z Z Z Z (Q2 ?_))
 have hE:=(Zi hm).symm
 refine Qp ((IntKind.wrap .i64 (Q1A .and .u64 (Q1A .xor .u64 (Q1A .xor .u64 (Q1A .xor .u64 f (IntKind.wrap .u64 (f * 2 ^ (13)))) (Int.fdiv (Q1A .xor .u64 f (IntKind.wrap .u64 (f * 2 ^ (13)))) (2 ^ (7)))) (IntKind.wrap .u64 ((Q1A .xor .u64 (Q1A .xor .u64 f (IntKind.wrap .u64 (f * 2 ^ (13)))) (Int.fdiv (Q1A .xor .u64 f (IntKind.wrap .u64 (f * 2 ^ (13)))) (2 ^ (7)))) * 2 ^ (17)))) (IntKind.wrap .u64 (aB - 1)))) - (a2 - s)) hE [12,11,10,9,8,0,1] Z (asK [0] Z) Z
 replace hm:=Q1l hm aH
 refine Q5 [12,11,10,9,8,0,1] (S':=V7 ..) Z (Qt ?_)
 have hE:=(Zi hm).symm
 refine Qp (IntKind.wrap .i64 (Q1A .and .u64 (Q1A .xor .u64 (Q1A .xor .u64 (Q1A .xor .u64 f (IntKind.wrap .u64 (f * 2 ^ (13)))) (Int.fdiv (Q1A .xor .u64 f (IntKind.wrap .u64 (f * 2 ^ (13)))) (2 ^ (7)))) (IntKind.wrap .u64 ((Q1A .xor .u64 (Q1A .xor .u64 f (IntKind.wrap .u64 (f * 2 ^ (13)))) (Int.fdiv (Q1A .xor .u64 f (IntKind.wrap .u64 (f * 2 ^ (13)))) (2 ^ (7)))) * 2 ^ (17)))) (IntKind.wrap .u64 (aB - 1)))) hE [12,11,10,9,8,0,1] Z (asK [0] Z) Z
 ·
  rintro j hE
  try dsimp only
  have hm:=hLj_1
  try rw [hE] at hm
  obtain ⟨b0,hm⟩:=Qd hm
  obtain ⟨b1,hm⟩:=Qd hm
  obtain ⟨b2,hm⟩:=Qd hm
  obtain ⟨a7,aI,hm⟩:=Q7 hm
  obtain ⟨b3,hm⟩:=Qd hm
  obtain ⟨a8,aJ,hm⟩:=Q7 hm
  obtain ⟨aK,hm⟩:=Qd hm
  obtain ⟨bA,a9,hm⟩:=Q7 hm
  obtain ⟨aL,hm⟩:=Qd hm
  obtain ⟨bB,aA,hm⟩:=Q7 hm
  refine QV [0,1,2,3,4,5,6,7,8,9,10,12,13,14,16,18] Z Z (fun hok=>(xP hok 0 Z (xP hok 1 Z (xP hok 2 Z (xP hok 3 Z (xP hok 4 Z (xP hok 5 Z (Q1g (d:=54) (v':=.int .i64 (s + j)) (S':=V12 ..) Z Z (i64_in b0) (xP hok 6 Z (xP hok 7 Z (xP hok 8 Z (xP hok 9 Z (Q1g (d:=58) (v':=.int .i64 (s + j)) (S':=V16 ..) Z Z (i64_in b1) (Q1C hok 10 1 ((s + j).toNat) Z Z Z Zq Z Z Z Z Z (QK b2) (QB aI) QG Qg (fun bC b4=>?_)))))))))))))))
  subst b4
  refine xP hok 12 Z (xP hok 13 Z (QS hok 14 1 o.toNat Z Z Z Zq Z Z Z Z Z (QK b3) (QB aJ) QG Qg ?_))
  refine Q1v hok 11 15 Z Z Z Z Z Z ?_ ?_
  rotate_left
  focus
   refine Qk Qb 1 o.toNat 0 Z Z Z Zq Z Z Z aJ Qg QT (v:=fun y=>.agg #[.int .i64 (a8.rule),.slice y.1 a8.ids.length y.2]) (fun _=>Z) (fun _=>Z) (fun y _=>(Q2 (Qs [1] [] Z Z (xS hok 11 Z (Qk Qb 1 ((s + j).toNat) 0 Z Z Z Zq Z Z Z aI Qg QT (v:=fun z=>.agg #[.int .i64 (a7.rule),.slice z.1 a7.ids.length z.2]) (fun _=>Z) (fun _=>Z) (fun z _=>(Q2 (Qs [1,2] [] Z Z (QS hok 16 1 o.toNat Z Z Z Zq Z Z Z Z Z (QK aK) (QB a9) QG Qg (xS hok 17 Z (Q10 (u:=a7) 1 o.toNat Z Z Z Z Z (QB a9) Z Z Qg Z (fun F w hφ=>⟨(z.1,z.2),Z,(Qe (hφ _ (Qo (k:=0) Z)) Ql)⟩) (H':=V3 ..) Z (Q2 (Qs [0,1,2] [] Z Z (QS hok 18 1 ((s + j).toNat) Z Z Z Zq Z Z Z Z Z (QK aL) (QB aA) QG Qg (xS hok 19 Z ?_)))))))))))))))
   refine Q10 (u:=a8) 1 ((s + j).toNat) Z Z Z Z Z (QB aA) Z Z Qg Z (fun F w hφ=>⟨(y.1,y.2),Z,(Qe (hφ _ (Qo (k:=1) Z)) Ql)⟩) (H':=V3 ..) Z ?_
  rotate_right
  focus
   refine Qk Qb 1 ((s + j).toNat) 0 Z Z Z Zq Z Z Z aI Qg QT (v:=fun z=>.agg #[.int .i64 (a7.rule),.slice z.1 a7.ids.length z.2]) (fun _=>Z) (fun _=>Z) (fun z _=>(Q2 (Qs [1] [] Z Z (xS hok 15 Z (Qk Qb 1 o.toNat 0 Z Z Z Zq Z Z Z aJ Qg QT (v:=fun y=>.agg #[.int .i64 (a8.rule),.slice y.1 a8.ids.length y.2]) (fun _=>Z) (fun _=>Z) (fun y _=>(Q2 (Qs [1,2] [] Z Z (QS hok 16 1 o.toNat Z Z Z Zq Z Z Z Z Z (QK aK) (QB a9) QG Qg (xS hok 17 Z (Q10 (u:=a7) 1 o.toNat Z Z Z Z Z (QB a9) Z Z Qg Z (fun F w hφ=>⟨(z.1,z.2),Z,(Qe (hφ _ (Qo (k:=1) Z)) Ql)⟩) (H':=V3 ..) Z (Q2 (Qs [0,1,2] [] Z Z (QS hok 18 1 ((s + j).toNat) Z Z Z Zq Z Z Z Z Z (QK aL) (QB aA) QG Qg (xS hok 19 Z ?_)))))))))))))))
   refine Q10 (u:=a8) 1 ((s + j).toNat) Z Z Z Z Z (QB aA) Z Z Qg Z (fun F w hφ=>⟨(y.1,y.2),Z,(Qe (hφ _ (Qo (k:=0) Z)) Ql)⟩) (H':=V3 ..) Z ?_
  all_goals
   refine Q2 (Qs [0,1,2] [] Z Z (QI hok Z (Qi (Q4 (Q5 [11,10,9,8,0,1] (S':=V6 ..) Z (Q3 (wP Z (wP Z ?_))))))))
   obtain ⟨b5,hm⟩:=Qd hm
   refine Qx (d:=37) (v':=.int .i64 (o + 1)) (S':=V7 ..) Z Z (i64_in b5) (QM (S':=V7 ..) Z Z Z Z Z (Q2 ?_))
   have hE:=(Zi hm).symm
   replace hE:=Q11 hLu1 hE
   refine Q14 (_,o + 1,Q1A .xor .u64 (Q1A .xor .u64 (Q1A .xor .u64 f (IntKind.wrap .u64 (f * 2 ^ (13)))) (Int.fdiv (Q1A .xor .u64 f (IntKind.wrap .u64 (f * 2 ^ (13)))) (2 ^ (7)))) (IntKind.wrap .u64 ((Q1A .xor .u64 (Q1A .xor .u64 f (IntKind.wrap .u64 (f * 2 ^ (13)))) (Int.fdiv (Q1A .xor .u64 f (IntKind.wrap .u64 (f * 2 ^ (13)))) (2 ^ (7)))) * 2 ^ (17))),(q.set o.toNat a7).set ((s + j).toNat) a8) (Nat.lt_succ_self _) hE [11,10,9,8,0,1] Z (asK [2] Z) Z
 replace hm:=Q1l hm aG
 refine Q5 [] (S':=[]) Z (Q19 (Qc (Qc (Qu ?_))))
 have hE:=(Zi hm).symm
 replace hE:=QE hLu1 hE
 replace hE:=hE.symm
 subst hE
 refine Q4R (Hr:=[_,_]) [1,2] Tryz.results150 ⟨Z,Z,Z⟩ (asK [] Z) Z Z (.inr Z)
 replace hm:=Q1l hm aF
 refine Q5 [] (S':=[]) Z (Qt ?_)
 have hE:=(Zi hm).symm
 replace hE:=hE.symm
 subst hE
 refine Q4R (Hr:=[_,_]) [0,1] Tryz.results150 ⟨Z,Z,Z⟩ (asK [] Z) Z Z (.inr Z)
theorem Q7K (N:Nat) (rc:(List Q1) → Int → Int → Int → (List Int) → Option ((List Q1) × (List Int))) (ih : ∀ (y:OA) (b0:Nat) (z:Nat) (l0:List Q1) (a1:Int) (a2:Int) (a3:Int) (a6:Addr) (a7:Nat) (a8:Nat) (l4:List Int) (o0:List Q1) (o2:List Int),rc l0 a1 a2 a3 l4 = some (o0,o2) → Q1z Tryz.prog 96 [.slice y b0 z,.int .i64 a1,.int .i64 a2,.int .i64 a3,.func (.func 41) #[.slice (some a6) a7 a8] #[]] [tF] [.own 45 2 Q8 (.slice y b0 z) l0,.own 3 1 Qh (.slice (some a6) a7 a8) l4] (fun v Φr Hr=>∃ (o1:Nat),v = .tuple #[] ∧ Φr = [] ∧ Hr = [.own 45 2 Q8 (.slice y o1 z) o0,.own 3 1 Qh (.slice (some a6) a7 a8) o2])) (y:OA) (b0:Nat) (z:Nat) (l0:List Q1) (a1:Int) (a2:Int) (a3:Int) (a6:Addr) (a7:Nat) (a8:Nat) (l4:List Int) (o0:List Q1) (o2:List Int) (hm:Q3R N rc l0 a1 a2 a3 l4 = some (o0,o2)):Q1z Tryz.prog 96 [.slice y b0 z,.int .i64 a1,.int .i64 a2,.int .i64 a3,.func (.func 41) #[.slice (some a6) a7 a8] #[]] [tF] [.own 45 2 Q8 (.slice y b0 z) l0,.own 3 1 Qh (.slice (some a6) a7 a8) l4] (fun v Φr Hr=>∃ (o1:Nat),v = .tuple #[] ∧ Φr = [] ∧ Hr = [.own 45 2 Q8 (.slice y o1 z) o0,.own 3 1 Qh (.slice (some a6) a7 a8) o2]):=by
 unfold Q3R at hm
 refine Q12 Tryz.func96 Z Tryz.ntmps96 Z (S:=V5 ..) Z (fun C=>(Q6 (Q3 (wP Z (Q2 (Q4 (Q6 (Q3 (wP Z (Q2 (Q4 (Qn (Q1b (σ:=Nat × Bool × Bool × (List Q1) × Int × Int × Int × (List Int) × Nat) (fun (aW,aB,aC,a0,j,o,aK,f,aG)=>Q1B (Q3L N rc) aW (aB,aC,a0,j,o,aK,f) = some (o0,o2)) (fun (aW,aB,aC,a0,j,o,aK,f,aG)=>aW) (fun (aW,aB,aC,a0,j,o,aK,f,aG)=>[(11,.bool aB),(10,.bool aC),(0,.slice y aG z),(1,.int .i64 j),(2,.int .i64 o),(3,.int .i64 aK),(4,.func (.func 41) #[.slice (some a6) a7 a8] #[])]) (fun (aW,aB,aC,a0,j,o,aK,f,aG)=>[tF]) (fun (aW,aB,aC,a0,j,o,aK,f,aG)=>[.own 45 2 Q8 (.slice y aG z) a0,.own 3 1 Qh (.slice (some a6) a7 a8) f]) (N,true,true,l0,a1,a2,a3,l4,b0) hm [11,10,0,1,2,3,4] Z (asK [0] Z) Z (fun s_ hm=>?_))))))))))))))
 obtain ⟨aW,aB,aC,a0,j,o,aK,f,aG⟩:=s_
 try dsimp only at hm ⊢
 obtain ⟨cT,cU,c1,hq,hLu1⟩:=Q18 hm
 clear hm
 subst c1
 replace hm:=hq
 clear hq
 unfold Q3L at hm
 try dsimp only at hm
 refine Qn (Q6 (Q3 (wP Z (wP Z (wP Z ?_)))))
 obtain ⟨c2,hm⟩:=Qd hm
 refine Qx (d:=23) (v':=.int .i64 (o - j)) (S':=V9 ..) Z Z (i64_in c2) (wP Z (Q2 (Q4 (Q5 [12,11,10,0,1,2,3,4] (S':=V8 ..) Z (Q6 (Q6 (Q3 (wP Z (wP Z (Q2 (Q4 (Q5 [25,12,11,10,0,1,2,3,4] (S':=V9 ..) Z ?_))))))))))))
 refine Qv Z (fun b3=>?_) (fun b3=>?_)
 replace hm:=Q1m hm b3
 refine Q5 [0,1,2,4] (S':=V4 ..) Z (Q6 (Q3 (wP Z (wP Z (wP Z (wP Z (QQ 0 Z (fun aD _=>?_))))))))
 subst aD
 obtain ⟨cV,c3,hm⟩:=Q7 hm
 refine wC [0,1] [] Z fn_148 Z (Q7g N y a0.length z a0 j o a6 a7 a8 f _ c3) (asK [0] Z) Z (H':=[]) Z ?_
 rintro _ _ _ ⟨rfl,rfl,rfl⟩
 refine Q2 (Q4 (Q5 [] (S':=[]) Z (QJ (Qj (QR (Qj (QR ?_)))))))
 have hE:=(Zi hm).symm
 replace hE:=QE hLu1 hE
 obtain ⟨hE0,hE1⟩:=Prod.mk.inj hE
 clear hE
 replace hE0:=hE0.symm
 subst hE0
 replace hE1:=hE1.symm
 subst hE1
 refine Q4R (Hr:=[_,_]) [0,1] Tryz.results96 ⟨a0.length,Z,Z,Z⟩ (asK [] Z) Z Z (.inl Z)
 replace hm:=Q1l hm b3
 refine Q5 [12,11,10,0,1,2,3,4] (S':=V8 ..) Z (Qt (Q4 (Q6 (Q6 (Q3 (wP Z (wP Z (Q2 (Q4 (Q5 [32,12,11,10,0,1,2,3,4] (S':=V9 ..) Z ?_))))))))))
 refine Qv Z (fun b4=>?_) (fun b4=>?_)
 replace hm:=Q1m hm b4
 refine Q5 [0,1,2,4] (S':=V4 ..) Z (Q6 (Q3 (wP Z (wP Z (wP Z (wP Z (QQ 0 Z (fun aD _=>?_))))))))
 subst aD
 obtain ⟨cW,c4,hm⟩:=Q7 hm
 refine wC [0,1] [] Z fn_149 Z (Q7X N y a0.length z a0 j o a6 a7 a8 f _ c4) (asK [0] Z) Z (H':=[]) Z ?_
 rintro _ _ _ ⟨rfl,rfl,rfl⟩
 refine Q2 (Q4 (Q5 [] (S':=[]) Z (QJ (Qj (QR (Qj (QR ?_)))))))
 have hE:=(Zi hm).symm
 replace hE:=QE hLu1 hE
 obtain ⟨hE0,hE1⟩:=Prod.mk.inj hE
 clear hE
 replace hE0:=hE0.symm
 subst hE0
 replace hE1:=hE1.symm
 subst hE1
 refine Q4R (Hr:=[_,_]) [0,1] Tryz.results96 ⟨a0.length,Z,Z,Z⟩ (asK [] Z) Z Z (.inl Z)
 replace hm:=Q1l hm b4
 refine Q5 [12,11,10,0,1,2,3,4] (S':=V8 ..) Z (Qt (Q4 (Q6 ?_)))
 obtain ⟨c5,hm,hLj_1⟩:=Q7 hm
 refine Q15 (σ:=(List Q1) × Int) (fun (s,aA)=>c5 = (s,aA)) (fun (s,aA)=>[(12,.int .i64 (o - j)),(11,.bool aB),(10,.bool aC),(0,.slice y aG z),(1,.int .i64 j),(2,.int .i64 o),(3,.int .i64 aA),(4,.func (.func 41) #[.slice (some a6) a7 a8] #[])]) (fun (s,aA)=>[tF]) (fun (s,aA)=>[.own 45 2 Q8 (.slice y aG z) s,.own 3 1 Qh (.slice (some a6) a7 a8) f]) ?_ ?_
 refine Q6 (Q3 (wP Z (wP Z (Q2 (Q4 (Q5 [39,12,11,10,0,1,2,3,4] (S':=V9 ..) Z ?_))))))
 refine Qv Z (fun b5=>?_) (fun b5=>?_)
 replace hm:=Q1m hm b5
 refine Q5 [12,11,10,0,1,2,3,4] (S':=V8 ..) Z (Q6 (Q3 (wP Z (wP Z (wP Z (wP Z (QQ 0 Z (fun aD _=>?_))))))))
 subst aD
 obtain ⟨cP,c6,hm⟩:=Q7 hm
 refine wC [0,1] [] Z fn_150 Z (Q7f N y a0.length z a0 j o a6 a7 a8 f _ c6) (asK [0] Z) Z (H':=[]) Z ?_
 rintro _ _ _ ⟨rfl,rfl,rfl⟩
 refine Q2 (Q4 (Q5 [12,11,10,0,1,2,3,4] (S':=V8 ..) Z (Q3 (wP Z (wP Z ?_)))))
 obtain ⟨c7,hm⟩:=Qd hm
 refine Qx (d:=46) (v':=.int .i64 (aK - 1)) (S':=V9 ..) Z Z (i64_in c7) (QM (S':=V9 ..) Z Z Z Z Z (Q2 ?_))
 have hE:=(Zi hm).symm
 refine Qp (cP,aK - 1) hE [12,11,10,0,1,2,3,4] Z (asK [0] Z) Z
 replace hm:=Q1l hm b5
 refine Q5 [12,11,10,0,1,2,3,4] (S':=V8 ..) Z (Qt ?_)
 have hE:=(Zi hm).symm
 refine Qp (a0,aK) hE [12,11,10,0,1,2,3,4] Z (asK [0] Z) Z
 rintro ⟨s,aA⟩ hE
 try dsimp only
 have hm:=hLj_1
 try rw [hE] at hm
 try dsimp only at hm
 refine Q6 (Q3 (wP Z (wP Z (wP Z (wP Z (QQ 0 Z (fun aD _=>?_)))))))
 subst aD
 obtain ⟨⟨aV,aX⟩,c8,hm⟩:=Q7 hm
 try dsimp only at hm
 refine Q1y [1] [0] [0] Z Z Z Zq Z Z fn_151 Z (Q7W N y z s j o a6 a7 a8 f _ _ c8) (fun F w hφ hh=>(Qe (Q1d (hh _ (Qo (k:=0) Z))) (Qe (hφ _ (Qo (k:=0) Z)) Ql))) (fun _ _ _ hR=>by obtain ⟨rfl,rfl,rfl⟩:=hR; exact ⟨Z,(Q7u (Q8g Q6Z) (fun _ h=>Q1q h))⟩) Z Z (H':=[_]) Z ?_
 rintro _ _ _ ⟨rfl,rfl,rfl⟩
 refine wP Z (wP Z (wP Z (wP Z (wP Z (Q2 (Q4 (Q5 [14,13,12,11,10,0,1,2,3,4] (S':=V10 ..) Z (Q6 ?_))))))))
 obtain ⟨c9,hm,hLj_2⟩:=Q7 hm
 unfold Q5p at hm
 refine Q15 (σ:=Nat × Int × (List Q1)) (fun (aH,a5,q)=>c9 = (aH,a5,q)) (fun (aH,a5,q)=>[(14,.int .i64 ((aH:Nat):Int)),(13,.int .i64 a5),(12,.int .i64 (o - j)),(11,.bool aB),(10,.bool aC),(0,.slice y s.length z),(1,.int .i64 j),(2,.int .i64 o),(3,.int .i64 aA),(4,.func (.func 41) #[.slice (some a6) a7 a8] #[])]) (fun (aH,a5,q)=>[tF]) (fun (aH,a5,q)=>[.own 45 2 Q8 (.slice y s.length z) q,.own 3 1 Qh (.slice (some a6) a7 a8) f]) ?_ ?_
 refine Q6 (Q3 (wP Z (wP Z (Qx (d:=56) (v':=.bool (aX == 2)) (S':=V11 ..) Z Z (nateq (a:=aX) (b:=2)) (Q2 (Q4 (Q5 [56,14,13,12,11,10,0,1,2,3,4] (S':=V11 ..) Z ?_)))))))
 refine Qv Z (fun b6=>?_) (fun b6=>?_)
 replace hm:=Q1m hm b6
 refine Q5 [13,12,11,10,0,1,2,3,4] (S':=V9 ..) Z (Q6 (Q3 (wP Z (wP Z (wP Z (wP Z ?_))))))
 obtain ⟨cQ,cA,hm⟩:=Q7 hm
 refine wC [1,0] [] Z fn_152 Z (Q7l N y s.length z s j o a6 a7 a8 f _ cA) (asK [0] Z) Z (H':=[]) Z ?_
 rintro _ _ _ ⟨rfl,rfl,rfl⟩
 refine Q2 (Q4 (Q5 [13,12,11,10,0,1,2,3,4] (S':=V9 ..) Z (Q6 (Q3 (wP Z (wP Z ?_))))))
 obtain ⟨cB,hm⟩:=Qd hm
 refine Qx (d:=63) (v':=.int .i64 (o - 1)) (S':=V10 ..) Z Z (i64_in cB) (wP Z (wP Z (wP Z ?_)))
 obtain ⟨cC,hm⟩:=Qd hm
 refine Qx (d:=66) (v':=.int .i64 (aV - j)) (S':=V13 ..) Z Z (i64_in cC) (wP Z ?_)
 obtain ⟨cD,hm⟩:=Qd hm
 refine Qx (d:=67) (v':=.int .i64 ((o - 1) - (aV - j))) (S':=V14 ..) Z Z (i64_in cD) (QM (S':=V14 ..) Z Z Z Z Z (Q2 (Q4 (Q5 [13,12,11,10,0,1,2,3,4] (S':=V9 ..) Z (Q3 (wP Z (Q2 ?_)))))))
 have hE:=(Zi hm).symm
 refine Qp (1,(o - 1) - (aV - j),cQ) hE [14,13,12,11,10,0,1,2,3,4] Z (asK [0] Z) Z
 replace hm:=Q1l hm b6
 refine Q5 [14,13,12,11,10,0,1,2,3,4] (S':=V10 ..) Z (Qt ?_)
 have hE:=(Zi hm).symm
 refine Q17 [1,0] Z (H':=[_,_]) Z ?_
 refine Qp (aX,aV,s) hE [14,13,12,11,10,0,1,2,3,4] Z (asK [0] Z) Z
 rintro ⟨aH,a5,q⟩ hE
 try dsimp only
 have hm:=hLj_2
 try rw [hE] at hm
 try dsimp only at hm
 refine Q6 ?_
 obtain ⟨cE,hm,hLj_3⟩:=Q1R hm
 unfold Q5q at hm
 refine Q15 (σ:=(List Q1) × Nat) (fun (a4,aF)=>cE = .inl a4) (fun (a4,aF)=>[(13,.int .i64 a5),(12,.int .i64 (o - j)),(11,.bool aB),(10,.bool aC),(0,.slice y aF z),(1,.int .i64 j),(2,.int .i64 o),(3,.int .i64 aA),(4,.func (.func 41) #[.slice (some a6) a7 a8] #[])]) (fun (a4,aF)=>[tF]) (fun (a4,aF)=>[.own 45 2 Q8 (.slice y aF z) a4,.own 3 1 Qh (.slice (some a6) a7 a8) f]) ?_ ?_
 refine Q6 ?_
 obtain ⟨cF,hm,hLj_4⟩:=Q7 hm
 refine Q15 (σ:=Bool) (fun aI=>cF = aI) (fun aI=>[(13,.int .i64 a5),(12,.int .i64 (o - j)),(11,.bool aB),(10,.bool aC),(0,.slice y s.length z),(1,.int .i64 j),(2,.int .i64 o),(3,.int .i64 aA),(4,.func (.func 41) #[.slice (some a6) a7 a8] #[]),(75,.bool aI)]) (fun aI=>[tF]) (fun aI=>[.own 45 2 Q8 (.slice y s.length z) q,.own 3 1 Qh (.slice (some a6) a7 a8) f]) ?_ ?_
 refine Q3 (wP Z (wP Z ?_))
 refine Q28 (d:=69) (S':=V11 ..) Z Z (fun b7=>?_) (fun b7=>?_)
 replace hm:=Q1m hm b7
 refine wP Z (wP Z (wP Z ?_))
 refine Q28 (d:=72) (S':=V14 ..) Z Z (fun b8=>?_) (fun b8=>?_)
 replace hm:=Q1m hm b8
 refine wP Z (wP Z (Qx (d:=74) (v':=.bool (aH == 1)) (S':=V16 ..) Z Z (nateq (a:=aH) (b:=1)) (wP Z (Q2 ?_))))
 have hE:=(Zi hm).symm
 refine Qp (aH == 1) hE [13,12,11,10,0,1,2,3,4,75] Z (asK [0] Z) Z
 replace hm:=Q1l hm b8
 refine wO Z (wO Z (wP Z (Q2 ?_)))
 have hE:=(Zi hm).symm
 refine Qp false hE [13,12,11,10,0,1,2,3,4,75] Z (asK [0] Z) Z
 replace hm:=Q1l hm b7
 refine wO Z (wP Z (wP Z (wO Z (wO Z (wP Z (Q2 ?_))))))
 have hE:=(Zi hm).symm
 refine Qp false hE [13,12,11,10,0,1,2,3,4,75] Z (asK [0] Z) Z
 rintro aI hE
 try dsimp only
 have hm:=hLj_4
 try rw [hE] at hm
 refine Qv Z (fun b9=>?_) (fun b9=>?_)
 replace hm:=Q1m hm b9
 refine Q5 [13,12,11,10,0,1,2,3,4] (S':=V9 ..) Z (Q6 (Q3 (wP Z (wP Z (wP Z (wP Z (QQ 0 Z (fun aS _=>(Q23 3 (v':=.slice y q.length z) Z (by first | rfl | (rw [aS]; done) | simp) (Q23 8 (v':=.slice y q.length z) Z (by first | rfl | (rw [aS]; done) | simp) (Q1r 0 (φ':=.own 45 2 Q8 (.slice y q.length z) q) Z (by first | rfl | (rw [aS]; done) | simp) (H':=[_,_]) Z ?_)))))))))))
 obtain ⟨⟨cR,bL⟩,cG,hm⟩:=Q7 hm
 try dsimp only at hm
 refine wC [0,1] [] Z fn_153 Z (Q62 N y q.length z q j o a6 a7 a8 f _ _ cG) (asK [0] Z) Z (H':=[]) Z ?_
 rintro _ _ _ ⟨rfl,rfl,rfl⟩
 refine Q2 (Q4 (Q5 [80,13,12,11,10,0,1,2,3,4] (S':=V10 ..) Z ?_))
 refine Qv Z (fun bA=>?_) (fun bA=>?_)
 replace hm:=Q1m hm bA
 refine Q5 [] (S':=[]) Z (QJ (Qj (QR (Qj (QR ?_)))))
 have hE:=(Zi hm).symm
 replace hE:=QE hLj_3 hE
 replace hE:=QE hLu1 hE
 obtain ⟨hE0,hE1⟩:=Prod.mk.inj hE
 clear hE
 replace hE0:=hE0.symm
 subst hE0
 replace hE1:=hE1.symm
 subst hE1
 refine Q4R (Hr:=[_,_]) [0,1] Tryz.results96 ⟨q.length,Z,Z,Z⟩ (asK [] Z) Z Z (.inl Z)
 replace hm:=Q1l hm bA
 refine Q5 [13,12,11,10,0,1,2,3,4] (S':=V9 ..) Z (Qt ?_)
 have hE:=(Zi hm).symm
 refine Qp (bL,q.length) hE [13,12,11,10,0,1,2,3,4] Z (asK [0] Z) Z
 replace hm:=Q1l hm b9
 refine Q5 [13,12,11,10,0,1,2,3,4] (S':=V9 ..) Z (Qt ?_)
 have hE:=(Zi hm).symm
 refine Qp (q,s.length) hE [13,12,11,10,0,1,2,3,4] Z (asK [0] Z) Z
 rintro ⟨a4,aF⟩ hE
 try dsimp only
 have hm:=Q11 hLj_3 hE
 refine Q6 (Q6 ?_)
 obtain ⟨cH,hm,hLj_5⟩:=Q7 hm
 unfold Q5r at hm
 refine Q15 (σ:=Bool) (fun aJ=>cH = aJ) (fun aJ=>[(13,.int .i64 a5),(12,.int .i64 (o - j)),(11,.bool aB),(10,.bool aC),(0,.slice y aF z),(1,.int .i64 j),(2,.int .i64 o),(3,.int .i64 aA),(4,.func (.func 41) #[.slice (some a6) a7 a8] #[]),(97,.bool aJ)]) (fun aJ=>[tF]) (fun aJ=>[.own 45 2 Q8 (.slice y aF z) a4,.own 3 1 Qh (.slice (some a6) a7 a8) f]) ?_ ?_
 rcases Q2k hm with ⟨bB,hm⟩ | ⟨bB,hm⟩
 ·
  obtain ⟨cI,hm⟩:=Qd hm
  obtain ⟨cJ,hm⟩:=Qd hm
  obtain ⟨aO,bC,hm⟩:=Q7 hm
  obtain ⟨cK,hm⟩:=Qd hm
  obtain ⟨aP,bD,hm⟩:=Q7 hm
  obtain ⟨cS,bK,hm⟩:=Q7 hm
  refine QV [0,1,2,3,4,5,6,7,9,10,11,14,15,16] Z Z (fun hok=>(xP hok 0 Z (xP hok 1 Z (xP hok 2 Z (Q1g (d:=83) (v':=.bool true) (S':=V11 ..) Z Z (Q16 bB) (xP hok 3 Z (xP hok 4 Z (xP hok 5 Z (xP hok 6 Z (Q1g (d:=87) (v':=.int .i64 (j - 1)) (S':=V15 ..) Z Z (i64_in cI) (Q1C hok 7 0 ((j - 1).toNat) Z Z Z Zq Z Z Z Z Z (QK cJ) (QB bC) QG Qg (fun cX cL=>?_))))))))))))
  subst cL
  refine xP hok 9 Z (xP hok 10 Z (QS hok 11 0 a5.toNat Z Z Z Zq Z Z Z Z Z (QK cK) (QB bD) QG Qg ?_))
  refine Q1v hok 8 12 Z Z Z Z Z Z ?_ ?_
  rotate_left
  focus
   refine Qk Qb 0 a5.toNat 0 Z Z Z Zq Z Z Z bD Qg QT (v:=fun aL=>.agg #[.int .i64 (aP.rule),.slice aL.1 aP.ids.length aL.2]) (fun _=>Z) (fun _=>Z) (fun aL _=>(Q2 (Qs [1] [] Z Z (xS hok 8 Z (Qk Qb 0 ((j - 1).toNat) 0 Z Z Z Zq Z Z Z bC Qg QT (v:=fun aM=>.agg #[.int .i64 (aO.rule),.slice aM.1 aO.ids.length aM.2]) (fun _=>Z) (fun _=>Z) (fun aM _=>(Q2 (Qs [1,2] [] Z Z (xS hok 13 Z (Q1Q (args:=[.slice (some a6) a7 a8,.agg #[.int .i64 (aO.rule),.slice aM.1 aO.ids.length aM.2],.agg #[.int .i64 (aP.rule),.slice aL.1 aP.ids.length aL.2]]) [1] [0] Z Z Z Zq Z Z Z Q5o Z Z (QW N a6 a7 a8 f aO.rule aM.1 aM.2 aO.ids aP.rule aL.1 aL.2 aP.ids _ bK) (asK [0,1,2] Z) Z (H':=[_]) Z ?_))))))))))
  rotate_right
  focus
   refine Qk Qb 0 ((j - 1).toNat) 0 Z Z Z Zq Z Z Z bC Qg QT (v:=fun aM=>.agg #[.int .i64 (aO.rule),.slice aM.1 aO.ids.length aM.2]) (fun _=>Z) (fun _=>Z) (fun aM _=>(Q2 (Qs [1] [] Z Z (xS hok 12 Z (Qk Qb 0 a5.toNat 0 Z Z Z Zq Z Z Z bD Qg QT (v:=fun aL=>.agg #[.int .i64 (aP.rule),.slice aL.1 aP.ids.length aL.2]) (fun _=>Z) (fun _=>Z) (fun aL _=>(Q2 (Qs [1,2] [] Z Z (xS hok 13 Z (Q1Q (args:=[.slice (some a6) a7 a8,.agg #[.int .i64 (aO.rule),.slice aM.1 aO.ids.length aM.2],.agg #[.int .i64 (aP.rule),.slice aL.1 aP.ids.length aL.2]]) [1] [0] Z Z Z Zq Z Z Z Q5o Z Z (QW N a6 a7 a8 f aO.rule aM.1 aM.2 aO.ids aP.rule aL.1 aL.2 aP.ids _ bK) (asK [1,0,2] Z) Z (H':=[_]) Z ?_))))))))))
  all_goals
   rintro _ _ _ ⟨rfl,rfl,rfl⟩
   refine Q2 (Qs [0,1,2] [] Z Z (xP hok 14 Z (xP hok 15 Z (xP hok 16 Z (QI hok Z ?_)))))
   have hE:=(Zi hm).symm
   refine Q17 [1,0] Z (H':=[_,_]) Z ?_
   refine Qp (!(decide (cS < 0))) hE [13,12,11,10,0,1,2,3,4,97] Z (asK [2] Z) Z
 ·
  refine QV [0,1,2,3,4,5,6,7,9,10,11,14,15,16] Z Z (fun hok=>(xP hok 0 Z (xP hok 1 Z (xP hok 2 Z (Q1g (d:=83) (v':=.bool false) (S':=V11 ..) Z Z (Q16 bB) (xO hok 3 Z (xO hok 4 Z (xO hok 5 Z (xO hok 6 Z (xO hok 7 Z (xO hok 9 Z (xO hok 10 Z (xO hok 11 Z ?_)))))))))))))
  refine Q1v hok 8 12 Z Z Z Z Z Z ?_ ?_
  rotate_left
  focus
   refine wO Z (Q2 (Qs [0] [] Z Z (xS hok 8 Z ?_)))
  rotate_right
  focus
   refine wO Z (Q2 (Qs [0] [] Z Z (xS hok 12 Z ?_)))
  all_goals
   refine wO Z (Q2 (Qs [0] [] Z Z (xS hok 13 Z (wO Z (Q2 (Qs [0] [] Z Z (xO hok 14 Z (xO hok 15 Z (xP hok 16 Z (QI hok Z ?_))))))))))
   have hE:=(Zi hm).symm
   refine Qp false hE [13,12,11,10,0,1,2,3,4,97] Z (asK [0] Z) Z
 rintro aJ hE
 try dsimp only
 have hm:=hLj_5
 try rw [hE] at hm
 refine Qv Z (fun bE=>?_) (fun bE=>?_)
 replace hm:=Q1m hm bE
 refine Q5 [13,11,10,0,1,2,3,4] (S':=V8 ..) Z (Q6 (Q3 (wP Z (wP Z (wP Z (wP Z (wP Z (QQ 0 Z (fun aN _=>?_)))))))))
 subst aN
 obtain ⟨⟨bG,bH⟩,bM,hm⟩:=Q7 hm
 try dsimp only at hm
 refine wC [0,1] [] Z fn_154 Z (Q76 N y a4.length z a4 j o a5 a6 a7 a8 f _ _ bM) (asK [0] Z) Z (H':=[]) Z ?_
 rintro _ _ _ ⟨rfl,rfl,rfl⟩
 refine wP Z (Q2 (Q4 (Q5 [15,11,10,0,2,3,4] (S':=V7 ..) Z (Q6 (Q3 (wP Z (wP Z (Q2 (Q4 (Q5 [1,11,10,0,2,3,4] (S':=V7 ..) Z (Q19 (Qc (Qu ?_)))))))))))))
 have hE:=(Zi hm).symm
 replace hE:=Q11 hLu1 hE
 refine Q14 (_,aB,aC,bH,bG,o,aA,f,a4.length) (Nat.lt_succ_self _) hE [11,10,0,1,2,3,4] Z (asK [0] Z) Z
 replace hm:=Q1l hm bE
 refine Q5 [13,12,0,1,2,3,4] (S':=V7 ..) Z (Qt (Q4 (Q6 (Q3 (wP Z (wP Z (wP Z (wP Z (wP Z (QQ 0 Z (fun aN _=>?_)))))))))))
 subst aN
 obtain ⟨⟨aE,aZ,a9⟩,bN,hm⟩:=Q7 hm
 try dsimp only at hm
 refine wC [0,1] [] Z fn_155 Z (Q7J N y a4.length z a4 j o a5 a6 a7 a8 f _ _ _ bN) (asK [0] Z) Z (H':=[]) Z ?_
 rintro _ _ _ ⟨rfl,rfl,rfl⟩
 refine wP Z (wP Z (wP Z (wP Z (wP Z (Q2 (Q4 (Q5 [17,16,12,0,1,2,3,4] (S':=V8 ..) Z (Q6 (Q3 (wP Z (wP Z (Q2 (Q4 ?_)))))))))))))
 refine Q5 [11,16,12,0,1,2,3,4] (S':=V8 ..) Z (Q6 (Q3 (wP Z (wP Z (wP Z ?_)))))
 obtain ⟨bO,hm⟩:=Qd hm
 refine Qx (d:=117) (v':=.int .i64 (aE - j)) (S':=V10 ..) Z Z (i64_in bO) (wP Z (wP Z (wP Z ?_)))
 obtain ⟨bP,hm⟩:=Qd hm
 refine Qx (d:=120) (v':=.int .i64 (o - aE)) (S':=V13 ..) Z Z (i64_in bP) (wP Z (wP Z (Q2 (Q4 (Q5 [19,18,11,16,12,0,1,2,3,4] (S':=V10 ..) Z (Q6 (Q3 (wP Z (Q4l Z Z Z Zq Z Z Z (Q95 (by decide)) (wP Z (Q2 (Q4 (Q5 [20,19,18,11,16,0,1,2,3,4] (S':=V10 ..) Z ?_)))))))))))))
 refine Q6 (Q3 (wP Z (wP Z (wP Z (Q2 (Q4 (Q5 [125,20,19,18,11,16,0,1,2,3,4] (S':=V11 ..) Z ?_)))))))
 refine Qv Z (fun aY=>?_) (fun aY=>?_)
 replace hm:=Q1m hm aY
 refine Q5 [20,18,11,16,0,1,2,3,4] (S':=V9 ..) Z (Q6 (Q3 (wP Z (wP Z (wP Z (wP Z (Q2 (Q4 (Q5 [10,11,16,0,1,2,3,4] (S':=V8 ..) Z (Q6 (Q3 (wP Z (wP Z ?_)))))))))))))
 refine wP Z (wP Z (wP Z (QQ 0 Z (fun aS _=>(Q23 4 (v':=.slice y a9.length z) Z (by first | rfl | (rw [aS]; done) | simp) (Q23 8 (v':=.slice y a9.length z) Z (by first | rfl | (rw [aS]; done) | simp) (Q1r 0 (φ':=.own 45 2 Q8 (.slice y a9.length z) a9) Z (by first | rfl | (rw [aS]; done) | simp) (H':=[_,_]) Z ?_)))))))
 obtain ⟨⟨aQ,bI⟩,bQ,hm⟩:=Q7 hm
 try dsimp only at hm
 refine wC [0,1] [] Z fn_96 Z (ih y a9.length z a9 j aE aA a6 a7 a8 f _ _ bQ) (asK [0] Z) Z (H':=[]) Z ?_
 rintro _ _ _ ⟨cM,rfl,rfl,rfl⟩
 refine QQ 0 Z (fun b1 _=>?_)
 subst b1
 obtain ⟨aT,hm⟩:=Qd hm
 refine Q23 5 (v':=.slice y aQ.length z) Z (by rw [aT]) (Q23 9 (v':=.slice y aQ.length z) Z (by rw [aT]) (Q2 (Q4 (Q5 [10,11,16,0,2,3,4] (S':=V7 ..) Z (Q3 (wP Z (wP Z ?_)))))))
 obtain ⟨bR,hm⟩:=Qd hm
 refine Qx (d:=136) (v':=.int .i64 (aE + 1)) (S':=V8 ..) Z Z (i64_in bR) (wP Z (Q2 (Qi ?_)))
 have hE:=(Zi hm).symm
 replace hE:=Q11 hLu1 hE
 refine Q14 (_,aZ,decide ((aE - j) ≥ (IntKind.wrap .i64 (Int.tdiv (o - j) 8))),aQ,aE + 1,o,aA,bI,aQ.length) (Nat.lt_succ_self _) hE [11,10,0,1,2,3,4] Z (asK [0] Z) Z
 replace hm:=Q1l hm aY
 refine Q5 [20,19,11,16,0,1,2,3,4] (S':=V9 ..) Z (Q6 (Q3 (wP Z (wP Z (wP Z (wP Z (Q2 (Q4 (Q5 [10,11,16,0,1,2,3,4] (S':=V8 ..) Z (Q6 (Q3 (wP Z (wP Z ?_)))))))))))))
 refine wP Z ?_
 obtain ⟨bS,hm⟩:=Qd hm
 refine Qx (d:=142) (v':=.int .i64 (aE + 1)) (S':=V10 ..) Z Z (i64_in bS) (wP Z (wP Z (wP Z (QQ 0 Z (fun bF _=>(Q23 5 (v':=.slice y a9.length z) Z (by first | rfl | (rw [bF]; done) | simp) (Q23 9 (v':=.slice y a9.length z) Z (by first | rfl | (rw [bF]; done) | simp) (Q1r 0 (φ':=.own 45 2 Q8 (.slice y a9.length z) a9) Z (by first | rfl | (rw [bF]; done) | simp) (H':=[_,_]) Z ?_))))))))
 obtain ⟨⟨aR,bJ⟩,bT,hm⟩:=Q7 hm
 try dsimp only at hm
 refine wC [0,1] [] Z fn_96 Z (ih y a9.length z a9 (aE + 1) o aA a6 a7 a8 f _ _ bT) (asK [0] Z) Z (H':=[]) Z ?_
 rintro _ _ _ ⟨cN,rfl,rfl,rfl⟩
 refine QQ 0 Z (fun b2 _=>?_)
 subst b2
 obtain ⟨aU,hm⟩:=Qd hm
 refine Q23 6 (v':=.slice y aR.length z) Z (by rw [aU]) (Q23 10 (v':=.slice y aR.length z) Z (by rw [aU]) (Q2 (Q4 (Q5 [10,11,16,0,1,3,4] (S':=V7 ..) Z (Q3 (wP Z (wP Z (Q2 (Qi ?_)))))))))
 have hE:=(Zi hm).symm
 replace hE:=Q11 hLu1 hE
 refine Q14 (_,aZ,decide ((o - aE) ≥ (IntKind.wrap .i64 (Int.tdiv (o - j) 8))),aR,j,aE,aA,bJ,aR.length) (Nat.lt_succ_self _) hE [11,10,0,1,2,3,4] Z (asK [0] Z) Z
theorem Q80 : ∀ (N:Nat),∀ (qp0:OA) (qn1:Nat) (qc2:Nat) (l0:List Q1) (a1:Int) (a2:Int) (a3:Int) (qp3:Addr) (qn4:Nat) (qc5:Nat) (l4:List Int) (o0:List Q1) (o2:List Int),Q3c N l0 a1 a2 a3 l4 = some (o0,o2) → Q1z Tryz.prog 96 [.slice qp0 qn1 qc2,.int .i64 a1,.int .i64 a2,.int .i64 a3,.func (.func 41) #[.slice (some qp3) qn4 qc5] #[]] [tF] [.own 45 2 Q8 (.slice qp0 qn1 qc2) l0,.own 3 1 Qh (.slice (some qp3) qn4 qc5) l4] (fun v Φr Hr=>∃ (o1:Nat),v = .tuple #[] ∧ Φr = [] ∧ Hr = [.own 45 2 Q8 (.slice qp0 o1 qc2) o0,.own 3 1 Qh (.slice (some qp3) qn4 qc5) o2]):=by
 intro N
 induction N with
 | zero=>intro qp0 qn1 qc2 l0 a1 a2 a3 qp3 qn4 qc5 l4 o0 o2 hm; cases hm
 | succ N ih=>intro qp0 qn1 qc2 l0 a1 a2 a3 qp3 qn4 qc5 l4 o0 o2 hm; exact Q7K N (Q3c N) ih qp0 qn1 qc2 l0 a1 a2 a3 qp3 qn4 qc5 l4 o0 o2 hm
theorem Q25 (N:Nat) (qp0:OA) (qn1:Nat) (qc2:Nat) (l0:List Q1) (qp3:Addr) (qn4:Nat) (qc5:Nat) (l1:List Int) (o0:List Q1) (o2:List Int) (hm:Q2f N l0 l1 = some (o0,o2)):Q1z Tryz.prog 43 [.slice qp0 qn1 qc2,.func (.func 41) #[.slice (some qp3) qn4 qc5] #[]] [tF] [.own 45 2 Q8 (.slice qp0 qn1 qc2) l0,.own 3 1 Qh (.slice (some qp3) qn4 qc5) l1] (fun v Φr Hr=>∃ (o1:Nat),v = .tuple #[] ∧ Φr = [] ∧ Hr = [.own 45 2 Q8 (.slice qp0 o1 qc2) o0,.own 3 1 Qh (.slice (some qp3) qn4 qc5) o2]):=by
 unfold Q2f at hm
 refine Q12 Tryz.func43 Z Tryz.ntmps43 Z (S:=[_,_]) Z (fun C=>(Q6 (Q3 (wP Z (QQ 0 Z (fun hl6 _=>(wN Z QG (Qx (d:=6) (v':=.int .i64 ((l0.length:Nat):Int)) (S':=V3 ..) Z Z (Q3F hl6) (wP Z (Q2 (Q4 (Q5 [4,0,1] (S':=V3 ..) Z (Q3 (wP Z (wP Z ?_)))))))))))))))
 refine wP Z (Qao Z Z Z Zq (rk_conv Z Z tI_3 tI_157) ?_)
 obtain ⟨v11,hc11,hm⟩:=Q7 hm
 refine wC [] [0,1] Z fn_97 Z (w_bits_Len_s N (IntKind.wrap .u64 ((l0.length:Nat):Int)) _ hc11) (asK [0] Z) Z (H':=[_,_]) Z ?_
 rintro _ _ _ ⟨rfl,rfl,rfl⟩
 refine wP Z (QQ 0 Z (fun hzqn1 _=>?_))
 subst hzqn1
 obtain ⟨⟨v13_0,v13_1⟩,hc13,hm⟩:=Q7 hm
 try dsimp only at hm
 refine wC [0,1] [] Z fn_96 Z (Q80 N qp0 l0.length qc2 l0 0 ((l0.length:Nat):Int) v11 qp3 qn4 qc5 l1 _ _ hc13) (asK [0] Z) Z (H':=[]) Z ?_
 rintro _ _ _ ⟨c13_0,rfl,rfl,rfl⟩
 refine QQ 0 Z (fun hzc13_0 _=>?_)
 subst hzc13_0
 obtain ⟨hrl13_0,hm⟩:=Qd hm
 refine Q23 6 (v':=.slice qp0 v13_0.length qc2) Z (by rw [hrl13_0]) (Q23 8 (v':=.slice qp0 v13_0.length qc2) Z (by rw [hrl13_0]) (Q2 ?_))
 have hE:=(Zi hm).symm
 obtain ⟨hE0,hE1⟩:=Prod.mk.inj hE
 clear hE
 replace hE0:=hE0.symm
 subst hE0
 replace hE1:=hE1.symm
 subst hE1
 refine Q4R (Hr:=[_,_]) [0,1] Tryz.results43 ⟨v13_0.length,Z,Z,Z⟩ (asK [] Z) Z Z (.inr Z)
theorem Q30 (N:Nat) (aU:Nat) (aP:Addr) (aQ:Nat) (aR:Nat) (l0:List Int) (aV:OA) (aW:Nat) (aX:Nat) (l1:List Q1) (aY:OA) (aZ:Nat) (b0:Nat) (l2:List Q1) (aA:Nat) (e3:List (ByteArray × Bool)) (b5:OA) (bL:Nat) (aB:Nat) (l4:List Q1) (o0:Nat) (o1:List Int) (o4:List Q1) (o8:List Q1) (cZ:List (ByteArray × Bool)) (hm:Q33 N l0 l1 l2 e3 l4 = some (o0,o1,o4,o8,cZ)):Q1z Tryz.prog 21 [.pointer (some ⟨aU,0,none⟩),.slice b5 bL aB] [tF] [.blk aU [.slice (some aP) aQ aR,.slice aV aW aX,.slice aY aZ b0,.map (some aA)] 66,.own 3 1 Qh (.slice (some aP) aQ aR) l0,.own 45 2 Q8 (.slice aV aW aX) l1,.own 45 2 Q8 (.slice aY aZ b0) l2,Q1Y (Q1h (QZ Q1Z)) false Q13 aA e3,Q1e Qa 45 2 (.slice b5 bL aB) l4] (fun v Φr Hr=>∃ (o2:OA) (o3:Nat) (o5:Nat) (o6:OA) (o7:Nat) (o9:Nat) (d0:Nat),v = .int .i64 ((o0:Nat):Int) ∧ Φr = [] ∧ Hr = [.blk aU [.slice (some aP) aQ aR,.slice o2 o5 o3,.slice o6 o9 o7,.map (some d0)] 66,.own 3 1 Qh (.slice (some aP) aQ aR) o1,.own 45 2 Q8 (.slice o2 o5 o3) o4,.own 45 2 Q8 (.slice o6 o9 o7) o8,Q1Y (Q1h (QZ Q1Z)) false Q13 d0 cZ,Q1e Qa 45 2 (.slice b5 bL aB) l4]):=by
 unfold Q33 at hm
 refine Q12 Tryz.func21 Z Tryz.ntmps21 Z (S:=[_,_]) Z (fun C=>(Q6 (Q3 (wP Z (Q2 (Q4 (Q5 [0,1] (S':=[_,_]) Z (Q6 (Q6 (Q3 (wP Z ?_)))))))))))
 obtain ⟨_,d1,hm⟩:=Q7 hm
 try dsimp only at hm
 refine wC [0,1,2,3,4] [5] Z fn_32 Z (Q2F N aU aP aQ aR l0 aV aW aX l1 aY aZ b0 l2 aA e3 d1) (asK [0] Z) Z (H':=[_]) Z ?_
 rintro _ _ _ ⟨rfl,rfl,rfl⟩
 refine wP Z (Q2 (Q4 (Q5 [14,0,1] (S':=V3 ..) Z (Q2X Z (Q5 [0,1] (S':=[_,_]) Z (Qt (Q4 (Q6 (Q3 (Q89 (Q1h (QZ Q1Z)) false Q13 Z Z Z Zq Z (fun bW=>(wP Z (Q2 (Q4 ?_))))))))))))))
 refine Q5 [5,0,1] (S':=V3 ..) Z (Q6 ?_)
 obtain ⟨cR,hm,hLj_1⟩:=Q1R hm
 refine Q15 (σ:=Unit) (fun _=>cR = .inl ()) (fun _=>[(0,.pointer (some ⟨aU,0,none⟩)),(1,.slice b5 bL aB)]) (fun _=>[tF]) (fun _=>[.blk aU [.slice (some aP) aQ aR,.slice aV aW aX,.slice aY aZ b0,.map (some aA)] 66,.own 3 1 Qh (.slice (some aP) aQ aR) l0,.own 45 2 Q8 (.slice aV aW aX) l1,.own 45 2 Q8 (.slice aY aZ b0) l2,Q1Y (Q1h (QZ Q1Z)) false Q13 aA e3,Q1e Qa 45 2 (.slice b5 bL aB) l4]) ?_ ?_
 refine Q6 (Q3 (wP Z (Q1J 6 Z (fun d2 _=>?_))))
 subst d2
 refine wN Z QG (wP Z (Q2 (Q4 (Qn (Q3l [6,0,1,2,3,4,5] Z (H':=V7 ..) Z (Q1b (σ:=Nat × Nat × (List (ByteArray × Bool))) (fun (bX,a9,aS)=>Q1B (Q6K N l4 l0 l1 l2 e3) bX (a9,aS) = some cR) (fun (bX,a9,aS)=>bX) (fun (bX,a9,aS)=>[(18,.int .i64 ((a9:Nat):Int)),(17,.int .i64 ((l4.length:Nat):Int)),(16,.slice b5 l4.length aB),(5,.map (some bW)),(0,.pointer (some ⟨aU,0,none⟩)),(1,.slice b5 l4.length aB)]) (fun (bX,a9,aS)=>[tF]) (fun (bX,a9,aS)=>[Q1e Qa 45 2 (.slice b5 l4.length aB) l4,Q1Y (Q1h (QZ Q1Z)) false Q13 bW aS,.blk aU [.slice (some aP) aQ aR,.slice aV aW aX,.slice aY aZ b0,.map (some aA)] 66,.own 3 1 Qh (.slice (some aP) aQ aR) l0,.own 45 2 Q8 (.slice aV aW aX) l1,.own 45 2 Q8 (.slice aY aZ b0) l2,Q1Y (Q1h (QZ Q1Z)) false Q13 aA e3]) (N,0,([] : List (ByteArray × Bool))) hm [18,17,16,5,0,1] Z (asK [0] Z) Z (fun s_ hm=>?_)))))))
 obtain ⟨bX,a9,aS⟩:=s_
 try dsimp only at hm ⊢
 obtain ⟨dZ,e0,d3,hq,hLu1⟩:=Q18 hm
 clear hm
 subst d3
 replace hm:=hq
 clear hq
 unfold Q6K at hm
 try dsimp only at hm
 refine Q6 (Q3 (wP Z (Qx (d:=19) (v':=.bool (decide (a9 < l4.length))) (S':=V6 ..) Z Z (Q20 (a:=a9) (b:=l4.length)) (Q2 (Q4 (Q6 ?_))))))
 refine Qv Z (fun cA=>?_) (fun cA=>?_)
 replace hm:=Q1m hm cA
 refine Q5 [18,17,16,5,0,1] (S':=V6 ..) Z (Qt (Q4 (Q6 (Qn (Q6 (Q3 (Q39 0 Z (fun b1 bY=>?_))))))))
 obtain ⟨aT,d4,hm⟩:=Q7 hm
 obtain ⟨aC,bE⟩:=zip_at bY d4
 refine Q24 1 a9 Z Z Z Zq Z Z Z Z Z (QB bE) QG Qg (fun bP d5=>?_)
 subst d5
 refine Q1t [.own 3 1 Qh (.slice aC.1 aT.ids.length aC.2) aT.ids,Q1w Qa b1 (some a9),_,_,_,_,_,_,_] (fun _ h=>h.bagOpen 0 a9 Z bE) (Qk Q7Z 2 a9 0 Z Z Z Zq Z Z Z bE Qg QT (v:=fun _=>.agg #[.int .i64 (aT.rule),.slice aC.1 aT.ids.length aC.2]) (fun _=>Z) (fun _=>Z) (fun _ _=>(Q1s Z Z Z Zq Z Q1X Z (fun g7=>(wS 0 0 Z Qg (all':=[_,_]) Z (H':=V10 ..) Z (Q2 (Q4 (Q5 [7,18,17,16,5,0,1] (S':=V7 ..) Z (Q6 (Q6 ?_))))))))))
 obtain ⟨d7,hm,hLj_2⟩:=Q7 hm
 unfold Q8c at hm
 refine Q15 (σ:=Bool) (fun bB=>d7 = bB) (fun bB=>[(7,.pointer (some ⟨g7,0,none⟩)),(18,.int .i64 ((a9:Nat):Int)),(17,.int .i64 ((l4.length:Nat):Int)),(16,.slice (some ⟨bP,0,none⟩) l4.length aB),(5,.map (some bW)),(0,.pointer (some ⟨aU,0,none⟩)),(1,.slice (some ⟨bP,0,none⟩) l4.length aB),(40,.bool bB)]) (fun bB=>[tF]) (fun bB=>[.blk g7 [.int .i64 (aT.rule),.slice aC.1 aT.ids.length aC.2] 45,.own 3 1 Qh (.slice aC.1 aT.ids.length aC.2) aT.ids,.own 45 2 Qa.pair (.slice (some ⟨bP,0,none⟩) l4.length aB) b1,Q1Y (Q1h (QZ Q1Z)) false Q13 bW aS,.blk aU [.slice (some aP) aQ aR,.slice aV aW aX,.slice aY aZ b0,.map (some aA)] 66,.own 3 1 Qh (.slice (some aP) aQ aR) l0,.own 45 2 Q8 (.slice aV aW aX) l1,.own 45 2 Q8 (.slice aY aZ b0) l2,Q1Y (Q1h (QZ Q1Z)) false Q13 aA e3,Q1w Qa b1 (some a9)]) ?_ ?_
 rcases Q2k hm with ⟨bQ,hm⟩ | ⟨bQ,hm⟩
 refine QV [0,1,2,3,4,5,6,7,8,9,10,11,12,13,14,15,18] Z Z (fun hok=>(Qm hok 0 Z Z Z Zq Z Z Z Q22 (Qr hok 1 0 0 Z Z Z Zq Z Z Z Z (cs:=[_]) Z Q1i Q2d Z Z (xP hok 2 Z (xP hok 3 Z (Q1g (d:=25) (v':=.bool true) (S':=V10 ..) Z Z (Q16 bQ) (xO hok 4 Z (xO hok 5 Z (xO hok 6 Z (xO hok 7 Z (xO hok 8 Z (xO hok 9 Z (xO hok 10 Z (xO hok 11 Z ?_))))))))))))))
 refine xP hok 12 Z (xP hok 13 Z (xO hok 14 Z (xO hok 15 Z (xS hok 16 Z (wO Z (Q2 (Qs [0] [0] Z Z (xS hok 17 Z (wO Z (Q2 (Qs [0] [0] Z Z (xP hok 18 Z (QI hok Z ?_)))))))))))))
 have hE:=(Zi hm).symm
 refine Q17 [0,1,3,4,5,6,7,8,9,2] Z (H':=V10 ..) Z ?_
 refine Qp true hE [7,18,17,16,5,0,1,40] Z (asK [0] Z) Z
 rcases Q2k hm with ⟨c5,hm⟩ | ⟨c5,hm⟩
 refine QV [0,1,2,3,4,5,6,7,8,9,10,11,12,13,14,15,18] Z Z (fun hok=>(Qm hok 0 Z Z Z Zq Z Z Z Q22 (Qr hok 1 0 0 Z Z Z Zq Z Z Z Z (cs:=[_]) Z Q1i Q2d Z Z (xP hok 2 Z (xP hok 3 Z (Q1g (d:=25) (v':=.bool false) (S':=V10 ..) Z Z (Q16 bQ) (Qm hok 4 Z Z Z Zq Z Z Z Q22 (Qr hok 5 0 0 Z Z Z Zq Z Z Z Z (cs:=[_]) Z Q1i Q2d Z Z (xP hok 6 Z (xP hok 7 Z (Qm hok 8 Z Z Z Zq Z Z Z Q61 (Qr hok 9 5 0 Z Z Z Zq Z Z Z Z (cs:=[_]) Z Q8G Q8F Z Z (Q6E 6 Z (fun bR _=>(Q3r hok 10 Z Z Z Zq Z Z Z tE_62 ?_)))))))))))))))
 refine Q1g (d:=32) (v':=.int .i64 ((l0.length:Nat):Int)) (S':=V17 ..) Z Z (Q3F bR) (xP hok 11 Z (xP hok 12 Z (xP hok 13 Z (Q1g (d:=35) (v':=.bool true) (S':=V20 ..) Z Z (Q16 c5) (xO hok 14 Z (xO hok 15 Z (xS hok 16 Z (wO Z (Q2 (Qs [0] [5,0,0] Z Z (xS hok 17 Z (wO Z (Q2 ?_)))))))))))))
 refine Qs [0] [5,0,0] Z Z (xP hok 18 Z (QI hok Z ?_))
 have hE:=(Zi hm).symm
 refine Q17 [0,1,3,4,5,6,7,8,9,2] Z (H':=V10 ..) Z ?_
 refine Qp true hE [7,18,17,16,5,0,1,40] Z (asK [0] Z) Z
 obtain ⟨d8,cS,hm⟩:=Q7 hm
 rcases QaH hm with ⟨cB,hm⟩ | ⟨cL,cB,hm⟩
 refine QV [0,1,2,3,4,5,6,7,8,9,10,11,12,13,14,15,18] Z Z (fun hok=>(Qm hok 0 Z Z Z Zq Z Z Z Q22 (Qr hok 1 0 0 Z Z Z Zq Z Z Z Z (cs:=[_]) Z Q1i Q2d Z Z (xP hok 2 Z (xP hok 3 Z (Q1g (d:=25) (v':=.bool false) (S':=V10 ..) Z Z (Q16 bQ) (Qm hok 4 Z Z Z Zq Z Z Z Q22 (Qr hok 5 0 0 Z Z Z Zq Z Z Z Z (cs:=[_]) Z Q1i Q2d Z Z (xP hok 6 Z (xP hok 7 Z (Qm hok 8 Z Z Z Zq Z Z Z Q61 (Qr hok 9 5 0 Z Z Z Zq Z Z Z Z (cs:=[_]) Z Q8G Q8F Z Z (Q6E 6 Z (fun bR _=>(Q3r hok 10 Z Z Z Zq Z Z Z tE_62 ?_)))))))))))))))
 refine Q1g (d:=32) (v':=.int .i64 ((l0.length:Nat):Int)) (S':=V17 ..) Z Z (Q3F bR) (xP hok 11 Z (xP hok 12 Z (xP hok 13 Z (Q1g (d:=35) (v':=.bool false) (S':=V20 ..) Z Z (Q16 c5) (xP hok 14 Z (Qr hok 15 0 0 Z Z Z Zq Z Z Z Z (cs:=[_,_]) Z Qg QT Z Z (xS hok 16 Z (Q1y [] [0,1,2,3,4,5,6,7,8,9] [1] Z Z Z Zq Z Z fn_42 Z (Q2W N aT.rule aC.1 aC.2 aT.ids _ cS) (fun F w hφ hh=>(Qe (Q1d (hh _ (Qo (k:=0) Z))) (Qe (hφ _ (Qo (k:=0) Z)) Ql))) (fun _ _ _ hR=>by obtain ⟨rfl,rfl,rfl⟩:=hR; exact ⟨Z,(fun _ h=>Q1q h)⟩) Z Z (H':=V10 ..) Z ?_))))))))
 rintro _ _ _ ⟨rfl,rfl,rfl⟩
 refine Q2 (Qs [0] [5,0,0] Z Z (xS hok 17 Z (Qan (i:=d8) 4 Z Z Z Zq Z Z Z Z tZ_4 Q9i trivial cB (v:=.bool false) Z (Q2 (Qs [0] [0,5,0,0] Z Z (xP hok 18 Z (QI hok Z ?_)))))))
 have hE:=(Zi hm).symm
 refine Q17 [0,1,3,4,5,6,7,8,9,2] Z (H':=V10 ..) Z ?_
 refine Qp false hE [7,18,17,16,5,0,1,40] Z (asK [0] Z) Z
 refine QV [0,1,2,3,4,5,6,7,8,9,10,11,12,13,14,15,18] Z Z (fun hok=>(Qm hok 0 Z Z Z Zq Z Z Z Q22 (Qr hok 1 0 0 Z Z Z Zq Z Z Z Z (cs:=[_]) Z Q1i Q2d Z Z (xP hok 2 Z (xP hok 3 Z (Q1g (d:=25) (v':=.bool false) (S':=V10 ..) Z Z (Q16 bQ) (Qm hok 4 Z Z Z Zq Z Z Z Q22 (Qr hok 5 0 0 Z Z Z Zq Z Z Z Z (cs:=[_]) Z Q1i Q2d Z Z (xP hok 6 Z (xP hok 7 Z (Qm hok 8 Z Z Z Zq Z Z Z Q61 (Qr hok 9 5 0 Z Z Z Zq Z Z Z Z (cs:=[_]) Z Q8G Q8F Z Z (Q6E 6 Z (fun bR _=>(Q3r hok 10 Z Z Z Zq Z Z Z tE_62 ?_)))))))))))))))
 refine Q1g (d:=32) (v':=.int .i64 ((l0.length:Nat):Int)) (S':=V17 ..) Z Z (Q3F bR) (xP hok 11 Z (xP hok 12 Z (xP hok 13 Z (Q1g (d:=35) (v':=.bool false) (S':=V20 ..) Z Z (Q16 c5) (xP hok 14 Z (Qr hok 15 0 0 Z Z Z Zq Z Z Z Z (cs:=[_,_]) Z Qg QT Z Z (xS hok 16 Z (Q1y [] [0,1,2,3,4,5,6,7,8,9] [1] Z Z Z Zq Z Z fn_42 Z (Q2W N aT.rule aC.1 aC.2 aT.ids _ cS) (fun F w hφ hh=>(Qe (Q1d (hh _ (Qo (k:=0) Z))) (Qe (hφ _ (Qo (k:=0) Z)) Ql))) (fun _ _ _ hR=>by obtain ⟨rfl,rfl,rfl⟩:=hR; exact ⟨Z,(fun _ h=>Q1q h)⟩) Z Z (H':=V10 ..) Z ?_))))))))
 rintro _ _ _ ⟨rfl,rfl,rfl⟩
 refine Q2 (Qs [0] [5,0,0] Z Z (xS hok 17 Z (Q9O (i:=d8) (a:=cL) Q40 4 Z Z Z Zq Z Z Z Z Q9i trivial cB (u:=fun _=>.bool cL) (fun _=>Z) (v:=fun _=>.bool cL) (fun _=>Z) (fun _ _=>(Q2 (Qs [0] [0,5,0,0] Z Z (xP hok 18 Z (QI hok Z ?_))))))))
 have hE:=(Zi hm).symm
 refine Q17 [0,1,3,4,5,6,7,8,9,2] Z (H':=V10 ..) Z ?_
 refine Qp cL hE [7,18,17,16,5,0,1,40] Z (asK [0] Z) Z
 rintro bB hE
 try dsimp only
 have hm:=hLj_2
 try rw [hE] at hm
 refine Qv Z (fun cC=>?_) (fun cC=>?_)
 replace hm:=Q1m hm cC
 refine Q5 [] (S':=[]) Z (Q6 (Q3 (wP Z (Q2 (Q4 (QJ (Qj (QR (Qj (Qj (QR (Qj ?_))))))))))))
 have hE:=(Zi hm).symm
 replace hE:=QE hLu1 hE
 replace hE:=QE hLj_1 hE
 obtain ⟨hE0,hF1⟩:=Prod.mk.inj hE
 obtain ⟨hE1,hF2⟩:=Prod.mk.inj hF1
 obtain ⟨hE2,hF3⟩:=Prod.mk.inj hF2
 obtain ⟨hE3,hE4⟩:=Prod.mk.inj hF3
 clear hE hF1 hF2 hF3
 replace hE0:=hE0.symm
 subst hE0
 replace hE1:=hE1.symm
 subst hE1
 replace hE2:=hE2.symm
 subst hE2
 replace hE3:=hE3.symm
 subst hE3
 replace hE4:=hE4.symm
 subst hE4
 refine Q17 [1,0,2,3,4,5,6,7,8,9] Z (H':=V10 ..) Z (Q6J [_,_,_,_,_,_,_,_,Q1w Qa (b1.set a9 (aT,aC)) none] (fun _ h=>QU.bagClose (T:=Qa) (x:=aT) (r:=aC) (i:=a9) (zs:=b1) (H:=V9 ..) h 8 Z) (Qa1 8 (φ':=Q1w Qa b1 none) Z (by rw [Q8E bE]) (H':=[.blk g7 [.int .i64 (aT.rule),.slice aC.1 aT.ids.length aC.2] 45,.own 45 2 Qa.pair (.slice (some ⟨bP,0,none⟩) l4.length aB) b1,Q1Y (Q1h (QZ Q1Z)) false Q13 bW aS,.blk aU [.slice (some aP) aQ aR,.slice aV aW aX,.slice aY aZ b0,.map (some aA)] 66,.own 3 1 Qh (.slice (some aP) aQ aR) l0,.own 45 2 Q8 (.slice aV aW aX) l1,.own 45 2 Q8 (.slice aY aZ b0) l2,Q1Y (Q1h (QZ Q1Z)) false Q13 aA e3,Q1w Qa b1 none]) Z (Q6J [_,Q1e Qa 45 2 (.slice (some ⟨bP,0,none⟩) l4.length aB) l4,_,_,_,_,_,_] (fun _ h=>h.treeIn 1 8 Z Z Z bY) ?_)))
 refine QA (Hr:=V6 ..) [3,4,5,6,7,1] Tryz.results21 (Qy Z) ⟨aV,aX,aW,aY,b0,aZ,aA,Z,Z,Z⟩ (asK [] Z) Z Z (.inl Z)
 replace hm:=Q1l hm cC
 refine Q5 [7,18,17,16,5,0,1] (S':=V7 ..) Z (Qt (Q4 (Q3 (wP Z (Q1E 0 0 Z Z Z Zq Z Z Z (cs:=[_,_]) Z Qg QT Z Z ?_)))))
 obtain ⟨cM,d9,hm⟩:=Q7 hm
 refine Q1y [] [0,1,2,3,4,5,6,7,8,9] [1] Z Z Z Zq Z Z fn_42 Z (Q2W N aT.rule aC.1 aC.2 aT.ids _ d9) (fun F w hφ hh=>(Qe (Q1d (hh _ (Qo (k:=0) Z))) (Qe (hφ _ (Qo (k:=0) Z)) Ql))) (fun _ _ _ hR=>by obtain ⟨rfl,rfl,rfl⟩:=hR; exact ⟨Z,(fun _ h=>Q1q h)⟩) Z Z (H':=V10 ..) Z ?_
 rintro _ _ _ ⟨rfl,rfl,rfl⟩
 refine Q81 (i:=cM) (u:=true) (cs:=[.bool true]) ltB 3 Z Z (.inl Z) Z Z Z Z Q9i trivial Z (fun F w hφ=>⟨(),Z,Ql⟩) (H':=[.blk g7 [.int .i64 (aT.rule),.slice aC.1 aT.ids.length aC.2] 45,.own 3 1 Qh (.slice aC.1 aT.ids.length aC.2) aT.ids,.own 45 2 Qa.pair (.slice (some ⟨bP,0,none⟩) l4.length aB) b1,Q1Y (Q1h (QZ Q1Z)) false Q13 bW (Q7p ltB cM true aS),.blk aU [.slice (some aP) aQ aR,.slice aV aW aX,.slice aY aZ b0,.map (some aA)] 66,.own 3 1 Qh (.slice (some aP) aQ aR) l0,.own 45 2 Q8 (.slice aV aW aX) l1,.own 45 2 Q8 (.slice aY aZ b0) l2,Q1Y (Q1h (QZ Q1Z)) false Q13 aA e3,Q1w Qa b1 (some a9)]) Z (Q2 (Qi (Q4 (Q5 [18,17,16,5,0,1] (S':=V6 ..) Z (Q3 (wP Z ?_))))))
 obtain ⟨dA,hm⟩:=Qd hm
 refine Qx (d:=44) (v':=.int .i64 ((a9 + 1:Nat):Int)) (S':=V6 ..) Z Z (Q1f (a:=a9) (b:=1) dA) (QM (S':=V6 ..) Z Z Z Z Z (Q2 ?_))
 have hE:=(Zi hm).symm
 replace hE:=Q11 hLu1 hE
 refine Q17 [1,0,2,3,4,5,6,7,8,9] Z (H':=V10 ..) Z (Q6J [_,_,_,_,_,_,_,_,Q1w Qa (b1.set a9 (aT,aC)) none] (fun _ h=>QU.bagClose (T:=Qa) (x:=aT) (r:=aC) (i:=a9) (zs:=b1) (H:=V9 ..) h 8 Z) (Qa1 8 (φ':=Q1w Qa b1 none) Z (by rw [Q8E bE]) (H':=[.blk g7 [.int .i64 (aT.rule),.slice aC.1 aT.ids.length aC.2] 45,.own 45 2 Qa.pair (.slice (some ⟨bP,0,none⟩) l4.length aB) b1,Q1Y (Q1h (QZ Q1Z)) false Q13 bW (Q7p ltB cM true aS),.blk aU [.slice (some aP) aQ aR,.slice aV aW aX,.slice aY aZ b0,.map (some aA)] 66,.own 3 1 Qh (.slice (some aP) aQ aR) l0,.own 45 2 Q8 (.slice aV aW aX) l1,.own 45 2 Q8 (.slice aY aZ b0) l2,Q1Y (Q1h (QZ Q1Z)) false Q13 aA e3,Q1w Qa b1 none]) Z (Q6J [_,Q1e Qa 45 2 (.slice (some ⟨bP,0,none⟩) l4.length aB) l4,_,_,_,_,_,_] (fun _ h=>h.treeIn 1 8 Z Z Z bY) (Q17 [1,2,3,4,5,6,7] Z (H':=V7 ..) Z ?_))))
 refine Q14 (_,a9 + 1,Q7p ltB cM true aS) (Nat.lt_succ_self _) hE [18,17,16,5,0,1] Z (asK [0] Z) Z
 replace hm:=Q1l hm cA
 refine Q5 [0,1] (S':=[_,_]) Z (Q19 (Qc (Qc (Qu ?_))))
 have hE:=(Zi hm).symm
 replace hE:=QE hLu1 hE
 refine Q17 [2,3,4,5,6,0] Z (H':=V6 ..) Z ?_
 refine Qp () hE [0,1] Z (asK [0] Z) Z
 rintro _ hE
 try dsimp only
 have hm:=Q11 hLj_1 hE
 try dsimp only at hm
 refine Q6 (Q3 (wP Z (wP Z (wP Z (wF Z Q5j (wS 0 1 Z Q1O (all':=V4 ..) Z (H':=V6 ..) Z (wP Z (wF Z Q5K (wS 0 2 Z Q1O (all':=V4 ..) Z (H':=V6 ..) Z (Q2 (Q4 (Q5 [0,1] (S':=[_,_]) Z (Q6 ?_)))))))))))))
 refine Q3 (Q89 (Q1h (QZ Q1Z)) false Q13 Z Z Z Zq Z (fun bD=>(wP Z (Q2 (Q4 (Q5 [8,0,1] (S':=V3 ..) Z (Q6 ?_)))))))
 obtain ⟨cT,hm,hLj_3⟩:=Q7 hm
 refine Q15 (σ:=(List (ByteArray × Bool)) × (List Q1) × (List Q1) × OA × Nat × Nat × OA × Nat × Nat) (fun (b6,a2,a3,a5,a6,aF,a7,a8,aG)=>cT = (b6,a2,a3)) (fun (b6,a2,a3,a5,a6,aF,a7,a8,aG)=>[(8,.map (some bD)),(0,.pointer (some ⟨aU,0,none⟩))]) (fun (b6,a2,a3,a5,a6,aF,a7,a8,aG)=>[tF]) (fun (b6,a2,a3,a5,a6,aF,a7,a8,aG)=>[Q1Y (Q1h (QZ Q1Z)) false Q13 bD b6,.blk aU [.slice (some aP) aQ aR,.slice a5 aF a6,.slice a7 aG a8,.map (some aA)] 66,.own 3 1 Qh (.slice (some aP) aQ aR) l0,Q1e Qa 45 2 (.slice a5 aF a6) a2,Q1e Qa 45 2 (.slice a7 aG a8) a3,Q1Y (Q1h (QZ Q1Z)) false Q13 aA e3,.own 45 2 Q8 (.slice aV aW aX) l1,.own 45 2 Q8 (.slice aY aZ b0) l2,Q1e Qa 45 2 (.slice b5 bL aB) l4]) ?_ ?_
 refine Q6 (Q3 (wP Z (Q1J 6 Z (fun cU _=>?_))))
 subst cU
 refine wN Z QG (wP Z (Q2 (Q4 (Q5 [54,53,52,8,0] (S':=V5 ..) Z (Qn (Q77 [Q1e Qa 45 2 (V1) [],_,_,_,_,_,_,_] (fun _ h=>h.treeNil Qa 45 2) (Q77 [Q1e Qa 45 2 (V1) [],_,_,_,_,_,_,_,_] (fun _ h=>h.treeNil Qa 45 2) (Q3l [8,2,3,4,1,0,7,5,6] Z (H':=V9 ..) Z (Q1b (σ:=Nat × Nat × (List (ByteArray × Bool)) × (List Q1) × (List Q1) × OA × Nat × Nat × OA × Nat × Nat) (fun (bZ,a4,aE,f,j,q,s,y,z,a0,a1)=>Q1B (Q6L N l4 e3) bZ (a4,aE,f,j) = some cT) (fun (bZ,a4,aE,f,j,q,s,y,z,a0,a1)=>bZ) (fun (bZ,a4,aE,f,j,q,s,y,z,a0,a1)=>[(54,.int .i64 ((a4:Nat):Int)),(53,.int .i64 ((l4.length:Nat):Int)),(52,.slice b5 l4.length aB),(8,.map (some bD)),(0,.pointer (some ⟨aU,0,none⟩))]) (fun (bZ,a4,aE,f,j,q,s,y,z,a0,a1)=>[tF]) (fun (bZ,a4,aE,f,j,q,s,y,z,a0,a1)=>[Q1e Qa 45 2 (.slice b5 l4.length aB) l4,Q1Y (Q1h (QZ Q1Z)) false Q13 bD aE,.blk aU [.slice (some aP) aQ aR,.slice q y s,.slice z a1 a0,.map (some aA)] 66,.own 3 1 Qh (.slice (some aP) aQ aR) l0,Q1e Qa 45 2 (.slice q y s) f,Q1e Qa 45 2 (.slice z a1 a0) j,Q1Y (Q1h (QZ Q1Z)) false Q13 aA e3,.own 45 2 Q8 (.slice aV aW aX) l1,.own 45 2 Q8 (.slice aY aZ b0) l2]) (N,0,([] : List (ByteArray × Bool)),[],[],none,0,0,none,0,0) hm [54,53,52,8,0] Z (asK [0] Z) Z (fun s_ hm=>?_))))))))))
 obtain ⟨bZ,a4,aE,f,j,q,s,y,z,a0,a1⟩:=s_
 try dsimp only at hm ⊢
 obtain ⟨e1,e2,dB,hq,hLu2⟩:=Q18 hm
 clear hm
 subst dB
 replace hm:=hq
 clear hq
 unfold Q6L at hm
 try dsimp only at hm
 refine Q6 (Q3 (wP Z (Qx (d:=55) (v':=.bool (decide (a4 < l4.length))) (S':=V5 ..) Z Z (Q20 (a:=a4) (b:=l4.length)) (Q2 (Q4 (Q6 ?_))))))
 refine Qv Z (fun cD=>?_) (fun cD=>?_)
 replace hm:=Q1m hm cD
 refine Q5 [54,53,52,8,0] (S':=V5 ..) Z (Qt (Q4 (Q6 ?_)))
 obtain ⟨dC,hm,hLj_4⟩:=Q7 hm
 unfold Q8d at hm
 refine Q15 (σ:=(List (ByteArray × Bool)) × (List Q1) × (List Q1) × OA × Nat × Nat × OA × Nat × Nat) (fun (b2,aH,aI,aJ,aK,aL,aM,aN,aO)=>dC = (b2,aH,aI)) (fun (b2,aH,aI,aJ,aK,aL,aM,aN,aO)=>[(54,.int .i64 ((a4:Nat):Int)),(53,.int .i64 ((l4.length:Nat):Int)),(52,.slice b5 l4.length aB),(8,.map (some bD)),(0,.pointer (some ⟨aU,0,none⟩))]) (fun (b2,aH,aI,aJ,aK,aL,aM,aN,aO)=>[tF]) (fun (b2,aH,aI,aJ,aK,aL,aM,aN,aO)=>[Q1e Qa 45 2 (.slice b5 l4.length aB) l4,Q1Y (Q1h (QZ Q1Z)) false Q13 bD b2,.blk aU [.slice (some aP) aQ aR,.slice aJ aL aK,.slice aM aO aN,.map (some aA)] 66,.own 3 1 Qh (.slice (some aP) aQ aR) l0,Q1e Qa 45 2 (.slice aJ aL aK) aH,Q1e Qa 45 2 (.slice aM aO aN) aI,Q1Y (Q1h (QZ Q1Z)) false Q13 aA e3,.own 45 2 Q8 (.slice aV aW aX) l1,.own 45 2 Q8 (.slice aY aZ b0) l2]) ?_ ?_
 refine Qn (Q6 (Q3 (Q39 0 Z (fun b3 c0=>?_))))
 obtain ⟨o,dD,hm⟩:=Q7 hm
 obtain ⟨aD,bF⟩:=zip_at c0 dD
 refine Q24 1 a4 Z Z Z Zq Z Z Z Z Z (QB bF) QG Qg (fun c1 dE=>?_)
 subst dE
 refine Q1t [.own 3 1 Qh (.slice aD.1 o.ids.length aD.2) o.ids,Q1w Qa b3 (some a4),_,_,_,_,_,_,_,_,_] (fun _ h=>h.bagOpen 0 a4 Z bF) (Qk Q7Z 2 a4 0 Z Z Z Zq Z Z Z bF Qg QT (v:=fun _=>.agg #[.int .i64 (o.rule),.slice aD.1 o.ids.length aD.2]) (fun _=>Z) (fun _=>Z) (fun _ _=>(Q1s Z Z Z Zq Z Q1X Z (fun cE=>(wS 0 0 Z Qg (all':=[_,_]) Z (H':=V12 ..) Z (Q2 (Q4 (Q5 [10,54,53,52,8,0] (S':=V6 ..) Z (Q6 (Q6 (Q3 (Q1E 0 0 Z Z Z Zq Z Z Z (cs:=[_,_]) Z Qg QT Z Z ?_))))))))))))
 obtain ⟨c2,dF,hm⟩:=Q7 hm
 refine Q1y [] [0,1,2,3,4,5,6,7,8,9,10,11] [1] Z Z Z Zq Z Z fn_42 Z (Q2W N o.rule aD.1 aD.2 o.ids _ dF) (fun F w hφ hh=>(Qe (Q1d (hh _ (Qo (k:=0) Z))) (Qe (hφ _ (Qo (k:=0) Z)) Ql))) (fun _ _ _ hR=>by obtain ⟨rfl,rfl,rfl⟩:=hR; exact ⟨Z,(fun _ h=>Q1q h)⟩) Z Z (H':=V12 ..) Z ?_
 rintro _ _ _ ⟨rfl,rfl,rfl⟩
 refine wP Z (Q2 (Q4 (Q5 [11,10,54,53,52,8,0] (S':=V7 ..) Z (Q6 ?_))))
 obtain ⟨dG,hm,hLj_5⟩:=Q7 hm
 refine Q15 (σ:=Bool) (fun bC=>dG = bC) (fun bC=>[(11,.string c2),(10,.pointer (some ⟨cE,0,none⟩)),(54,.int .i64 ((a4:Nat):Int)),(53,.int .i64 ((l4.length:Nat):Int)),(52,.slice (some ⟨c1,0,none⟩) l4.length aB),(8,.map (some bD)),(0,.pointer (some ⟨aU,0,none⟩)),(65,.bool bC)]) (fun bC=>[tF]) (fun bC=>[.blk cE [.int .i64 (o.rule),.slice aD.1 o.ids.length aD.2] 45,.own 3 1 Qh (.slice aD.1 o.ids.length aD.2) o.ids,.own 45 2 Qa.pair (.slice (some ⟨c1,0,none⟩) l4.length aB) b3,Q1Y (Q1h (QZ Q1Z)) false Q13 bD aE,.blk aU [.slice (some aP) aQ aR,.slice q y s,.slice z a1 a0,.map (some aA)] 66,.own 3 1 Qh (.slice (some aP) aQ aR) l0,Q1e Qa 45 2 (.slice q y s) f,Q1e Qa 45 2 (.slice z a1 a0) j,Q1Y (Q1h (QZ Q1Z)) false Q13 aA e3,Q1w Qa b3 (some a4),.own 45 2 Q8 (.slice aV aW aX) l1,.own 45 2 Q8 (.slice aY aZ b0) l2]) ?_ ?_
 refine Q3 (wP Z (wP Z (wF Z Qaj (wD 5 3 Z tS_64 tA_64 Z (wP Z ?_)))))
 rcases QaH hm with ⟨cF,hm⟩ | ⟨cN,cF,hm⟩
 refine Qan (i:=c2) 9 Z Z Z Zq Z Z Z Z tZ_4 Q9i trivial cF (v:=.bool false) Z (Q2 ?_)
 have hE:=(Zi hm).symm
 refine Q17 [0,1,3,4,5,6,7,8,9,2,10,11] Z (H':=V12 ..) Z ?_
 refine Qp false hE [11,10,54,53,52,8,0,65] Z (asK [0] Z) Z
 refine Q9O (i:=c2) (a:=cN) Q40 9 Z Z Z Zq Z Z Z Z Q9i trivial cF (u:=fun _=>.bool cN) (fun _=>Z) (v:=fun _=>.bool cN) (fun _=>Z) (fun _ _=>(Q2 ?_))
 have hE:=(Zi hm).symm
 refine Q17 [0,1,3,4,5,6,7,8,9,2,10,11] Z (H':=V12 ..) Z ?_
 refine Qp cN hE [11,10,54,53,52,8,0,65] Z (asK [0] Z) Z
 rintro bC hE
 try dsimp only
 have hm:=hLj_5
 try rw [hE] at hm
 refine Qv Z (fun cG=>?_) (fun cG=>?_)
 replace hm:=Q1m hm cG
 refine Q5 [11,10,54,53,52,8,0] (S':=V7 ..) Z (Q6 (Q3 (wP Z (wP Z (Q81 (i:=c2) (u:=true) (cs:=[.bool true]) ltB 3 Z Z (.inl Z) Z Z Z Z Q9i trivial Z (fun F w hφ=>⟨(),Z,Ql⟩) (H':=[.blk cE [.int .i64 (o.rule),.slice aD.1 o.ids.length aD.2] 45,.own 3 1 Qh (.slice aD.1 o.ids.length aD.2) o.ids,.own 45 2 Qa.pair (.slice (some ⟨c1,0,none⟩) l4.length aB) b3,Q1Y (Q1h (QZ Q1Z)) false Q13 bD (Q7p ltB c2 true aE),.blk aU [.slice (some aP) aQ aR,.slice q y s,.slice z a1 a0,.map (some aA)] 66,.own 3 1 Qh (.slice (some aP) aQ aR) l0,Q1e Qa 45 2 (.slice q y s) f,Q1e Qa 45 2 (.slice z a1 a0) j,Q1Y (Q1h (QZ Q1Z)) false Q13 aA e3,Q1w Qa b3 (some a4),.own 45 2 Q8 (.slice aV aW aX) l1,.own 45 2 Q8 (.slice aY aZ b0) l2]) Z (Q2 (Q4 (Q5 [10,54,53,52,8,0] (S':=V6 ..) Z (Q6 ?_)))))))))
 obtain ⟨_,dH,hm⟩:=Q7 hm
 try dsimp only at hm
 obtain ⟨dI,hm⟩:=Qd hm
 refine QV [0,1,2,3,4,5,9,10] Z Z (fun hok=>(xP hok 0 Z (xP hok 1 Z (xP hok 2 Z (Qm hok 3 Z Z Z Zq Z Z Z Q5K (Qr hok 4 4 2 Z Z Z Zq Z Z Z Z (cs:=[_]) Z Q1O Q2I Z Z (Qr hok 5 0 0 Z Z Z Zq Z Z Z Z (cs:=[_,_]) Z Qg QT Z Z (xS hok 6 Z (Q1y [] [0,1,2,3,4,5,6,7,8,9,10,11] [1] Z Z Z Zq Z Z fn_33 Z (Q4c N o.rule aD.1 aD.2 o.ids dH) (fun F w hφ hh=>(Qe (Q1d (hh _ (Qo (k:=0) Z))) (Qe (hφ _ (Qo (k:=0) Z)) Ql))) (fun _ _ _ hR=>by obtain ⟨_,_,rfl,rfl,rfl⟩:=hR; exact ⟨Z,(Q7u (Q8g Q6Z) (fun _ h=>Q1q h))⟩) Z Z (H':=V12 ..) Z ?_)))))))))
 rintro _ _ _ ⟨b7,b8,rfl,rfl,rfl⟩
 refine Q2 (Qs [0] [5] Z Z (xS hok 7 Z (Qq Z Z Z Zq Z QG Qg Q1X Z (zs:=[.int .i64 0,V1]) (by kernel_rfl) Z (out:=[_,_]) Z (fun e4=>(Q2 (Qs [0] [2,6] Z Z (xS hok 8 Z (Q1J 9 Z (fun cV _=>?_)))))))))
 subst cV
 refine Q39 9 Z (fun bG cH=>?_)
 have c3:List.map (fun x:Q1 × (OA × Nat)=>x.1) (bG ++ [(o,(b7,b8))]) = j ++ [o]:=Q8D cH (us:=[o]) rfl
 have cI:bG.length + ([(o,(b7,b8))] : List (Q1 × (OA × Nat))).length ≤ 4398046511104:=by rw [Q2t cH]; exact dI
 refine Q21 (R:=Qa.pair) ([(o,(b7,b8))]) 10 1 Z Z Z Zq Z Z Z Z Z (fun F w hφ=>⟨[.int .i64 (o.rule),.slice b7 o.ids.length b8],[],Z,Z,Z,Z⟩) QG Q8i Z Z (Nat.le_trans cI (by decide)) (Nat.le_trans (Nat.mul_le_mul_right _ cI) (by decide)) (H2:=fun bS bT=>[_,_,_,_,_,_,_,_,_,_,.own 45 2 Qa.pair (.slice bS ((bG ++ [(o,(b7,b8))]).length) bT) (bG ++ [(o,(b7,b8))]),_,_,_,_]) (fun _ _=>Z) (fun bS bT=>(Q2J 1 Z (H':=V14 ..) Z (Qx (d:=76) (v':=.slice bS ((j ++ [o]).length) bT) (S':=V14 ..) Z Z (by rw [Q2t c3]) (Q1r 9 (φ':=.own 45 2 Qa.pair (.slice bS ((j ++ [o]).length) bT) (bG ++ [(o,(b7,b8))])) Z (by rw [Q2t c3]) (H':=V14 ..) Z (Q1S [1,0,2,3,4,5,6,7,8,9,10,11,12,13] Z (H':=V14 ..) Z (Q1t [Q1w Qa (bG ++ [(o,(b7,b8))]) none,_,_,_,_,_,_,_,_,_,_,_,_] (fun _ h=>QU.bagPush (T:=Qa) (x:=o) (r:=(b7,b8)) (zs:=bG) (H:=V13 ..) h 0 Z) (Q1t [_,_,_,_,_,_,_,Q1e Qa 45 2 (.slice bS ((j ++ [o]).length) bT) (j ++ [o]),_,_,_,_] (fun _ h=>h.treeIn 8 0 Z Z Z c3) (Q2 (Qs [0] [0] Z Z (xP hok 9 Z (Qm hok 10 Z Z Z Zq Z Z Z Q5K (xS hok 11 Z (wS 4 2 Z Q1O (all':=V4 ..) Z (H':=V12 ..) Z (Q2 ?_))))))))))))))
 refine Qs [0] [] Z Z (QI hok Z (Q4 (Q5 [54,53,52,8,0] (S':=V5 ..) Z (Q19 (Qc (Qu ?_))))))
 have hE:=(Zi hm).symm
 refine Q17 [1,0,2,3,4,5,6,7,8,9,10,11] Z (H':=V12 ..) Z (Q6J [_,_,_,_,_,_,_,_,Q1w Qa (b3.set a4 (o,aD)) none,_,_] (fun _ h=>QU.bagClose (T:=Qa) (x:=o) (r:=aD) (i:=a4) (zs:=b3) (H:=V11 ..) h 8 Z) (Qa1 8 (φ':=Q1w Qa b3 none) Z (by rw [Q8E bF]) (H':=[.blk cE [.int .i64 (o.rule),.slice aD.1 o.ids.length aD.2] 45,.own 45 2 Qa.pair (.slice (some ⟨c1,0,none⟩) l4.length aB) b3,Q1Y (Q1h (QZ Q1Z)) false Q13 bD (Q7p ltB c2 true aE),.blk aU [.slice (some aP) aQ aR,.slice q y s,.slice bS ((j ++ [o]).length) bT,.map (some aA)] 66,.own 3 1 Qh (.slice (some aP) aQ aR) l0,Q1e Qa 45 2 (.slice q y s) f,Q1e Qa 45 2 (.slice bS ((j ++ [o]).length) bT) (j ++ [o]),Q1Y (Q1h (QZ Q1Z)) false Q13 aA e3,Q1w Qa b3 none,.own 45 2 Q8 (.slice aV aW aX) l1,.own 45 2 Q8 (.slice aY aZ b0) l2]) Z (Q6J [_,Q1e Qa 45 2 (.slice (some ⟨c1,0,none⟩) l4.length aB) l4,_,_,_,_,_,_,_,_] (fun _ h=>h.treeIn 1 8 Z Z Z c0) (Q17 [1,2,3,4,5,6,7,8,9] Z (H':=V9 ..) Z ?_))))
 refine Qp (Q7p ltB c2 true aE,f,j ++ [o],q,s,y,bS,bT,(j ++ [o]).length) hE [54,53,52,8,0] Z (asK [0] Z) Z
 replace hm:=Q1l hm cG
 refine Q5 [10,54,53,52,8,0] (S':=V6 ..) Z (Qt (Q4 ?_))
 obtain ⟨_,dJ,hm⟩:=Q7 hm
 try dsimp only at hm
 obtain ⟨dK,hm⟩:=Qd hm
 refine QV [0,1,2,3,4,5,9,10] Z Z (fun hok=>(xP hok 0 Z (xP hok 1 Z (xP hok 2 Z (Qm hok 3 Z Z Z Zq Z Z Z Q5j (Qr hok 4 4 1 Z Z Z Zq Z Z Z Z (cs:=[_]) Z Q1O Q2I Z Z (Qr hok 5 0 0 Z Z Z Zq Z Z Z Z (cs:=[_,_]) Z Qg QT Z Z (xS hok 6 Z (Q1y [] [0,1,2,3,4,5,6,7,8,9,10,11] [1] Z Z Z Zq Z Z fn_33 Z (Q4c N o.rule aD.1 aD.2 o.ids dJ) (fun F w hφ hh=>(Qe (Q1d (hh _ (Qo (k:=0) Z))) (Qe (hφ _ (Qo (k:=0) Z)) Ql))) (fun _ _ _ hR=>by obtain ⟨_,_,rfl,rfl,rfl⟩:=hR; exact ⟨Z,(Q7u (Q8g Q6Z) (fun _ h=>Q1q h))⟩) Z Z (H':=V12 ..) Z ?_)))))))))
 rintro _ _ _ ⟨b9,bA,rfl,rfl,rfl⟩
 refine Q2 (Qs [0] [5] Z Z (xS hok 7 Z (Qq Z Z Z Zq Z QG Qg Q1X Z (zs:=[.int .i64 0,V1]) (by kernel_rfl) Z (out:=[_,_]) Z (fun e5=>(Q2 (Qs [0] [2,6] Z Z (xS hok 8 Z (Q1J 8 Z (fun cW _=>?_)))))))))
 subst cW
 refine Q39 8 Z (fun bH cJ=>?_)
 have c4:List.map (fun x:Q1 × (OA × Nat)=>x.1) (bH ++ [(o,(b9,bA))]) = f ++ [o]:=Q8D cJ (us:=[o]) rfl
 have cK:bH.length + ([(o,(b9,bA))] : List (Q1 × (OA × Nat))).length ≤ 4398046511104:=by rw [Q2t cJ]; exact dK
 refine Q21 (R:=Qa.pair) ([(o,(b9,bA))]) 9 1 Z Z Z Zq Z Z Z Z Z (fun F w hφ=>⟨[.int .i64 (o.rule),.slice b9 o.ids.length bA],[],Z,Z,Z,Z⟩) QG Q8i Z Z (Nat.le_trans cK (by decide)) (Nat.le_trans (Nat.mul_le_mul_right _ cK) (by decide)) (H2:=fun bU bV=>[_,_,_,_,_,_,_,_,_,.own 45 2 Qa.pair (.slice bU ((bH ++ [(o,(b9,bA))]).length) bV) (bH ++ [(o,(b9,bA))]),_,_,_,_,_]) (fun _ _=>Z) (fun bU bV=>(Q2J 1 Z (H':=V14 ..) Z (Qx (d:=87) (v':=.slice bU ((f ++ [o]).length) bV) (S':=V14 ..) Z Z (by rw [Q2t c4]) (Q1r 8 (φ':=.own 45 2 Qa.pair (.slice bU ((f ++ [o]).length) bV) (bH ++ [(o,(b9,bA))])) Z (by rw [Q2t c4]) (H':=V14 ..) Z (Q1S [1,0,2,3,4,5,6,7,8,9,10,11,12,13] Z (H':=V14 ..) Z (Q1t [Q1w Qa (bH ++ [(o,(b9,bA))]) none,_,_,_,_,_,_,_,_,_,_,_,_] (fun _ h=>QU.bagPush (T:=Qa) (x:=o) (r:=(b9,bA)) (zs:=bH) (H:=V13 ..) h 0 Z) (Q1t [_,_,_,_,_,_,Q1e Qa 45 2 (.slice bU ((f ++ [o]).length) bV) (f ++ [o]),_,_,_,_,_] (fun _ h=>h.treeIn 7 0 Z Z Z c4) (Q2 (Qs [0] [0] Z Z (xP hok 9 Z (Qm hok 10 Z Z Z Zq Z Z Z Q5j (xS hok 11 Z (wS 4 1 Z Q1O (all':=V4 ..) Z (H':=V12 ..) Z (Q2 ?_))))))))))))))
 refine Qs [0] [] Z Z (QI hok Z (Qi ?_))
 have hE:=(Zi hm).symm
 refine Q17 [1,0,2,3,4,5,6,7,8,9,10,11] Z (H':=V12 ..) Z (Q6J [_,_,_,_,_,_,_,_,Q1w Qa (b3.set a4 (o,aD)) none,_,_] (fun _ h=>QU.bagClose (T:=Qa) (x:=o) (r:=aD) (i:=a4) (zs:=b3) (H:=V11 ..) h 8 Z) (Qa1 8 (φ':=Q1w Qa b3 none) Z (by rw [Q8E bF]) (H':=[.blk cE [.int .i64 (o.rule),.slice aD.1 o.ids.length aD.2] 45,.own 45 2 Qa.pair (.slice (some ⟨c1,0,none⟩) l4.length aB) b3,Q1Y (Q1h (QZ Q1Z)) false Q13 bD aE,.blk aU [.slice (some aP) aQ aR,.slice bU ((f ++ [o]).length) bV,.slice z a1 a0,.map (some aA)] 66,.own 3 1 Qh (.slice (some aP) aQ aR) l0,Q1e Qa 45 2 (.slice bU ((f ++ [o]).length) bV) (f ++ [o]),Q1e Qa 45 2 (.slice z a1 a0) j,Q1Y (Q1h (QZ Q1Z)) false Q13 aA e3,Q1w Qa b3 none,.own 45 2 Q8 (.slice aV aW aX) l1,.own 45 2 Q8 (.slice aY aZ b0) l2]) Z (Q6J [_,Q1e Qa 45 2 (.slice (some ⟨c1,0,none⟩) l4.length aB) l4,_,_,_,_,_,_,_,_] (fun _ h=>h.treeIn 1 8 Z Z Z c0) (Q17 [1,2,3,4,5,6,7,8,9] Z (H':=V9 ..) Z ?_))))
 refine Qp (aE,f ++ [o],j,bU,bV,(f ++ [o]).length,z,a0,a1) hE [54,53,52,8,0] Z (asK [0] Z) Z
 rintro ⟨b2,aH,aI,aJ,aK,aL,aM,aN,aO⟩ hE
 try dsimp only
 have hm:=hLj_4
 try rw [hE] at hm
 try dsimp only at hm
 refine Q3 (wP Z ?_)
 obtain ⟨dL,hm⟩:=Qd hm
 refine Qx (d:=90) (v':=.int .i64 ((a4 + 1:Nat):Int)) (S':=V5 ..) Z Z (Q1f (a:=a4) (b:=1) dL) (QM (S':=V5 ..) Z Z Z Z Z (Q2 ?_))
 have hE:=(Zi hm).symm
 replace hE:=Q11 hLu2 hE
 refine Q14 (_,a4 + 1,b2,aH,aI,aJ,aK,aL,aM,aN,aO) (Nat.lt_succ_self _) hE [54,53,52,8,0] Z (asK [0] Z) Z
 replace hm:=Q1l hm cD
 refine Q5 [8,0] (S':=[_,_]) Z (Q19 (Qc (Qc (Qu ?_))))
 have hE:=(Zi hm).symm
 replace hE:=QE hLu2 hE
 refine Q17 [1,2,3,4,5,6,7,8,0] Z (H':=V9 ..) Z ?_
 refine Qp (aE,f,j,q,s,y,z,a0,a1) hE [8,0] Z (asK [0] Z) Z
 rintro ⟨b6,a2,a3,a5,a6,aF,a7,a8,aG⟩ hE
 try dsimp only
 have hm:=hLj_3
 try rw [hE] at hm
 try dsimp only at hm
 refine Q6 (Q3 (wP Z (wP Z (wP Z (wF Z Qaj (wS 1 3 Z tS_64 (all':=V4 ..) Z (H':=V9 ..) Z (Q2 (Q4 (Q5 [0] (S':=[_]) Z (Q6 ?_))))))))))
 obtain ⟨⟨cO,cP⟩,cX,hm⟩:=Q7 hm
 try dsimp only at hm
 obtain ⟨c6,hm⟩:=Qd hm
 refine QV [0,1,2,3,4,5,6,7] Z Z (fun hok=>(xP hok 0 Z (xP hok 1 Z (Qm hok 2 Z Z Z Zq Z Z Z Q5j (Qr hok 3 1 1 Z Z Z Zq Z Z Z Z (cs:=[_]) Z Q1O Q2I Z Z (xP hok 4 Z (xP hok 5 Z (Qm hok 6 Z Z Z Zq Z Z Z Q61 (Qr hok 7 1 0 Z Z Z Zq Z Z Z Z (cs:=[_]) Z Q8G Q8F Z Z (xS hok 8 Z (Q71 Z Z Z Zq Z Z Z (Q2 (Qs [0] [1] Z Z (xS hok 9 Z ?_))))))))))))))
 refine Q1t [_,_,_,.own 45 2 Q8 (.slice a5 aF a6) a2,_,_,_,_,_] (fun _ h=>h.letgo Q3a 3 Z) (QQ 3 Z (fun bJ _=>?_))
 subst bJ
 refine wC [3,2] [0,1,4,5,6,7,8] Z fn_43 Z (Q25 N a5 a2.length a6 a2 aP aQ aR l0 _ _ cX) (asK [0] Z) Z (H':=V7 ..) Z ?_
 rintro _ _ _ ⟨dM,rfl,rfl,rfl⟩
 refine QQ 0 Z (fun c7 _=>?_)
 subst c7
 refine Q1r 0 (φ':=.own 45 2 Q8 (.slice a5 a2.length a6) cO) Z (by rw [c6]) (H':=V9 ..) Z (Q2 (Qs [0] [3] Z Z (QI hok Z (Q4 (Q5 [0] (S':=[_]) Z (Q6 ?_))))))
 obtain ⟨⟨cQ,dN⟩,cY,hm⟩:=Q7 hm
 try dsimp only at hm
 obtain ⟨c8,hm⟩:=Qd hm
 refine QV [0,1,2,3,4,5,6,7] Z Z (fun hok=>(xP hok 0 Z (xP hok 1 Z (Qm hok 2 Z Z Z Zq Z Z Z Q5K (Qr hok 3 3 2 Z Z Z Zq Z Z Z Z (cs:=[_]) Z Q1O Q2I Z Z (xP hok 4 Z (xP hok 5 Z (Qm hok 6 Z Z Z Zq Z Z Z Q61 (Qr hok 7 3 0 Z Z Z Zq Z Z Z Z (cs:=[_]) Z Q8G Q8F Z Z (xS hok 8 Z (Q71 Z Z Z Zq Z Z Z (Q2 (Qs [0] [3] Z Z (xS hok 9 Z ?_))))))))))))))
 refine Q1t [_,_,_,_,.own 45 2 Q8 (.slice a7 aG a8) a3,_,_,_,_] (fun _ h=>h.letgo Q3a 4 Z) (QQ 4 Z (fun bK _=>?_))
 subst bK
 refine wC [4,1] [0,2,3,5,6,7,8] Z fn_43 Z (Q25 N a7 a3.length a8 a3 aP aQ aR cP _ _ cY) (asK [0] Z) Z (H':=V7 ..) Z ?_
 rintro _ _ _ ⟨dO,rfl,rfl,rfl⟩
 refine QQ 0 Z (fun c9 _=>?_)
 subst c9
 refine Q1r 0 (φ':=.own 45 2 Q8 (.slice a7 a3.length a8) cQ) Z (by rw [c8]) (H':=V9 ..) Z (Q2 (Qs [0] [4] Z Z (QI hok Z (Q4 (Q5 [] (S':=[]) Z (Q6 (Q3 (wP Z (Q2 (Q4 (QJ ?_)))))))))))
 have hE:=(Zi hm).symm
 obtain ⟨hE0,hF1⟩:=Prod.mk.inj hE
 obtain ⟨hE1,hF2⟩:=Prod.mk.inj hF1
 obtain ⟨hE2,hF3⟩:=Prod.mk.inj hF2
 obtain ⟨hE3,hE4⟩:=Prod.mk.inj hF3
 clear hE hF1 hF2 hF3
 replace hE0:=hE0.symm
 subst hE0
 replace hE1:=hE1.symm
 subst hE1
 replace hE2:=hE2.symm
 subst hE2
 replace hE3:=hE3.symm
 subst hE3
 replace hE4:=hE4.symm
 subst hE4
 refine QA (Hr:=V6 ..) [4,1,2,0,3,8] Tryz.results21 (Qy Z) ⟨a5,a6,a2.length,a7,a8,a3.length,bD,Z,Z,Z⟩ (asK [] Z) Z Z (.inl Z)
theorem Q4b (N:Nat) (a6:Nat) (j:Addr) (o:Nat) (q:Nat) (l0:List Int) (s:OA) (y:Nat) (z:Nat) (l1:List Q1) (a0:OA) (a1:Nat) (a2:Nat) (l2:List Q1) (f:Nat) (e3:List (ByteArray × Bool)) (o0:Int) (o3:List Int) (o5:Bool) (hm:Q3m N l0 l1 l2 e3 = some (o0,o3,o5)):Q1z Tryz.prog 11 [.pointer (some ⟨a6,0,none⟩)] [tF] [.blk a6 [.slice (some j) o q,.slice s y z,.slice a0 a1 a2,.map (some f)] 66,.own 3 1 Qh (.slice (some j) o q) l0,.own 45 2 Q8 (.slice s y z) l1,.own 45 2 Q8 (.slice a0 a1 a2) l2,Q1Y (Q1h (QZ Q1Z)) false Q13 f e3] (fun v Φr Hr=>∃ (o1:OA) (o2:Nat) (o4:Nat),v = .tuple #[.agg #[.int .i64 o0,.slice o1 o4 o2],.bool o5] ∧ Φr = [] ∧ Hr = [.own 3 1 Qh (.slice o1 o4 o2) o3,.blk a6 [.slice (some j) o q,.slice s y z,.slice a0 a1 a2,.map (some f)] 66,.own 3 1 Qh (.slice (some j) o q) l0,.own 45 2 Q8 (.slice s y z) l1,.own 45 2 Q8 (.slice a0 a1 a2) l2,Q1Y (Q1h (QZ Q1Z)) false Q13 f e3]):=by
 unfold Q3m at hm
 refine Q12 Tryz.func11 Z Tryz.ntmps11 Z (S:=[_]) Z (fun C=>(Q6 (Q3 (Q1s Z Z Z Zq Z Q1X Z (fun g2=>(wP Z (Q2 (Q4 (Q5 [2,0] (S':=[_,_]) Z (Q6 (Q6 (Q3 (wP Z ?_)))))))))))))
 obtain ⟨_,aH,hm⟩:=Q7 hm
 try dsimp only at hm
 refine wC [1,2,3,4,5] [0] Z fn_32 Z (Q2F N a6 j o q l0 s y z l1 a0 a1 a2 l2 f e3 aH) (asK [0] Z) Z (H':=[_]) Z ?_
 rintro _ _ _ ⟨rfl,rfl,rfl⟩
 refine wP Z (wP Z (wP Z (wP Z (wF Z Q5j (wD 0 1 Z Q1O Q2I Z (QQ 2 Z (fun aB _=>(wN Z QG (Qx (d:=12) (v':=.int .i64 ((l1.length:Nat):Int)) (S':=V10 ..) Z Z (Q3F aB) (wP Z (Qx (d:=13) (v':=.bool (l1.length == 0)) (S':=V11 ..) Z Z (nateq (a:=l1.length) (b:=0)) (wP Z (Q2 (Q4 ?_))))))))))))))
 refine Q5 [14,2,0] (S':=V3 ..) Z ?_
 refine Qv Z (fun a3=>?_) (fun a3=>?_)
 replace hm:=Q1m hm a3
 refine Q5 [2] (S':=[_]) Z (Q6 (Q3 (Q3h Z Z Z Zq Z Q1X tP_45 Z (out:=[_,_]) Z (wS 5 0 Z Qg (all':=[_,_]) Z (H':=V6 ..) Z (wP Z (Q2 (Q4 (Q5 [3,2] (S':=[_,_]) Z (QJ (Qj ?_))))))))))
 have hE:=(Zi hm).symm
 obtain ⟨hE0,hF1⟩:=Prod.mk.inj hE
 obtain ⟨hE1,hE2⟩:=Prod.mk.inj hF1
 clear hE hF1
 replace hE0:=hE0.symm
 subst hE0
 replace hE1:=hE1.symm
 subst hE1
 replace hE2:=hE2.symm
 subst hE2
 refine we_rowNil 3 1 Qh ?_
 refine Q7w (Hr:=V6 ..) [0,1,2,3,4,5] Tryz.results11 (Q4Q 6 Z Z Qg QT Z Z) (Qy Z) ⟨none,0,0,Z,Z,Z⟩ (asK [] Z) Z Z (.inl Z)
 replace hm:=Q1l hm a3
 refine Q5 [2,0] (S':=[_,_]) Z (Qt (Q4 (Q6 (Q3 (wP Z (wP Z (wF Z Q5j (wD 0 1 Z Q1O Q2I Z ?_))))))))
 obtain ⟨a4,a7,hm⟩:=Q7 hm
 refine Q24 2 0 Z Z Z Zq Z Z Z Z Z (QB a7) QG Qg (fun aO aC=>?_)
 subst aC
 refine Qk Qb 2 0 0 Z Z Z Zq Z Z Z a7 Qg QT (v:=fun a5=>.agg #[.int .i64 (a4.rule),.slice a5.1 a4.ids.length a5.2]) (fun _=>Z) (fun _=>Z) (fun a5 _=>?_)
 obtain ⟨_,aD,hm⟩:=Q7 hm
 try dsimp only at hm
 refine wC [] [0,1,2,3,4,5] Z fn_33 Z (Q4c N a4.rule a5.1 a5.2 a4.ids aD) (asK [0,1] Z) Z (H':=V6 ..) Z ?_
 rintro _ _ _ ⟨a9,aA,rfl,rfl,rfl⟩
 refine wS 6 0 Z Qg (all':=[_,_]) Z (H':=V7 ..) Z (wP Z (Q2 (Q4 (Q5 [3,2] (S':=[_,_]) Z (QJ ?_)))))
 have hE:=(Zi hm).symm
 obtain ⟨hE0,hF1⟩:=Prod.mk.inj hE
 obtain ⟨hE1,hE2⟩:=Prod.mk.inj hF1
 clear hE hF1
 replace hE0:=hE0.symm
 subst hE0
 replace hE1:=hE1.symm
 subst hE1
 replace hE2:=hE2.symm
 subst hE2
 refine Q7w (Hr:=V6 ..) [0,1,2,3,4,5] Tryz.results11 (Q4Q 6 Z Z Qg QT Z Z) (Qy Z) ⟨a9,aA,a4.ids.length,Z,Z,Z⟩ (asK [] Z) Z Z (.inl Z)
theorem Q7V (N:Nat) (z:OA) (a0:Nat) (y:List Int) (a1:OA) (a2:Nat) (l1:List Int) (o0:Bool) (hm:Q43 N y l1 = some o0):Q1z Tryz.prog 35 [.slice z y.length a0,.slice a1 l1.length a2] [.sli 1 Qh z a0 y,.sli 1 Qh a1 a2 l1] [] (fun v Φr Hr=>v = .bool o0 ∧ Φr = [] ∧ Hr = []):=by
 unfold Q43 at hm
 refine Q12 Tryz.func35 Z Tryz.ntmps35 Z (S:=[_,_]) Z (fun C=>(Q6 (Q3 (wP Z (Q2 (Q4 (Q5 [0,1] (S':=[_,_]) Z (Q6 (Q6 (Q3 (wP Z (wN Z Q1a (wP Z (wN Z Q1a ?_))))))))))))))
 refine wP Z (Qx (d:=10) (v':=.bool (y.length != l1.length)) (S':=V6 ..) Z Z (Q8e (a:=y.length) (b:=l1.length)) (Q2 (Q4 (Q5 [10,0,1] (S':=V3 ..) Z ?_))))
 refine Qv Z (fun o=>?_) (fun o=>?_)
 replace hm:=Q1m hm o
 refine Q5 [] (S':=[]) Z (Q6 (Q3 (wP Z (Q2 (Q4 (QJ (Qj ?_)))))))
 have hE:=(Zi hm).symm
 replace hE:=hE.symm
 subst hE
 refine QA (Hr:=[]) [] Tryz.results35 (Qy Z) ⟨Z,Z,Z⟩ (asK [] Z) Z Z (.inl Z)
 replace hm:=Q1l hm o
 refine Q5 [0,1] (S':=[_,_]) Z (Qt (Q4 (Q6 ?_)))
 obtain ⟨a4,hm,hLj_1⟩:=Q1R hm
 refine Q15 (σ:=Unit) (fun _=>a4 = .inl ()) (fun _=>[]) (fun _=>[]) (fun _=>[]) ?_ ?_
 refine Q6 (Q3 (wP Z (Q2 (Q4 (Qn (Q1b (σ:=Nat × Nat) (fun (j,f)=>Q1B (Q4m N y l1) j f = some a4) (fun (j,f)=>j) (fun (j,f)=>[(5,.int .i64 ((f:Nat):Int)),(0,.slice z y.length a0),(1,.slice a1 l1.length a2)]) (fun (j,f)=>[.sli 1 Qh z a0 y,.sli 1 Qh a1 a2 l1]) (fun (j,f)=>[]) (N,0) hm [5,0,1] Z (asK [0,1] Z) Z (fun s_ hm=>?_)))))))
 obtain ⟨j,f⟩:=s_
 try dsimp only at hm ⊢
 obtain ⟨aG,aH,a5,hq,hLu1⟩:=Q18 hm
 clear hm
 subst a5
 replace hm:=hq
 clear hq
 unfold Q4m at hm
 try dsimp only at hm
 refine Q6 (Q6 (Q3 (wP Z (wP Z (wN Z Q1a (wP Z (Qx (d:=14) (v':=.bool (decide (f < y.length))) (S':=V6 ..) Z Z (Q20 (a:=f) (b:=y.length)) (Q2 (Q4 (Q5 [14,5,0,1] (S':=V4 ..) Z ?_))))))))))
 refine Qv Z (fun q=>?_) (fun q=>?_)
 replace hm:=Q1m hm q
 refine Q5 [5,0,1] (S':=V3 ..) Z (Qt (Q4 (Q6 (Qn (Q6 ?_)))))
 obtain ⟨aI,a6,hm⟩:=Q7 hm
 obtain ⟨aJ,a7,hm⟩:=Q7 hm
 refine QV [0,1,2,3,4,5,6,7,8] Z Z (fun hok=>(xP hok 0 Z (xP hok 1 Z (Q1o hok 2 0 f Z Z Z Zq Z Z Z Z Z Z a6 Q1a Q1i (fun aK aL aE aB=>(Q1u Q1D 1 Z (fun aM a8 _=>?_)))))))
 subst a8
 refine Q1I hok 3 0 0 Z Z Z Zq Z Z Z Z (cs:=[_]) Z Q1i Q2d Z Z (xP hok 4 Z (xP hok 5 Z (Q1o hok 6 3 f Z Z Z Zq Z Z Z Z Z Z a7 Q1a Q1i (fun aN aO aF aC=>(Q1u Q1D 1 Z (fun aP a9 _=>?_))))))
 subst a9
 refine Q1I hok 7 0 0 Z Z Z Zq Z Z Z Z (cs:=[_]) Z Q1i Q2d Z Z (xP hok 8 Z (QI hok Z (Q4 (Q5 [25,5,0,1] (S':=V4 ..) Z ?_))))
 refine Qv Z (fun s=>?_) (fun s=>?_)
 replace hm:=Q1m hm s
 refine Q5 [] (S':=[]) Z (Q6 (Q3 (wP Z (Q2 (Q4 (QJ (QR (Qj (Qj (QR (Qj ?_)))))))))))
 have hE:=(Zi hm).symm
 replace hE:=QE hLu1 hE
 replace hE:=QE hLj_1 hE
 replace hE:=hE.symm
 subst hE
 refine QA (Hr:=[]) [] Tryz.results35 (Qy Z) ⟨Z,Z,Z⟩ (asK [] Z) Z Z (.inl Z)
 replace hm:=Q1l hm s
 refine Q5 [5,0,1] (S':=V3 ..) Z (Qt (Qi (Q4 (Q3 (wP Z (wP Z ?_))))))
 obtain ⟨aA,hm⟩:=Qd hm
 refine Qx (d:=16) (v':=.int .i64 ((f + 1:Nat):Int)) (S':=V4 ..) Z Z (Q1f (a:=f) (b:=1) aA) (QM (S':=V4 ..) Z Z Z Z Z (Q2 ?_))
 have hE:=(Zi hm).symm
 replace hE:=Q11 hLu1 hE
 refine Q14 (_,f + 1) (Nat.lt_succ_self _) hE [5,0,1] Z (asK [4,5] Z) Z
 replace hm:=Q1l hm q
 refine Q5 [] (S':=[]) Z (Q19 (Qc (Qc (Qu ?_))))
 have hE:=(Zi hm).symm
 replace hE:=QE hLu1 hE
 refine Qp () hE [] Z (asK [] Z) Z
 rintro _ hE
 try dsimp only
 have hm:=Q11 hLj_1 hE
 try dsimp only at hm
 refine Q6 (Q3 (wP Z (Q2 (Q4 (QJ ?_)))))
 have hE:=(Zi hm).symm
 replace hE:=hE.symm
 subst hE
 refine QA (Hr:=[]) [] Tryz.results35 (Qy Z) ⟨Z,Z,Z⟩ (asK [] Z) Z Z (.inl Z)
theorem Q4o (N:Nat) (a0:Int) (qp0:OA) (qc1:Nat) (l1:List Int) (a2:Int) (qp2:OA) (qc3:Nat) (l3:List Int) (o0:Bool) (hm:Q3j N a0 l1 a2 l3 = some o0):Q1z Tryz.prog 13 [.agg #[.int .i64 a0,.slice qp0 l1.length qc1],.agg #[.int .i64 a2,.slice qp2 l3.length qc3]] [.sli 1 Qh qp0 qc1 l1,.sli 1 Qh qp2 qc3 l3] [] (fun v Φr Hr=>v = .bool o0 ∧ Φr = [] ∧ Hr = []):=by
 unfold Q3j at hm
 refine Q12 Tryz.func13 Z Tryz.ntmps13 Z (S:=[_,_]) Z (fun C=>(Q6 (Q3 (wB Z (fun g2=>(wB Z (fun g3=>(wP Z (Q2 (Q4 (Q5 [3,2] (S':=[_,_]) Z (Q6 (Q3 (wF Z Q22 (wD 1 0 Z Q1i Q2d Z (wF Z Q22 ?_))))))))))))))))
 refine wD 0 0 Z Q1i Q2d Z (wP Z (wP Z ?_))
 refine Q28 (d:=10) (S':=V7 ..) Z Z (fun hs10=>?_) (fun hs10=>?_)
 replace hm:=Q1m hm hs10
 refine wF Z Q2i (wD 1 1 Z Q1T Q2Q Z (wF Z Q2i (wD 0 1 Z Q1T Q2Q Z ?_)))
 obtain ⟨v15,hc15,hm⟩:=Q7 hm
 refine wC [] [0,1] Z fn_35 Z (Q7V N qp0 qc1 l1 qp2 qc3 l3 _ hc15) (asK [0,1] Z) Z (H':=[_,_]) Z ?_
 rintro _ _ _ ⟨rfl,rfl,rfl⟩
 refine wP Z (wP Z (Q2 (Q4 (Q5 [4] (S':=[_]) Z (QJ ?_)))))
 have hE:=(Zi hm).symm
 replace hE:=hE.symm
 subst hE
 refine QA (Hr:=[]) [] Tryz.results13 (Qy Z) ⟨Z,Z,Z⟩ (asK [] Z) Z Z (.inl Z)
 replace hm:=Q1l hm hs10
 refine wO Z (wO Z (wO Z (wO Z (wO Z (wP Z (wP Z (Q2 (Q4 (Q5 [4] (S':=[_]) Z (QJ ?_))))))))))
 have hE:=(Zi hm).symm
 replace hE:=hE.symm
 subst hE
 refine QA (Hr:=[]) [] Tryz.results13 (Qy Z) ⟨Z,Z,Z⟩ (asK [] Z) Z Z (.inl Z)
end Go.Proofs.YtgangmegcejllaaGreatDoor
