import Derived.Test.YtgangmegcejllaaGreatDoorXW7
namespace Go.Proofs.YtgangmegcejllaaGreatDoor
open Go.RowKit
set_option maxRecDepth 100000
set_option maxHeartbeats 4000000
theorem Q7b (N:Nat) (a6:OA) (a7:Nat) (l0:List Q1) (a8:OA) (a9:Nat) (l1:List Q1) (o0:Bool) (hm:Q3Z N l0 l1 = some o0):Q1R Tryz.prog 14 [.slice a6 l0.length a7,.slice a8 l1.length a9] [.sli 2 Q9 a6 a7 l0,.sli 2 Q9 a8 a9 l1] [] (fun v Φr Hr=>v = .bool o0 ∧ Φr = [] ∧ Hr = []):=by
 unfold Q3Z at hm
 refine QZ Tryz.func14 Z Tryz.ntmps14 Z (S:=[_,_]) Z (fun C=>(Q6 (Q2 (wP Z (Q3 (Q4 (Q5 [0,1] (S':=[_,_]) Z (Q6 (Q6 (Q2 (wP Z (wN Z QB (wP Z (wN Z QB ?_))))))))))))))
 refine wP Z (Qz (d:=10) (v':=.bool (l0.length != l1.length)) (S':=V6 ..) Z Z (natne (a:=l0.length) (b:=l1.length)) (Q3 (Q4 (Q5 [10,0,1] (S':=V3 ..) Z ?_))))
 refine QA Z (fun a2=>?_) (fun a2=>?_)
 replace hm:=Q1z hm a2
 refine Q5 [] (S':=[]) Z (Q6 (Q2 (wP Z (Q3 (Q4 (QP (Qn ?_)))))))
 have hE:=(Zi hm).symm
 replace hE:=hE.symm
 subst hE
 refine QH (Hr:=[]) [] Tryz.results14 (QD Z) ⟨Z,Z,Z⟩ (asK [] Z) Z Z (.inl Z)
 replace hm:=Q1y hm a2
 refine Q5 [0,1] (S':=[_,_]) Z (Qs (Q4 (Q6 ?_)))
 obtain ⟨aA,hm,hLj_1⟩:=Q35 hm
 refine Q18 (σ:=Unit) (fun _=>aA = .inl ()) (fun _=>[]) (fun _=>[]) (fun _=>[]) ?_ ?_
 refine Q6 (Q2 (wP Z (Q3 (Q4 (Qm (Q1f (σ:=Nat × Nat) (fun (a1,a0)=>Q1o (Q4c N l0 l1) a1 a0 = some aA) (fun (a1,a0)=>a1) (fun (a1,a0)=>[(5,.int .i64 ((a0:Nat):Int)),(0,.slice a6 l0.length a7),(1,.slice a8 l1.length a9)]) (fun (a1,a0)=>[.sli 2 Q9 a6 a7 l0,.sli 2 Q9 a8 a9 l1]) (fun (a1,a0)=>[]) (N,0) hm [5,0,1] Z (asK [0,1] Z) Z (fun s_ hm=>?_)))))))
 obtain ⟨a1,a0⟩:=s_
 try dsimp only at hm ⊢
 obtain ⟨aR,aS,aB,hq,hLu1⟩:=Q1d hm
 clear hm
 subst aB
 replace hm:=hq
 clear hq
 unfold Q4c at hm
 try dsimp only at hm
 refine Q6 (Q6 (Q2 (wP Z (wP Z (wN Z QB (wP Z (Qz (d:=14) (v':=.bool (decide (a0 < l0.length))) (S':=V6 ..) Z Z (Q3f (a:=a0) (b:=l0.length)) (Q3 (Q4 (Q5 [14,5,0,1] (S':=V4 ..) Z ?_))))))))))
 refine QA Z (fun a3=>?_) (fun a3=>?_)
 replace hm:=Q1z hm a3
 refine Q5 [5,0,1] (S':=V3 ..) Z (Qs (Q4 (Q6 (Qm (Q6 ?_)))))
 obtain ⟨aC,aD,hm⟩:=Q7 hm
 obtain ⟨aE,aF,hm⟩:=Q7 hm
 obtain ⟨aT,aG,hm⟩:=Q7 hm
 refine QV [0,1,2,3,4,5,6,7,9] Z Z (fun hok=>(xP hok 0 Z (xP hok 1 Z (Q1Q hok 2 0 a0 Z Z Z Zq Z Z Z Z Z Z aD QB Qe (fun aU aV aP aM=>(Q2e Qa 1 Z (fun aH aI _=>?_)))))))
 subst aI
 refine Q2Q hok 3 1 0 Z Z Z Zq Z Z Z Z (cs:=[_,_]) Z Qe QS Z Z (xP hok 4 Z (xP hok 5 Z (Q1Q hok 6 4 a0 Z Z Z Zq Z Z Z Z Z Z aF QB Qe (fun aW aX aQ aN=>(Q2e Qa 1 Z (fun aJ aK _=>?_))))))
 subst aK
 refine Q2Q hok 7 1 0 Z Z Z Zq Z Z Z Z (cs:=[_,_]) Z Qe QS Z Z (xS hok 8 Z (wC [] [] Z fn_13 Z (Q5l N aC.rule aH.1 aH.2 aC.ids aE.rule aJ.1 aJ.2 aE.ids _ aG) (asK [3,0] Z) Z (H':=[]) Z ?_))
 rintro _ _ _ ⟨rfl,rfl,rfl⟩
 refine Q3 (Qy [0,1,2,3,4,5,6,7] [] Z Z (xP hok 9 Z (QL hok Z (Q4 (Q5 [26,5,0,1] (S':=V4 ..) Z ?_)))))
 refine QA Z (fun a4=>?_) (fun a4=>?_)
 replace hm:=Q1z hm a4
 refine Q5 [] (S':=[]) Z (Q6 (Q2 (wP Z (Q3 (Q4 (QP (Q11 (Qn (Qn (Q11 (Qn ?_)))))))))))
 have hE:=(Zi hm).symm
 replace hE:=QO hLu1 hE
 replace hE:=QO hLj_1 hE
 replace hE:=hE.symm
 subst hE
 refine QH (Hr:=[]) [] Tryz.results14 (QD Z) ⟨Z,Z,Z⟩ (asK [] Z) Z Z (.inl Z)
 replace hm:=Q1y hm a4
 refine Q5 [5,0,1] (S':=V3 ..) Z (Qs (Qj (Q4 (Q2 (wP Z (wP Z ?_))))))
 obtain ⟨aL,hm⟩:=Qd hm
 refine Qz (d:=16) (v':=.int .i64 ((a0 + 1:Nat):Int)) (S':=V4 ..) Z Z (Q1i (a:=a0) (b:=1) aL) (QI (S':=V4 ..) Z Z Z Z Z (Q3 ?_))
 have hE:=(Zi hm).symm
 replace hE:=Q14 hLu1 hE
 refine Q1a (_,a0 + 1) (Nat.lt_succ_self _) hE [5,0,1] Z (asK [6,7] Z) Z
 replace hm:=Q1y hm a3
 refine Q5 [] (S':=[]) Z (Q19 (Qc (Qc (Qt ?_))))
 have hE:=(Zi hm).symm
 replace hE:=QO hLu1 hE
 refine Qp () hE [] Z (asK [] Z) Z
 rintro _ hE
 try dsimp only
 have hm:=Q14 hLj_1 hE
 try dsimp only at hm
 refine Q6 (Q2 (wP Z (Q3 (Q4 (QP ?_)))))
 have hE:=(Zi hm).symm
 replace hE:=hE.symm
 subst hE
 refine QH (Hr:=[]) [] Tryz.results14 (QD Z) ⟨Z,Z,Z⟩ (asK [] Z) Z Z (.inl Z)
theorem ap_putInts (g:Nat) (p2:OA) (c2:Nat) (h2:List Hdr) (a3:OA) (a4:Nat) (a5:List Hdr) (p:OA) (n c:Nat) (hL2:h2.length + 1 ≤ 1073741824) (hB2:Bd h2) (hn:n ≤ 10000):Q1R Tryz.prog 102 [.pointer (some ⟨g,0,none⟩),.slice p n c] [] [.blk g [V1,V1,.slice p2 h2.length c2,V1,V1,V1,V1,V1,V1,V1,V1,V1,V1,V1,V1,V1,V1,.slice a3 a5.length a4,V1,V1,V1,V1,V1,V1,V1,V1,V1,V1,V1] 106,.own 22 1 Q3W (.slice p2 h2.length c2) h2,Q1v 3 1 (h2.map Q5P),Q1v 3 1 ([Q5P (p,n,c)])] (fun v Φr Hr=>∃ (q2:OA) (d2:Nat) (k2:List Hdr),k2.length ≤ h2.length + 1 ∧ Bd k2 ∧ k2 = h2 ++ ([(p,n,c)] : List Hdr) ∧ v = .tuple #[] ∧ Φr = [] ∧ Hr = [.blk g [V1,V1,.slice q2 k2.length d2,V1,V1,V1,V1,V1,V1,V1,V1,V1,V1,V1,V1,V1,V1,.slice a3 a5.length a4,V1,V1,V1,V1,V1,V1,V1,V1,V1,V1,V1] 106,.own 22 1 Q3W (.slice q2 k2.length d2) k2,Q1v 3 1 (k2.map Q5P)]):=by
 refine QZ Tryz.func102 Z Tryz.ntmps102 Z (S:=[_,_]) Z (fun C=>(Q2 (wP Z (wP Z (wP Z (wF Z tF_106_2 (wD 0 2 Z tS_54 tA_54 Z (wP Z (QE Z Z Z Zq Z Q73 Q30 tZ_22 Z (zs:=[V1]) (by kernel_rfl) Z (out:=[_]) Z (fun a8=>(Q2w ([(p,n,c)] : List Hdr) 2 0 Z Z Z Zq Z Z Z Z Z (fun F w hφ=>⟨[_],[],Z,Z,Z,Z⟩) Q73 tR_22 Z Z (by simp; omega) (by simp; omega) (H2:=fun a1 a2=>[.blk a8 [.slice p n c] 22,.blk g [V1,V1,.slice p2 h2.length c2,V1,V1,V1,V1,V1,V1,V1,V1,V1,V1,V1,V1,V1,V1,.slice a3 a5.length a4,V1,V1,V1,V1,V1,V1,V1,V1,V1,V1,V1] 106,.own 22 1 Q3W (.slice a1 ((h2 ++ ([(p,n,c)] : List Hdr)).length) a2) (h2 ++ ([(p,n,c)] : List Hdr)),Q1v 3 1 (h2.map Q5P),Q1v 3 1 ([Q5P (p,n,c)])]) (fun _ _=>Z) (fun a1 a2=>(Q3E 0 Z (H':=V4 ..) Z (wP Z (wF Z tF_106_2 (wS 0 2 Z tS_54 (all':=V29 ..) Z (H':=V4 ..) Z ?_))))))))))))))))
 refine Q3 (Q6F [.blk g [V1,V1,.slice a1 ((h2 ++ ([(p,n,c)] : List Hdr)).length) a2,V1,V1,V1,V1,V1,V1,V1,V1,V1,V1,V1,V1,V1,V1,.slice a3 a5.length a4,V1,V1,V1,V1,V1,V1,V1,V1,V1,V1,V1] 106,.own 22 1 Q3W (.slice a1 ((h2 ++ ([(p,n,c)] : List Hdr)).length) a2) (h2 ++ ([(p,n,c)] : List Hdr)),Q1v 3 1 ((h2 ++ [(p,n,c)]).map Q5P)] (fun _ h=>h.flPush 2 3 Z Z Z) (Q5E (Hr:=[.blk g [V1,V1,.slice a1 ((h2 ++ ([(p,n,c)] : List Hdr)).length) a2,V1,V1,V1,V1,V1,V1,V1,V1,V1,V1,V1,V1,V1,V1,.slice a3 a5.length a4,V1,V1,V1,V1,V1,V1,V1,V1,V1,V1,V1] 106,.own 22 1 Q3W (.slice a1 ((h2 ++ ([(p,n,c)] : List Hdr)).length) a2) (h2 ++ ([(p,n,c)] : List Hdr)),Q1v 3 1 ((h2 ++ [(p,n,c)]).map Q5P)]) [0,1,2] Tryz.results102 ?_ (asK [] Z) Z Z (.inr Z)))
 exact ⟨_,_,_,by simp,hB2.push hn,Z,Z,Z,Z⟩
theorem ap_oneToken (g:Nat) (p2:OA) (c2:Nat) (h2:List Hdr) (a2:OA) (a3:Nat) (a4:List Hdr) (a0:Int) (a9:OA) (a5 aA:Nat) (hL2:h2.length + 1 ≤ 1073741824) (hB2:Bd h2) (aF:a5 ≤ 10000):Q1R Tryz.prog 56 [.pointer (some ⟨g,0,none⟩),.agg #[.int .i64 a0,.slice a9 a5 aA]] [] [.blk g [V1,V1,.slice p2 h2.length c2,V1,V1,V1,V1,V1,V1,V1,V1,V1,V1,V1,V1,V1,V1,.slice a2 a4.length a3,V1,V1,V1,V1,V1,V1,V1,V1,V1,V1,V1] 106,.own 22 1 Q3W (.slice p2 h2.length c2) h2,Q1v 3 1 (h2.map Q5P),Q1v 3 1 ([Q5P (a9,a5,aA)])] (fun v Φr Hr=>∃ (q2:OA) (d2:Nat) (k2:List Hdr),k2.length ≤ h2.length + 1 ∧ Bd k2 ∧ v = .tuple #[] ∧ Φr = [] ∧ Hr = [.blk g [V1,V1,.slice q2 k2.length d2,V1,V1,V1,V1,V1,V1,V1,V1,V1,V1,V1,V1,V1,V1,.slice a2 a4.length a3,V1,V1,V1,V1,V1,V1,V1,V1,V1,V1,V1] 106,.own 22 1 Q3W (.slice q2 k2.length d2) k2,Q1v 3 1 (k2.map Q5P)]):=by
 refine QZ Tryz.func56 Z Tryz.ntmps56 Z (S:=[_,_]) Z (fun C=>(Q6 (Q2 (wB Z (fun g3=>(Q3 (Q4 (Q2 (wP Z (wF Z Q3u (wD 0 1 Z Q30 Q4R Z (wC [1,2,3,4] [0] Z fn_102 Z (ap_putInts _ p2 c2 h2 a2 a3 a4 a9 a5 aA (by omega) hB2 aF) (asK [] Z) Z (H':=[_]) Z ?_))))))))))))
 rintro _ _ _ ⟨a7,a8,a1,aB,aC,aI,rfl,rfl,rfl⟩
 refine Q3 (Q5E (Hr:=[.blk g [V1,V1,.slice a7 a1.length a8,V1,V1,V1,V1,V1,V1,V1,V1,V1,V1,V1,V1,V1,V1,.slice a2 a4.length a3,V1,V1,V1,V1,V1,V1,V1,V1,V1,V1,V1] 106,.own 22 1 Q3W (.slice a7 a1.length a8) a1,Q1v 3 1 (a1.map Q5P)]) [0,1,2] Tryz.results56 ?_ (asK [] Z) Z Z (.inr Z))
 exact ⟨_,_,_,by have:=aB; omega,aC,Z,Z,Z⟩
theorem ap_putTokens (g:Nat) (p2:OA) (c2:Nat) (h2:List Hdr) (aB:OA) (aC:Nat) (a0:List Hdr) (p:OA) (c:Nat) (xs:List Q1) (hL2:h2.length + 10000 ≤ 1073741824) (hB2:Bd h2) (hL17:a0.length + 1 ≤ 1073741824) (hB17:Bd a0) (hn:xs.length ≤ 10000) (hx : ∀ y ∈ xs,Q6V y):Q1R Tryz.prog 36 [.pointer (some ⟨g,0,none⟩),.slice p xs.length c] [] [.blk g [V1,V1,.slice p2 h2.length c2,V1,V1,V1,V1,V1,V1,V1,V1,V1,V1,V1,V1,V1,V1,.slice aB a0.length aC,V1,V1,V1,V1,V1,V1,V1,V1,V1,V1,V1] 106,.own 22 1 Q3W (.slice p2 h2.length c2) h2,Q1v 3 1 (h2.map Q5P),.own 40 1 Q3W (.slice aB a0.length aC) a0,Q1v 45 2 (a0.map Q5P),Q1l Qb 45 2 (.slice p xs.length c) xs] (fun v Φr Hr=>∃ (q2:OA) (d2:Nat) (k2:List Hdr) (aJ:OA) (aK:Nat) (a7:List Hdr),k2.length ≤ h2.length + 10000 ∧ Bd k2 ∧ a7.length ≤ a0.length + 1 ∧ Bd a7 ∧ v = .tuple #[] ∧ Φr = [] ∧ Hr = [.blk g [V1,V1,.slice q2 k2.length d2,V1,V1,V1,V1,V1,V1,V1,V1,V1,V1,V1,V1,V1,V1,.slice aJ a7.length aK,V1,V1,V1,V1,V1,V1,V1,V1,V1,V1,V1] 106,.own 22 1 Q3W (.slice q2 k2.length d2) k2,Q1v 3 1 (k2.map Q5P),.own 40 1 Q3W (.slice aJ a7.length aK) a7,Q1v 45 2 (a7.map Q5P)]):=by
 refine QZ Tryz.func36 Z Tryz.ntmps36 Z (S:=[_,_]) Z (fun C=>(Q6 (Q2 (Q46 5 Z (fun zz aL=>?_)))))
 have hzl:zz.length = xs.length:=Q3g aL
 refine wP Z (wP Z (wP Z (wF Z tF_106_17 (wD 1 17 Z tS_52 tA_52 Z (wP Z (QE Z Z Z Zq Z Q6y Q1X tZ_40 Z (zs:=[V1]) (by kernel_rfl) Z (out:=[_]) Z (fun aS=>(Q2w ([(p,xs.length,c)] : List Hdr) 5 0 Z Z Z Zq Z Z Z Z Z (fun F w hφ=>⟨[_],[],Z,Z,Z,Z⟩) Q6y tR_40 Z Z (by simp; omega) (by simp; omega) (H2:=fun a2 a3=>[.blk aS [.slice p xs.length c] 40,Q2j Qb (zz.drop 0) none,.blk g [V1,V1,.slice p2 h2.length c2,V1,V1,V1,V1,V1,V1,V1,V1,V1,V1,V1,V1,V1,V1,.slice aB a0.length aC,V1,V1,V1,V1,V1,V1,V1,V1,V1,V1,V1] 106,.own 22 1 Q3W (.slice p2 h2.length c2) h2,Q1v 3 1 (h2.map Q5P),.own 40 1 Q3W (.slice a2 ((a0 ++ ([(p,xs.length,c)] : List Hdr)).length) a3) (a0 ++ ([(p,xs.length,c)] : List Hdr)),Q1v 45 2 (a0.map Q5P),.own 45 2 Qb.pair (.slice p xs.length c) zz]) (fun _ _=>Z) (fun a2 a3=>(Q3E 0 Z (H':=V7 ..) Z (wP Z (wF Z tF_106_17 (wS 1 17 Z tS_52 (all':=V29 ..) Z (H':=V7 ..) Z (Q3 (Q4 ?_)))))))))))))))
 refine Q5 [0,1] (S':=[_,_]) Z (Q6 (Q2 (wP Z (Q3 (Q4 (Qm (Q1f (σ:=OA × Nat × List Hdr × Nat) (fun s=>s.2.2.2 ≤ xs.length ∧ s.2.2.1.length ≤ h2.length + s.2.2.2 * 1 ∧ Bd s.2.2.1) (fun s=>xs.length - s.2.2.2) (fun s=>[(4,.int .i64 ((s.2.2.2:Nat):Int)),(0,.pointer (some ⟨g,0,none⟩)),(1,.slice p xs.length c)]) (fun s=>[]) (fun s=>[Q2j Qb (zz.drop s.2.2.2) none,.blk g [V1,V1,.slice s.1 s.2.2.1.length s.2.1,V1,V1,V1,V1,V1,V1,V1,V1,V1,V1,V1,V1,V1,V1,.slice a2 ((a0 ++ ([(p,xs.length,c)] : List Hdr)).length) a3,V1,V1,V1,V1,V1,V1,V1,V1,V1,V1,V1] 106,.own 22 1 Q3W (.slice s.1 s.2.2.1.length s.2.1) s.2.2.1,Q1v 3 1 (s.2.2.1.map Q5P),.own 40 1 Q3W (.slice a2 ((a0 ++ ([(p,xs.length,c)] : List Hdr)).length) a3) (a0 ++ ([(p,xs.length,c)] : List Hdr)),Q1v 45 2 (a0.map Q5P),.own 45 2 Qb.pair (.slice p xs.length c) zz]) (p2,c2,h2,0) ⟨Nat.zero_le _,Nat.le_add_right _ _,hB2⟩ [4,0,1] Z (asK [] Z) Z (fun s1 a9=>(Q6 (Q6 (Q2 (wP Z (wP Z (wN Z QB ?_))))))))))))))
 refine wP Z (Q3 (Q4 (Q5 [18,4,0,1] (S':=V4 ..) Z ?_)))
 refine QA Z (fun a8=>?_) (fun a8=>?_)
 replace a8:=of_decide_eq_true a8
 have aM:s1.2.2.2 < zz.length:=by omega
 obtain ⟨z1,aD⟩ : ∃ z,zz[s1.2.2.2]? = some z:=⟨_,List.getElem?_eq_getElem aM⟩
 have hxs:=hx z1.1 (by rw [← aL]; exact List.mem_map_of_mem (List.mem_of_getElem? aD))
 unfold Q6V at hxs
 obtain ⟨aN,aO,aE⟩:=a9
 refine Qs (Q4 (Q6 (Qm (Q2 (wP Z (wP Z (wP Z (Q2E 6 s1.2.2.2 Z Z Z Zq Z Z Z Z Z aM QB Qe (fun a4 aP=>?_)))))))))
 subst aP
 refine Qk Q7z 6 s1.2.2.2 0 Z Z Z Zq Z Z Z aD Qe QS (v:=fun _=>.agg #[.int .i64 (z1.1.rule),.slice z1.2.1 z1.1.ids.length z1.2.2]) (fun _=>Z) (fun _=>Z) (fun _ _=>(Q2x [.own 3 1 Qi (.slice z1.2.1 z1.1.ids.length z1.2.2) z1.1.ids,Q2j Qb (zz.drop (s1.2.2.2 + 1)) none,.blk g [V1,V1,.slice s1.1 s1.2.2.1.length s1.2.1,V1,V1,V1,V1,V1,V1,V1,V1,V1,V1,V1,V1,V1,V1,.slice a2 ((a0 ++ ([((some ⟨a4,0,none⟩),xs.length,c)] : List Hdr)).length) a3,V1,V1,V1,V1,V1,V1,V1,V1,V1,V1,V1] 106,.own 22 1 Q3W (.slice s1.1 s1.2.2.1.length s1.2.1) s1.2.2.1,Q1v 3 1 (s1.2.2.1.map Q5P),.own 40 1 Q3W (.slice a2 ((a0 ++ ([((some ⟨a4,0,none⟩),xs.length,c)] : List Hdr)).length) a3) (a0 ++ ([((some ⟨a4,0,none⟩),xs.length,c)] : List Hdr)),Q1v 45 2 (a0.map Q5P),.own 45 2 Qb.pair (.slice (some ⟨a4,0,none⟩) xs.length c) zz] (fun _ h=>h.bagUncons 0 Z aD) (Q2x [Q1v 3 1 ([Q5P (z1.2.1,z1.1.ids.length,z1.2.2)]),Q2j Qb (zz.drop (s1.2.2.2 + 1)) none,.blk g [V1,V1,.slice s1.1 s1.2.2.1.length s1.2.1,V1,V1,V1,V1,V1,V1,V1,V1,V1,V1,V1,V1,V1,V1,.slice a2 ((a0 ++ ([((some ⟨a4,0,none⟩),xs.length,c)] : List Hdr)).length) a3,V1,V1,V1,V1,V1,V1,V1,V1,V1,V1,V1] 106,.own 22 1 Q3W (.slice s1.1 s1.2.2.1.length s1.2.1) s1.2.2.1,Q1v 3 1 (s1.2.2.1.map Q5P),.own 40 1 Q3W (.slice a2 ((a0 ++ ([((some ⟨a4,0,none⟩),xs.length,c)] : List Hdr)).length) a3) (a0 ++ ([((some ⟨a4,0,none⟩),xs.length,c)] : List Hdr)),Q1v 45 2 (a0.map Q5P),.own 45 2 Qb.pair (.slice (some ⟨a4,0,none⟩) xs.length c) zz] (fun _ h=>h.flOne 0 Z) (wC [2,3,4,0] [1,5,6,7] Z fn_56 Z (ap_oneToken _ s1.1 s1.2.1 s1.2.2.1 a2 a3 (a0 ++ ([((some ⟨a4,0,none⟩),xs.length,c)] : List Hdr)) z1.1.rule z1.2.1 z1.1.ids.length z1.2.2 (by omega) aE hxs) (asK [] Z) Z (H':=V4 ..) Z ?_))))
 rintro _ _ _ ⟨aQ,aR,aA,aF,aG,rfl,rfl,rfl⟩
 refine Q3 (Qj (Q4 (Q2 (wP Z (wP Z (Qz (d:=20) (v':=.int .i64 ((s1.2.2.2 + 1:Nat):Int)) (S':=V11 ..) Z Z (Q1i (a:=s1.2.2.2) (b:=1) (by omega)) (QI (S':=V11 ..) Z Z Z Z Z (Q3 (Q1m [3,0,1,2,4,5,6] Z (H':=V7 ..) Z ?_)))))))))
 refine Q4f (aQ,aR,aA,s1.2.2.2 + 1) (by show xs.length - (s1.2.2.2 + 1) < xs.length - s1.2.2.2; omega) ⟨by show s1.2.2.2 + 1 ≤ _; omega,by have:=aF; show List.length (aA) ≤ _ + (s1.2.2.2 + 1) * _; omega,aG⟩ [4,0,1] Z (asK [] Z) Z
 replace a8:=of_decide_eq_false a8
 obtain ⟨aN,aO,aE⟩:=a9
 refine Q19 (Qc (Qc (Qt (Q6F [Q2j Qb (zz.drop s1.2.2.2) none,.blk g [V1,V1,.slice s1.1 s1.2.2.1.length s1.2.1,V1,V1,V1,V1,V1,V1,V1,V1,V1,V1,V1,V1,V1,V1,.slice a2 ((a0 ++ ([(p,xs.length,c)] : List Hdr)).length) a3,V1,V1,V1,V1,V1,V1,V1,V1,V1,V1,V1] 106,.own 22 1 Q3W (.slice s1.1 s1.2.2.1.length s1.2.1) s1.2.2.1,Q1v 3 1 (s1.2.2.1.map Q5P),.own 40 1 Q3W (.slice a2 ((a0 ++ ([(p,xs.length,c)] : List Hdr)).length) a3) (a0 ++ ([(p,xs.length,c)] : List Hdr)),Q1v 45 2 (a0.map Q5P),Q1v 45 2 [Q5P (p,xs.length,c)]] (fun _ h=>by have h2:=h.flOne 6 Z; exact h2) (Q6F [Q2j Qb (zz.drop s1.2.2.2) none,.blk g [V1,V1,.slice s1.1 s1.2.2.1.length s1.2.1,V1,V1,V1,V1,V1,V1,V1,V1,V1,V1,V1,V1,V1,V1,.slice a2 ((a0 ++ ([(p,xs.length,c)] : List Hdr)).length) a3,V1,V1,V1,V1,V1,V1,V1,V1,V1,V1,V1] 106,.own 22 1 Q3W (.slice s1.1 s1.2.2.1.length s1.2.1) s1.2.2.1,Q1v 3 1 (s1.2.2.1.map Q5P),.own 40 1 Q3W (.slice a2 ((a0 ++ ([(p,xs.length,c)] : List Hdr)).length) a3) (a0 ++ ([(p,xs.length,c)] : List Hdr)),Q1v 45 2 ((a0 ++ [(p,xs.length,c)]).map Q5P)] (fun _ h=>h.flPush 5 6 Z Z Z) (Q5E (Hr:=[.blk g [V1,V1,.slice s1.1 s1.2.2.1.length s1.2.1,V1,V1,V1,V1,V1,V1,V1,V1,V1,V1,V1,V1,V1,V1,.slice a2 ((a0 ++ ([(p,xs.length,c)] : List Hdr)).length) a3,V1,V1,V1,V1,V1,V1,V1,V1,V1,V1,V1] 106,.own 22 1 Q3W (.slice s1.1 s1.2.2.1.length s1.2.1) s1.2.2.1,Q1v 3 1 (s1.2.2.1.map Q5P),.own 40 1 Q3W (.slice a2 ((a0 ++ ([(p,xs.length,c)] : List Hdr)).length) a3) (a0 ++ ([(p,xs.length,c)] : List Hdr)),Q1v 45 2 ((a0 ++ [(p,xs.length,c)]).map Q5P)]) [1,2,3,4,5] Tryz.results36 ?_ (asK [] Z) Z Z (.inr Z)))))))
 exact ⟨_,_,_,_,_,_,by have h9:=aO; have h8:s1.2.2.2 * 1 ≤ 10000 * 1:=Nat.mul_le_mul_right _ (Nat.le_trans aN hn); omega,aE,by simp,hB17.push hn,Z,Z,Z⟩
def z_mark (k i:Int):Int:=IntKind.wrap .i64 ((IntKind.wrap .i64 (1000003 * (IntKind.wrap .i64 (k + 7)))) + i)
theorem Q8T (k i:Int):Q1R Tryz.prog 99 [.int .i64 k,.int .i64 i] [] [] (fun v Φr Hr=>v = .int .i64 (z_mark k i) ∧ Φr = [] ∧ Hr = []):=Q51 0 k i rfl
def Q6i (k i:Nat):List Value:=[.int .i64 (z_mark ((k:Nat):Int) ((i:Nat):Int))]
theorem fl_flatInts (p:OA) (c:Nat) (hs:List Hdr) (hL:hs.length ≤ 1073741824) (hb : ∀ h ∈ hs,h.2.1 ≤ 1073741824):Q1R Tryz.prog 59 [.slice p hs.length c] [] [.own 22 1 Q3W (.slice p hs.length c) hs,Q1v 3 1 (hs.map Q5P)] (fun v Φr Hr=>∃ rows,FlE hs Q6i rows ∧ v = .bool true ∧ Φr = [] ∧ Hr = [Q1v 3 1 rows]):=by
 refine QZ Tryz.func59 Z Tryz.ntmps59 Z (S:=[_]) Z (fun C=>(Q6 (Q2 (wP Z (Q3 (Q4 (Q6 (Q6 (Q2 (wP Z (Q3 (Q4 (Qm (Q1f (σ:=List Q75 × Nat) (fun s=>s.2 ≤ hs.length ∧ FlA hs Q6i s.2 0 s.1) (fun s=>hs.length - s.2) (fun s=>[(3,.int .i64 ((s.2:Nat):Int)),(2,.bool false),(0,.slice p hs.length c)]) (fun s=>[]) (fun s=>[.own 22 1 Q3W (.slice p hs.length c) hs,Q1v 3 1 s.1]) (hs.map Q5P,0) ⟨Nat.zero_le _,FlA.start⟩ [3,2,0] Z (asK [] Z) Z (fun s1 bA=>?_)))))))))))))))
 refine Q6 (Q6 (Q2 (wP Z (wP Z (wN Z Q73 (wP Z (Q3 (Q4 (Q5 [19,3,2,0] (S':=V4 ..) Z ?_)))))))))
 refine QA Z (fun aT=>?_) (fun aT=>?_)
 replace aT:=of_decide_eq_true aT
 have bC:s1.2 < hs.length:=by omega
 obtain ⟨y1,aO⟩ : ∃ y,hs[s1.2]? = some y:=⟨_,List.getElem?_eq_getElem bC⟩
 have hB1:y1.2.1 ≤ 1073741824:=hb _ (List.mem_of_getElem? aO)
 refine Qs (Q4 (Q6 (Qm (Q6 (Q2 (wP Z (Q3 (Q4 (Qm (Q1f (σ:=List Q75 × Nat) (fun s=>s.2 ≤ y1.2.1 ∧ FlA hs Q6i s1.2 s.2 s.1) (fun s=>y1.2.1 - s.2) (fun s=>[(4,.int .i64 ((s.2:Nat):Int)),(19,.bool (decide (((s1.2:Nat):Int) < ((hs.length:Nat):Int)))),(3,.int .i64 ((s1.2:Nat):Int)),(2,.bool false),(0,.slice p hs.length c)]) (fun s=>[]) (fun s=>[.own 22 1 Q3W (.slice p hs.length c) hs,Q1v 3 1 s.1]) (s1.1,0) ⟨Nat.zero_le _,bA.2⟩ [4,19,3,2,0] Z (asK [] Z) Z (fun s2 aU=>(Q6 (Q6 (Q2 ?_))))))))))))))
 refine wP Z (wP Z (wP Z (Q2E 0 s1.2 Z Z Z Zq Z Z Z Z Z bC Q73 Q30 (fun cL bQ=>?_))))
 subst bQ
 refine Qk Q3k 0 s1.2 0 Z Z Z Zq Z Z Z aO Q30 Q4R (v:=fun _=>.slice y1.1 y1.2.1 y1.2.2) (fun _=>Z) (fun _=>Z) (fun _ _=>(wN Z Q1j (wP Z (Q3 (Q4 (Q5 [28,4,19,3,2,0] (S':=V6 ..) Z ?_))))))
 refine QA Z (fun aV=>?_) (fun aV=>?_)
 replace aV:=of_decide_eq_true aV
 obtain ⟨r2,bD,bR,bS,c7⟩:=aU.2.at_ aO
 refine Qs (Q4 (Q6 (Qm (QV [0,1,2,3,4,5,6,8] Z Z (fun hok=>(xP hok 0 Z (xP hok 1 Z (QJ hok 2 0 s1.2 Z Z Z Zq Z Z Z Z Z Z bC Q73 Q30 (Q3j hok 3 Q3k 0 s1.2 0 Z Z Z Zq Z Z Z Z aO Q30 Q4R (v:=.slice y1.1 y1.2.1 y1.2.2) Z Z (fun _=>(xP hok 4 Z (xP hok 5 Z (xP hok 6 Z (xS hok 7 Z (wC [] [0,1] Z fn_99 Z (Q8T ((s1.2:Nat):Int) ((s2.2:Nat):Int)) (asK [] Z) Z (H':=[_,_]) Z ?_)))))))))))))))
 rintro _ _ _ ⟨rfl,rfl,rfl⟩
 refine Q3 (Qy [] [0] Z Z (Q8E hok 8 (p:=y1.1) (m:=y1.2.1) (cp:=y1.2.2) 1 s1.2 s2.2 Z Z Z Zq Z Z Z bD bR Z Z Z (by omega) c7 Q1j Q1w (fun cM bT=>(xS hok 9 Z (wl_flStore (cs:=Q6i s1.2 s2.2) 1 s1.2 s2.2 Z Z Z Z bD bS (hdr_eq bR bT) Z (by omega) Z Z Q1w Z (one_of Z) (H':=[_,_]) Z (Q3 (Qy [] [] Z Z (QL hok Z (Qj (Q4 (Q2 (wP Z (wP Z (Qz (d:=30) (v':=.int .i64 ((s2.2 + 1:Nat):Int)) (S':=V16 ..) Z Z (Q1i (a:=s2.2) (b:=1) (by omega)) ?_))))))))))))))
 refine QI (S':=V16 ..) Z Z Z Z Z (Q3 ?_)
 refine Q4f (s2.1.set s1.2 ⟨r2.h,(r2.l.set s2.2 (some (Q6i s1.2 s2.2))),r2.h,(r2.l.set s2.2 (some (Q6i s1.2 s2.2)))⟩,s2.2 + 1) (by show y1.2.1 - (s2.2 + 1) < _; omega) ⟨by show s2.2 + 1 ≤ _; omega,aU.2.store aO bD (by omega)⟩ [4,19,3,2,0] Z (asK [] Z) Z
 replace aV:=of_decide_eq_false aV
 refine Q19 (Qc (Qc (Qt (Qj (Q4 (Q2 (wP Z (wP Z (Qz (d:=21) (v':=.int .i64 ((s1.2 + 1:Nat):Int)) (S':=V7 ..) Z Z (Q1i (a:=s1.2) (b:=1) (by omega)) (QI (S':=V7 ..) Z Z Z Z Z (Q3 ?_)))))))))))
 refine Q4f (s2.1,s1.2 + 1) (by show hs.length - (s1.2 + 1) < _; omega) ⟨by show s1.2 + 1 ≤ _; omega,aU.2.next aO (by omega)⟩ [3,2,0] Z (asK [] Z) Z
 replace aT:=of_decide_eq_false aT
 refine Q19 (Qc (Qc (Qt (Q4 (Q6 (Q2 (wP Z (wN Z Q73 (Q7R (m:=hs.length) Q3W (none,0,0) Z Z Z Zq Z Z Z Z Z Q73 tR_22 Z Z (fun _ _=>Z) (by omega) (by omega) (fun a3=>(wP Z (Q3 (Q4 (Q5 [5,19,3,2,0] (S':=V5 ..) Z ?_))))))))))))))
 refine Q6 (Q6 (Q2 (wP Z (Q3 (Q4 (Qm (Q1f (σ:=List Hdr × List Q75 × Nat) (fun s=>s.2.2 ≤ hs.length ∧ FlB hs Q6i s.1 s.2.2 s.2.1) (fun s=>hs.length - s.2.2) (fun s=>[(6,.int .i64 ((s.2.2:Nat):Int)),(5,.slice (some ⟨a3,0,none⟩) hs.length hs.length),(19,.bool (decide (((s1.2:Nat):Int) < ((hs.length:Nat):Int)))),(3,.int .i64 ((s1.2:Nat):Int)),(2,.bool false),(0,.slice p hs.length c)]) (fun s=>[]) (fun s=>[.own 22 1 Q3W (.slice (some ⟨a3,0,none⟩) hs.length hs.length) s.1,.own 22 1 Q3W (.slice p hs.length c) hs,Q1v 3 1 s.2.1]) (List.replicate hs.length (none,0,0),s1.1,0) ⟨Nat.zero_le _,bA.2.grow (by omega) (by simp)⟩ [6,5,19,3,2,0] Z (asK [] Z) Z (fun s3 a6=>(Q6 (Q6 (Q2 (wP Z (wP Z (wN Z Q73 ?_))))))))))))))
 refine wP Z (Q3 (Q4 (Q5 [46,6,5,19,3,2,0] (S':=V7 ..) Z ?_)))
 refine QA Z (fun aW=>?_) (fun aW=>?_)
 replace aW:=of_decide_eq_true aW
 have aP:s3.2.2 < hs.length:=by omega
 obtain ⟨y3,aQ⟩ : ∃ y,hs[s3.2.2]? = some y:=⟨_,List.getElem?_eq_getElem aP⟩
 have hB3:y3.2.1 ≤ 1073741824:=hb _ (List.mem_of_getElem? aQ)
 refine Qs (Q4 (Q6 (Qm (Q6 (Q2 (wP Z (wP Z (Q2E 1 s3.2.2 Z Z Z Zq Z Z Z Z Z aP Q73 Q30 (fun bU bV=>?_)))))))))
 subst bV
 refine Qk Q3k 1 s3.2.2 0 Z Z Z Zq Z Z Z aQ Q30 Q4R (v:=fun _=>.slice y3.1 y3.2.1 y3.2.2) (fun _=>Z) (fun _=>Z) (fun _ _=>(wP Z (Q3 (Q4 (Q5 [7,46,6,5,19,3,2,0] (S':=V8 ..) Z (Q6 (Q6 (Q2 (wP Z (Q3 (Q4 (Qm (Q1f (σ:=List Q75 × Hdr × Nat) (fun s=>s.2.2 ≤ 64 ∧ FlC hs Q6i s3.1 s3.2.2 s.2.2 s.2.1 s.1) (fun s=>64 - s.2.2) (fun s=>[(8,.int .i64 ((s.2.2:Nat):Int)),(7,.slice s.2.1.1 s.2.1.2.1 s.2.1.2.2),(46,.bool (decide (((s3.2.2:Nat):Int) < ((hs.length:Nat):Int)))),(6,.int .i64 ((s3.2.2:Nat):Int)),(5,.slice (some ⟨a3,0,none⟩) hs.length hs.length),(19,.bool (decide (((s1.2:Nat):Int) < ((hs.length:Nat):Int)))),(3,.int .i64 ((s1.2:Nat):Int)),(2,.bool false),(0,.slice (some ⟨bU,0,none⟩) hs.length c)]) (fun s=>[]) (fun s=>[.own 22 1 Q3W (.slice (some ⟨a3,0,none⟩) hs.length hs.length) s3.1,.own 22 1 Q3W (.slice (some ⟨bU,0,none⟩) hs.length c) hs,Q1v 3 1 s.1]) (s3.2.1,y3,0) ⟨Nat.zero_le _,a6.2.begin aQ⟩ [8,7,46,6,5,19,3,2,0] Z (asK [] Z) Z (fun s4 aX=>(Q6 ?_)))))))))))))))
 refine Q6 (Q2 (wP Z (wP Z (Q3 (Q4 (Q5 [54,8,7,46,6,5,19,3,2,0] (S':=V10 ..) Z ?_))))))
 refine QA Z (fun aY=>?_) (fun aY=>?_)
 replace aY:=of_decide_eq_true aY
 obtain ⟨r4,bW,cN,cO,c8,bX⟩:=aX.2.at_ aQ
 refine Qs (Q4 (Q6 (Qm (Q2 (wP Z (wP Z (wP Z (wP Z (Q6C 1 s3.2.2 Z Z Z Zq Z Z Z Z Z aP Q73 Q30 (Qk Q3k 1 s3.2.2 0 Z Z Z Zq Z Z Z aQ Q30 Q4R (v:=fun _=>.slice y3.1 y3.2.1 y3.2.2) (fun _=>Z) (fun _=>Z) (fun _ _=>(wN Z Q1j (wP Z (wP Z ?_))))))))))))))
 refine Qz (d:=65) (v':=.int .i64 ((y3.2.1 + s4.2.2:Nat):Int)) (S':=V18 ..) Z Z (Q1i (a:=y3.2.1) (b:=s4.2.2) (by omega)) (wC [] [0,1,2] Z fn_99 Z (Q8T ((s3.2.2:Nat):Int) ((y3.2.1 + s4.2.2:Nat):Int)) (asK [] Z) Z (H':=V3 ..) Z ?_)
 rintro _ _ _ ⟨rfl,rfl,rfl⟩
 refine QE Z Z Z Zq Z Q1j Q1w Q7g Z (zs:=[.int .i64 0]) (by kernel_rfl) Z (out:=[_]) Z (fun cP=>(wl_flAppB (cs:=Q6i s3.2.2 (y3.2.1 + s4.2.2)) 3 s3.2.2 0 Z Z Z Zq Z Z bW (by rw [c8]; rfl) Z Z Z (one_of Z) Q1j tR_3 Z Z (by rw [bX]; simp only [Q3n,List.length_append,List.length_cons,List.length_nil]; omega) (by rw [bX]; simp only [Q3n,List.length_append,List.length_cons,List.length_nil]; omega) (H2:=fun aK=>[_,_,_,Q1v 3 1 (s4.1.set s3.2.2 ⟨r4.h,r4.l,aK,r4.m ++ [some (Q6i s3.2.2 (y3.2.1 + s4.2.2))]⟩)]) (fun _=>Z) (fun aK=>(Q3E 0 Z (H':=V3 ..) Z (QI (S':=V21 ..) Z Z Z Z Z (Q3 (Qj (Q4 (Q2 (wP Z (wP Z (Qz (d:=56) (v':=.int .i64 ((s4.2.2 + 1:Nat):Int)) (S':=V23 ..) Z Z (Q1i (a:=s4.2.2) (b:=1) (by omega)) (QI (S':=V23 ..) Z Z Z Z Z (Q3 ?_))))))))))))))
 refine Q4f (s4.1.set s3.2.2 ⟨r4.h,r4.l,aK,r4.m ++ [some (Q6i s3.2.2 (y3.2.1 + s4.2.2))]⟩,aK,s4.2.2 + 1) (by show 64 - (s4.2.2 + 1) < _; omega) ⟨by show s4.2.2 + 1 ≤ 64; omega,aX.2.app aQ bW _⟩ [8,7,46,6,5,19,3,2,0] Z (asK [] Z) Z
 replace aY:=of_decide_eq_false aY
 refine Q19 (Qc (Qc (Qt (Q4 (Q2 (wP Z (wP Z (wP Z (Q6C 0 s3.2.2 Z Z Z Zq Z Z Z Z Z (by rw [a6.2.2.1]; exact aP) Q73 Q30 (QU (u:=s4.2.1) 0 s3.2.2 Z Z Z Z Z (by rw [a6.2.2.1]; exact aP) Z Z Q30 Z (fun _ _ _=>Z) (H':=V3 ..) Z (Q3 (Qj (Q4 ?_)))))))))))))
 refine Q2 (wP Z (wP Z (Qz (d:=48) (v':=.int .i64 ((s3.2.2 + 1:Nat):Int)) (S':=V15 ..) Z Z (Q1i (a:=s3.2.2) (b:=1) (by omega)) (QI (S':=V15 ..) Z Z Z Z Z (Q3 ?_)))))
 have bY:=aX.2
 rw [show s4.2.2 = 64 from by omega] at bY
 refine Q4f (s3.1.set s3.2.2 s4.2.1,s4.1,s3.2.2 + 1) (by show hs.length - (s3.2.2 + 1) < _; omega) ⟨by show s3.2.2 + 1 ≤ _; omega,bY.done aP⟩ [6,5,19,3,2,0] Z (asK [] Z) Z
 replace aW:=of_decide_eq_false aW
 refine Q19 (Qc (Qc (Qt (Q4 (Q6 (Q6 (Q2 (wP Z (Q3 (Q4 (Qm (Q1f (σ:=Nat) (fun s=>s ≤ hs.length) (fun s=>hs.length - s) (fun s=>[(9,.int .i64 ((s:Nat):Int)),(46,.bool (decide (((s3.2.2:Nat):Int) < ((hs.length:Nat):Int)))),(6,.int .i64 ((s3.2.2:Nat):Int)),(5,.slice (some ⟨a3,0,none⟩) hs.length hs.length),(19,.bool (decide (((s1.2:Nat):Int) < ((hs.length:Nat):Int)))),(3,.int .i64 ((s1.2:Nat):Int)),(2,.bool false),(0,.slice p hs.length c)]) (fun s=>[]) (fun s=>[.own 22 1 Q3W (.slice (some ⟨a3,0,none⟩) hs.length hs.length) s3.1,.own 22 1 Q3W (.slice p hs.length c) hs,Q1v 3 1 s3.2.1]) 0 (Nat.zero_le _) [9,46,6,5,19,3,2,0] Z (asK [] Z) Z (fun s5 cC=>(Q6 ?_))))))))))))))
 refine Q6 (Q2 (wP Z (wP Z (wN Z Q73 (wP Z (Q3 (Q4 (Q5 [76,9,46,6,5,19,3,2,0] (S':=V9 ..) Z ?_))))))))
 refine QA Z (fun aZ=>?_) (fun aZ=>?_)
 replace aZ:=of_decide_eq_true aZ
 have b0:s5 < hs.length:=by omega
 obtain ⟨y5,b4⟩ : ∃ y,hs[s5]? = some y:=⟨_,List.getElem?_eq_getElem b0⟩
 have hB5:y5.2.1 ≤ 1073741824:=hb _ (List.mem_of_getElem? b4)
 obtain ⟨r5,b1,bZ,bE,c0,bF⟩:=a6.2.look (by omega) b4
 refine wc_flLen 2 Z b1 (fun hA5 hC5=>?_)
 rw [bE,Q3n] at hA5
 rw [bF,Q3n] at hC5
 refine Qs (Q4 (Q6 (Qm (Q6 (Q2 (wP Z (Q3 (Q4 (Qm (Q1f (σ:=Nat) (fun s=>s ≤ y5.2.1 + 64) (fun s=>y5.2.1 + 64 - s) (fun s=>[(10,.int .i64 ((s:Nat):Int)),(76,.bool (decide (((s5:Nat):Int) < ((hs.length:Nat):Int)))),(9,.int .i64 ((s5:Nat):Int)),(46,.bool (decide (((s3.2.2:Nat):Int) < ((hs.length:Nat):Int)))),(6,.int .i64 ((s3.2.2:Nat):Int)),(5,.slice (some ⟨a3,0,none⟩) hs.length hs.length),(19,.bool (decide (((s1.2:Nat):Int) < ((hs.length:Nat):Int)))),(3,.int .i64 ((s1.2:Nat):Int)),(2,.bool false),(0,.slice p hs.length c)]) (fun s=>[]) (fun s=>[.own 22 1 Q3W (.slice (some ⟨a3,0,none⟩) hs.length hs.length) s3.1,.own 22 1 Q3W (.slice p hs.length c) hs,Q1v 3 1 s3.2.1]) 0 (Nat.zero_le _) [10,76,9,46,6,5,19,3,2,0] Z (asK [] Z) Z (fun s6 cD=>(Q6 (Q6 (Q2 ?_))))))))))))))
 refine wP Z (wP Z (wP Z (Q6C 0 s5 Z Z Z Zq Z Z Z Z Z (by rw [a6.2.2.1]; exact b0) Q73 Q30 (Qk Q3k 0 s5 0 Z Z Z Zq Z Z Z c0 Q30 Q4R (v:=fun _=>.slice r5.g.1 r5.g.2.1 r5.g.2.2) (fun _=>Z) (fun _=>Z) (fun _ _=>(wN Z Q1j (wP Z (Q3 (Q4 (Q5 [85,10,76,9,46,6,5,19,3,2,0] (S':=V11 ..) Z ?_))))))))))
 refine QA Z (fun b2=>?_) (fun b2=>?_)
 replace b2:=of_decide_eq_true b2
 refine Qs (Q4 (Q6 (Qm (Q6 (QV [0,1,2,3,4,5,6,7,8,10,11,12,13,14,15,16,17,18,19,20,21,22,23,24,25,26,27,28,29,31,32,33,34] Z Z (fun hok=>(xP hok 0 Z (xP hok 1 Z (QJ hok 2 0 s5 Z Z Z Zq Z Z Z Z Z Z (by rw [a6.2.2.1]; exact b0) Q73 Q30 (Q3j hok 3 Q3k 0 s5 0 Z Z Z Zq Z Z Z Z c0 Q30 Q4R (v:=.slice r5.g.1 r5.g.2.1 r5.g.2.2) Z Z (fun _=>(xP hok 4 Z (Qad hok 5 (p:=r5.g.1) (m:=r5.g.2.1) (cp:=r5.g.2.2) 2 s5 s6 Z Z Z Zq Z Z Z b1 Z Z Z Z (by omega) (by rw [bF,Q3n]; omega) Q1j Q1w (fun cQ c1=>(Q9N hok 6 2 s5 s6 Z Z Z Zq Z Z Z b1 (hdr_eqG c1) Z (cs:=Q6i s5 s6) (by rw [bF]; exact Q87 (by omega)) Q1w Q3z Z (v:=.int .i64 (z_mark ((s5:Nat):Int) ((s6:Nat):Int))) Z (xP hok 7 Z ?_))))))))))))))))
 refine xP hok 8 Z (xS hok 9 Z (wC [] [0,1,2] Z fn_99 Z (Q8T ((s5:Nat):Int) ((s6:Nat):Int)) (asK [] Z) Z (H':=V3 ..) Z ?_))
 rintro _ _ _ ⟨rfl,rfl,rfl⟩
 refine Q3 (Qy [] [2,0] Z Z (xP hok 10 Z (Q1e (d:=98) (v':=.bool true) (S':=V21 ..) Z Z (congrArg Value.bool (by simp)) (xP hok 11 Z (xP hok 12 Z (xP hok 13 Z (xP hok 14 Z (xP hok 15 Z (Q1F hok 16 1 s5 Z Z Z Zq Z Z Z Z Z Z b0 Q73 Q30 (fun cE bG=>?_))))))))))
 subst bG
 refine Q3j hok 17 Q3k 1 s5 0 Z Z Z Zq Z Z Z Z b4 Q30 Q4R (v:=.slice y5.1 y5.2.1 y5.2.2) Z Z (fun _=>(Q4r hok 18 Z Z Z Zq Z Z Z Q1j (xP hok 19 Z (xP hok 20 Z ?_))))
 refine wx_split (d:=108) (S':=V31 ..) Z Z (fun aC=>?_) (fun aC=>?_)
 replace aC:=of_decide_eq_true aC
 refine xP hok 21 Z (xP hok 22 Z (QJ hok 23 1 s5 Z Z Z Zq Z Z Z Z Z Z b0 Q73 Q30 (Q3j hok 24 Q3k 1 s5 0 Z Z Z Zq Z Z Z Z b4 Q30 Q4R (v:=.slice y5.1 y5.2.1 y5.2.2) Z Z (fun _=>(xP hok 25 Z (Q8E hok 26 (p:=y5.1) (m:=y5.2.1) (cp:=y5.2.2) 2 s5 s6 Z Z Z Zq Z Z Z b1 bZ Z Z Z (by omega) (by rw [bE,Q3n]) Q1j Q1w (fun cF bH=>(Q9O hok 27 2 s5 s6 Z Z Z Zq Z Z Z b1 (hdr_eq bZ bH) Z (cs:=Q6i s5 s6) (by rw [bE]; exact Q87 (by omega)) Q1w Q3z Z (v:=.int .i64 (z_mark ((s5:Nat):Int) ((s6:Nat):Int))) Z (xP hok 28 Z (xP hok 29 Z (xS hok 30 Z (wC [] [0,1,2] Z fn_99 Z (Q8T ((s5:Nat):Int) ((s6:Nat):Int)) (asK [] Z) Z (H':=V3 ..) Z ?_))))))))))))
 rintro _ _ _ ⟨rfl,rfl,rfl⟩
 refine Q3 (Qy [] [2,1,1,2,0] Z Z (xP hok 31 Z (Q1e (d:=119) (v':=.bool true) (S':=V42 ..) Z Z (congrArg Value.bool (by simp)) (xP hok 32 Z (xP hok 33 Z (xP hok 34 Z (QL hok Z (Q4 (Q5 [122,85,10,76,9,46,6,5,19,3,2,0] (S':=V12 ..) Z (Q4q Z (Qs (Qj (Q4 ?_)))))))))))))
 refine Q2 (wP Z (wP Z (Qz (d:=87) (v':=.int .i64 ((s6 + 1:Nat):Int)) (S':=V13 ..) Z Z (Q1i (a:=s6) (b:=1) (by omega)) (QI (S':=V13 ..) Z Z Z Z Z (Q3 ?_)))))
 refine Q4f (s6 + 1) (by omega) (by omega) [10,76,9,46,6,5,19,3,2,0] Z (asK [] Z) Z
 replace aC:=of_decide_eq_false aC
 refine xO hok 21 Z (xO hok 22 Z (xO hok 23 Z (xO hok 24 Z (xO hok 25 Z (xO hok 26 Z (xO hok 27 Z (xO hok 28 Z (xO hok 29 Z (xS hok 30 Z (wO Z (Q3 (Qy [] [1,2,0] Z Z (xO hok 31 Z ?_)))))))))))))
 refine xO hok 32 Z (xP hok 33 Z (xP hok 34 Z (QL hok Z (Q4 (Q5 [122,85,10,76,9,46,6,5,19,3,2,0] (S':=V12 ..) Z (Q4q Z (Qs (Qj (Q4 (Q2 (wP Z (wP Z (Qz (d:=87) (v':=.int .i64 ((s6 + 1:Nat):Int)) (S':=V13 ..) Z Z (Q1i (a:=s6) (b:=1) (by omega)) ?_)))))))))))))
 refine QI (S':=V13 ..) Z Z Z Z Z (Q3 ?_)
 refine Q4f (s6 + 1) (by omega) (by omega) [10,76,9,46,6,5,19,3,2,0] Z (asK [] Z) Z
 replace b2:=of_decide_eq_false b2
 refine Q19 (Qc (Qc (Qt (Qj (Q4 (Q2 (wP Z (wP Z (Qz (d:=78) (v':=.int .i64 ((s5 + 1:Nat):Int)) (S':=V12 ..) Z Z (Q1i (a:=s5) (b:=1) (by omega)) (QI (S':=V12 ..) Z Z Z Z Z (Q3 ?_)))))))))))
 refine Q4f (s5 + 1) (by omega) (by omega) [9,46,6,5,19,3,2,0] Z (asK [] Z) Z
 replace aZ:=of_decide_eq_false aZ
 refine Q19 (Qc (Qc (Qt (Q4 (Q6 (Q6 (Q2 (wP Z (Q3 (Q4 (Qm (Q1f (σ:=List Hdr × List Q75 × Nat) (fun s=>s.2.2 ≤ hs.length ∧ FlD hs Q6i s.1 s.2.2 s.2.1) (fun s=>hs.length - s.2.2) (fun s=>[(11,.int .i64 ((s.2.2:Nat):Int)),(76,.bool (decide (((s5:Nat):Int) < ((hs.length:Nat):Int)))),(9,.int .i64 ((s5:Nat):Int)),(46,.bool (decide (((s3.2.2:Nat):Int) < ((hs.length:Nat):Int)))),(6,.int .i64 ((s3.2.2:Nat):Int)),(5,.slice (some ⟨a3,0,none⟩) hs.length hs.length),(19,.bool (decide (((s1.2:Nat):Int) < ((hs.length:Nat):Int)))),(3,.int .i64 ((s1.2:Nat):Int)),(2,.bool false),(0,.slice p hs.length c)]) (fun s=>[]) (fun s=>[.own 22 1 Q3W (.slice (some ⟨a3,0,none⟩) hs.length hs.length) s.1,.own 22 1 Q3W (.slice p hs.length c) hs,Q1v 3 1 s.2.1]) (s3.1,s3.2.1,0) ⟨Nat.zero_le _,a6.2.again⟩ [11,76,9,46,6,5,19,3,2,0] Z (asK [] Z) Z (fun s7 a7=>(Q6 ?_))))))))))))))
 refine Q6 (Q2 (wP Z (wP Z (wN Z Q73 (wP Z (Q3 (Q4 (Q5 [126,11,76,9,46,6,5,19,3,2,0] (S':=V11 ..) Z ?_))))))))
 refine QA Z (fun aD=>?_) (fun aD=>?_)
 replace aD:=of_decide_eq_true aD
 have b6:s7.2.2 < hs.length:=by omega
 obtain ⟨y7,b7⟩ : ∃ y,hs[s7.2.2]? = some y:=⟨_,List.getElem?_eq_getElem b6⟩
 have hB7:y7.2.1 ≤ 1073741824:=hb _ (List.mem_of_getElem? b7)
 obtain ⟨r7,bI,c9,c2⟩:=a7.2.at_ b7
 refine Qs (Q4 (Q6 (Qm (Q6 (Q2 (Q7R (m:=64) celR (none:Cel) Z Z Z Zq Z Z Z Z Z Q1j tR_3 Z Z (fun _ _=>cel_any Z) (by omega) (by omega) (fun bB=>(wP Z (Q3 (Q4 (Q5 [12,126,11,76,9,46,6,5,19,3,2,0] (S':=V12 ..) Z (Q6 (Q6 (Q2 ?_))))))))))))))
 refine wP Z (Q3 (Q4 (Qm (Q1f (σ:=List Cel × Nat) (fun s=>s.2 ≤ 64 ∧ s.1.length = 64) (fun s=>64 - s.2) (fun s=>[(13,.int .i64 ((s.2:Nat):Int)),(12,.slice (some ⟨bB,0,none⟩) 64 64),(126,.bool (decide (((s7.2.2:Nat):Int) < ((hs.length:Nat):Int)))),(11,.int .i64 ((s7.2.2:Nat):Int)),(76,.bool (decide (((s5:Nat):Int) < ((hs.length:Nat):Int)))),(9,.int .i64 ((s5:Nat):Int)),(46,.bool (decide (((s3.2.2:Nat):Int) < ((hs.length:Nat):Int)))),(6,.int .i64 ((s3.2.2:Nat):Int)),(5,.slice (some ⟨a3,0,none⟩) hs.length hs.length),(19,.bool (decide (((s1.2:Nat):Int) < ((hs.length:Nat):Int)))),(3,.int .i64 ((s1.2:Nat):Int)),(2,.bool false),(0,.slice p hs.length c)]) (fun s=>[]) (fun s=>[.own 3 1 celR (.slice (some ⟨bB,0,none⟩) 64 64) s.1,.own 22 1 Q3W (.slice (some ⟨a3,0,none⟩) hs.length hs.length) s7.1,.own 22 1 Q3W (.slice p hs.length c) hs,Q1v 3 1 s7.2.1]) (List.replicate 64 (none:Cel),0) ⟨Nat.zero_le _,by simp⟩ [13,12,126,11,76,9,46,6,5,19,3,2,0] Z (asK [] Z) Z (fun s8 aM=>(Q6 (Q6 (Q2 (wP Z (wP Z (Q3 (Q4 (Q5 [131,13,12,126,11,76,9,46,6,5,19,3,2,0] (S':=V14 ..) Z ?_)))))))))))))
 refine QA Z (fun aE=>?_) (fun aE=>?_)
 replace aE:=of_decide_eq_true aE
 refine Qs (Q4 (Q6 (Qm (Q2 (wP Z (wP Z (wP Z (wP Z (wN Z Q73 (wP Z (Qz (d:=139) (v':=.int .i64 ((s7.2.2 + hs.length:Nat):Int)) (S':=V19 ..) Z Z (Q1i (a:=s7.2.2) (b:=hs.length) (by omega)) (wP Z (wC [] [0,1,2,3] Z fn_99 Z (Q8T ((s7.2.2 + hs.length:Nat):Int) ((s8.2:Nat):Int)) (asK [] Z) Z (H':=V4 ..) Z ?_)))))))))))))
 rintro _ _ _ ⟨rfl,rfl,rfl⟩
 refine Q6C 0 s8.2 Z Z Z Zq Z Z Z Z Z (by rw [aM.2]; omega) Q1j Q1w (QU (u:=some ([.int .i64 (z_mark ((s7.2.2 + hs.length:Nat):Int) ((s8.2:Nat):Int))] : List Value)) 0 s8.2 Z Z Z Z Z (by rw [aM.2]; omega) Z Z Q1w Z (fun _ _ _=>cel_some Z) (H':=V4 ..) Z (Q3 (Qj (Q4 (Q2 (wP Z (wP Z (Qz (d:=133) (v':=.int .i64 ((s8.2 + 1:Nat):Int)) (S':=V24 ..) Z Z (Q1i (a:=s8.2) (b:=1) (by omega)) (QI (S':=V24 ..) Z Z Z Z Z (Q3 ?_))))))))))
 refine Q4f (s8.1.set s8.2 (some ([.int .i64 (z_mark ((s7.2.2 + hs.length:Nat):Int) ((s8.2:Nat):Int))] : List Value)),s8.2 + 1) (by show 64 - (s8.2 + 1) < _; omega) ⟨by show s8.2 + 1 ≤ 64; omega,by show (List.set _ _ _).length = 64; rw [List.length_set]; exact aM.2⟩ [13,12,126,11,76,9,46,6,5,19,3,2,0] Z (asK [] Z) Z
 replace aE:=of_decide_eq_false aE
 refine Q19 (Qc (Qc (Qt (Q4 (Q2 (wP Z (wP Z (wP Z (wP Z (Q2E 2 s7.2.2 Z Z Z Zq Z Z Z Z Z b6 Q73 Q30 (fun cG bJ=>?_)))))))))))
 subst bJ
 refine Qk Q3k 2 s7.2.2 0 Z Z Z Zq Z Z Z b7 Q30 Q4R (v:=fun _=>.slice y7.1 y7.2.1 y7.2.2) (fun _=>Z) (fun _=>Z) (fun _ _=>(wP Z (Q2x [_,_,_,Q1v 3 1 (s7.2.1.set s7.2.2 ⟨r7.h,r7.l,r7.h,r7.l⟩)] (fun _ h=>h.flReset 3 s7.2.2 Z bI) (wl_flAppO 3 s7.2.2 0 Z Z Z Zq Z Z (set_eqT _ bI) (by show _ = some (hdv r7.h); rw [c9]; rfl) Z Z aM.2 (by decide) Q1j tR_3 Z Z (by show r7.l.length + _ ≤ _; rw [c2,Q3n]; omega) (by show (r7.l.length + _) * _ ≤ _; rw [c2,Q3n]; omega) (H2:=fun a8=>[_,_,_,Q1v 3 1 ((s7.2.1.set s7.2.2 ⟨r7.h,r7.l,r7.h,r7.l⟩).set s7.2.2 ⟨r7.h,r7.l,a8,r7.l ++ s8.1⟩)]) (fun _=>Z) (fun a8=>(Q3E 0 Z (H':=V3 ..) Z (Q6C 0 s7.2.2 Z Z Z Zq Z Z Z Z Z (by rw [a7.2.2.1]; exact b6) Q73 Q30 (QU (u:=a8) 0 s7.2.2 Z Z Z Z Z (by rw [a7.2.2.1]; exact b6) Z Z Q30 Z (fun _ _ _=>Z) (H':=V3 ..) Z (Q3 (Qj (Q4 (Q2 (wP Z (wP Z (Qz (d:=128) (v':=.int .i64 ((s7.2.2 + 1:Nat):Int)) (S':=V24 ..) Z Z (Q1i (a:=s7.2.2) (b:=1) (by omega)) ?_)))))))))))))))
 refine QI (S':=V24 ..) Z Z Z Z Z (Q3 ?_)
 refine Q4f (s7.1.set s7.2.2 a8,(s7.2.1.set s7.2.2 ⟨r7.h,r7.l,r7.h,r7.l⟩).set s7.2.2 ⟨r7.h,r7.l,a8,r7.l ++ s8.1⟩,s7.2.2 + 1) (by show hs.length - (s7.2.2 + 1) < _; omega) ⟨by show s7.2.2 + 1 ≤ _; omega,a7.2.app b7 bI _ _⟩ [11,76,9,46,6,5,19,3,2,0] Z (asK [] Z) Z
 replace aD:=of_decide_eq_false aD
 refine Q19 (Qc (Qc (Qt (Q4 (Q6 (Q6 (Q2 (wP Z (Q3 (Q4 (Qm (Q1f (σ:=Nat) (fun s=>s ≤ hs.length) (fun s=>hs.length - s) (fun s=>[(14,.int .i64 ((s:Nat):Int)),(126,.bool (decide (((s7.2.2:Nat):Int) < ((hs.length:Nat):Int)))),(11,.int .i64 ((s7.2.2:Nat):Int)),(76,.bool (decide (((s5:Nat):Int) < ((hs.length:Nat):Int)))),(9,.int .i64 ((s5:Nat):Int)),(46,.bool (decide (((s3.2.2:Nat):Int) < ((hs.length:Nat):Int)))),(6,.int .i64 ((s3.2.2:Nat):Int)),(5,.slice (some ⟨a3,0,none⟩) hs.length hs.length),(19,.bool (decide (((s1.2:Nat):Int) < ((hs.length:Nat):Int)))),(3,.int .i64 ((s1.2:Nat):Int)),(2,.bool false),(0,.slice p hs.length c)]) (fun s=>[]) (fun s=>[.own 22 1 Q3W (.slice (some ⟨a3,0,none⟩) hs.length hs.length) s7.1,.own 22 1 Q3W (.slice p hs.length c) hs,Q1v 3 1 s7.2.1]) 0 (Nat.zero_le _) [14,126,11,76,9,46,6,5,19,3,2,0] Z (asK [] Z) Z (fun s9 cH=>(Q6 ?_))))))))))))))
 refine Q6 (Q2 (wP Z (wP Z (wN Z Q73 (wP Z (Q3 (Q4 (Q5 [155,14,126,11,76,9,46,6,5,19,3,2,0] (S':=V13 ..) Z ?_))))))))
 refine QA Z (fun aF=>?_) (fun aF=>?_)
 replace aF:=of_decide_eq_true aF
 have b8:s9 < hs.length:=by omega
 obtain ⟨y9,b9⟩ : ∃ y,hs[s9]? = some y:=⟨_,List.getElem?_eq_getElem b8⟩
 have hB9:y9.2.1 ≤ 1073741824:=hb _ (List.mem_of_getElem? b9)
 obtain ⟨r9,b3,c3,bK,cA,t9,c4⟩:=a7.2.look (by omega) b9
 refine wc_flLen 2 Z b3 (fun hA9 hC9=>?_)
 rw [bK,Q3n] at hA9
 have hE9:=hC9
 rw [c4,List.length_append,Q3n] at hE9
 refine Qs (Q4 (Q6 (Qm (Q6 (Q2 (wP Z (Q3 (Q4 (Qm (Q1f (σ:=Nat) (fun s=>s ≤ y9.2.1) (fun s=>y9.2.1 - s) (fun s=>[(15,.int .i64 ((s:Nat):Int)),(155,.bool (decide (((s9:Nat):Int) < ((hs.length:Nat):Int)))),(14,.int .i64 ((s9:Nat):Int)),(126,.bool (decide (((s7.2.2:Nat):Int) < ((hs.length:Nat):Int)))),(11,.int .i64 ((s7.2.2:Nat):Int)),(76,.bool (decide (((s5:Nat):Int) < ((hs.length:Nat):Int)))),(9,.int .i64 ((s5:Nat):Int)),(46,.bool (decide (((s3.2.2:Nat):Int) < ((hs.length:Nat):Int)))),(6,.int .i64 ((s3.2.2:Nat):Int)),(5,.slice (some ⟨a3,0,none⟩) hs.length hs.length),(19,.bool (decide (((s1.2:Nat):Int) < ((hs.length:Nat):Int)))),(3,.int .i64 ((s1.2:Nat):Int)),(2,.bool false),(0,.slice p hs.length c)]) (fun s=>[]) (fun s=>[.own 22 1 Q3W (.slice (some ⟨a3,0,none⟩) hs.length hs.length) s7.1,.own 22 1 Q3W (.slice p hs.length c) hs,Q1v 3 1 s7.2.1]) 0 (Nat.zero_le _) [15,155,14,126,11,76,9,46,6,5,19,3,2,0] Z (asK [] Z) Z (fun a5 cB=>(Q6 (Q6 (Q2 ?_))))))))))))))
 refine wP Z (wP Z (wP Z (Q2E 1 s9 Z Z Z Zq Z Z Z Z Z b8 Q73 Q30 (fun cI bL=>?_))))
 subst bL
 refine Qk Q3k 1 s9 0 Z Z Z Zq Z Z Z b9 Q30 Q4R (v:=fun _=>.slice y9.1 y9.2.1 y9.2.2) (fun _=>Z) (fun _=>Z) (fun _ _=>(wN Z Q1j (wP Z (Q3 (Q4 (Q5 [164,15,155,14,126,11,76,9,46,6,5,19,3,2,0] (S':=V15 ..) Z ?_))))))
 refine QA Z (fun aG=>?_) (fun aG=>?_)
 replace aG:=of_decide_eq_true aG
 refine Qs (Q4 (Q6 (Qm (Q6 (QV [0,1,2,3,4,5,6,7,8,10,11,12,13,14,15,16,17,18,19,20,21,23,24,25] Z Z (fun hok=>(xP hok 0 Z (xP hok 1 Z (QJ hok 2 1 s9 Z Z Z Zq Z Z Z Z Z Z b8 Q73 Q30 (Q3j hok 3 Q3k 1 s9 0 Z Z Z Zq Z Z Z Z b9 Q30 Q4R (v:=.slice y9.1 y9.2.1 y9.2.2) Z Z (fun _=>(xP hok 4 Z (Q8E hok 5 (p:=y9.1) (m:=y9.2.1) (cp:=y9.2.2) 2 s9 a5 Z Z Z Zq Z Z Z b3 c3 Z Z Z (by omega) (by rw [bK,Q3n]) Q1j Q1w (fun cJ bM=>(Q9O hok 6 2 s9 a5 Z Z Z Zq Z Z Z b3 (hdr_eq c3 bM) Z (cs:=Q6i s9 a5) (by rw [bK]; exact Q87 (by omega)) Q1w Q3z Z (v:=.int .i64 (z_mark ((s9:Nat):Int) ((a5:Nat):Int))) Z (xP hok 7 Z ?_))))))))))))))))
 refine xP hok 8 Z (xS hok 9 Z (wC [] [0,1,2] Z fn_99 Z (Q8T ((s9:Nat):Int) ((a5:Nat):Int)) (asK [] Z) Z (H':=V3 ..) Z ?_))
 rintro _ _ _ ⟨rfl,rfl,rfl⟩
 refine Q3 (Qy [] [2,1] Z Z (xP hok 10 Z (Q1e (d:=177) (v':=.bool true) (S':=V25 ..) Z Z (congrArg Value.bool (by simp)) (xP hok 11 Z (xP hok 12 Z (xP hok 13 Z (xP hok 14 Z (QJ hok 15 0 s9 Z Z Z Zq Z Z Z Z Z Z (by rw [a7.2.2.1]; exact b8) Q73 Q30 (Q3j hok 16 Q3k 0 s9 0 Z Z Z Zq Z Z Z Z cA Q30 Q4R (v:=.slice r9.g.1 r9.g.2.1 r9.g.2.2) Z Z (fun _=>(xP hok 17 Z (Qad hok 18 (p:=r9.g.1) (m:=r9.g.2.1) (cp:=r9.g.2.2) 2 s9 a5 Z Z Z Zq Z Z Z b3 Z Z Z Z (by omega) hC9.symm Q1j Q1w (fun cK bN=>(Q9N hok 19 2 s9 a5 Z Z Z Zq Z Z Z b3 (hdr_eqG bN) Z (cs:=Q6i s9 a5) (by rw [c4]; exact app_at (by omega)) Q1w Q3z Z (v:=.int .i64 (z_mark ((s9:Nat):Int) ((a5:Nat):Int))) Z (xP hok 20 Z ?_)))))))))))))))
 refine xP hok 21 Z (xS hok 22 Z (wC [] [0,1,2] Z fn_99 Z (Q8T ((s9:Nat):Int) ((a5:Nat):Int)) (asK [] Z) Z (H':=V3 ..) Z ?_))
 rintro _ _ _ ⟨rfl,rfl,rfl⟩
 refine Q3 (Qy [] [2,0,2,1] Z Z (xP hok 23 Z (Q1e (d:=190) (v':=.bool true) (S':=V38 ..) Z Z (congrArg Value.bool (by simp)) (xP hok 24 Z (xP hok 25 Z (QL hok Z (Q4 (Q5 [192,164,15,155,14,126,11,76,9,46,6,5,19,3,2,0] (S':=V16 ..) Z (Q4q Z (Qs (Qj (Q4 (Q2 ?_)))))))))))))
 refine wP Z (wP Z (Qz (d:=166) (v':=.int .i64 ((a5 + 1:Nat):Int)) (S':=V17 ..) Z Z (Q1i (a:=a5) (b:=1) (by omega)) (QI (S':=V17 ..) Z Z Z Z Z (Q3 ?_))))
 refine Q4f (a5 + 1) (by omega) (by omega) [15,155,14,126,11,76,9,46,6,5,19,3,2,0] Z (asK [] Z) Z
 replace aG:=of_decide_eq_false aG
 refine Q19 (Qc (Qc (Qt (Qj (Q4 (Q2 (wP Z (wP Z (Qz (d:=157) (v':=.int .i64 ((s9 + 1:Nat):Int)) (S':=V16 ..) Z Z (Q1i (a:=s9) (b:=1) (by omega)) (QI (S':=V16 ..) Z Z Z Z Z (Q3 ?_)))))))))))
 refine Q4f (s9 + 1) (by omega) (by omega) [14,126,11,76,9,46,6,5,19,3,2,0] Z (asK [] Z) Z
 replace aF:=of_decide_eq_false aF
 refine Q19 (Qc (Qc (Qt (Q4 (Q6 (Q2 (QI (S':=V12 ..) Z Z Z Z Z (Q3 (Q4 (QP (QH (Hr:=[Q1v 3 1 s7.2.1]) [2] Tryz.results59 (QD Z) ?_ (asK [] Z) Z Z (.inl Z))))))))))))
 exact ⟨_,a7.2.left,Z,Z,Z⟩
theorem Q54 (N:Nat) (a0:Int) (a1:Int) (o0:Bool) (hm:Q5k N a0 a1 = some o0):Q1R Tryz.prog 13 [.agg #[.int .i64 a0,V1],.agg #[.int .i64 a1,V1]] [] [] (fun v Φr Hr=>v = .bool o0 ∧ Φr = [] ∧ Hr = []):=by
 unfold Q5k at hm
 refine QZ Tryz.func13 Z Tryz.ntmps13 Z (S:=[_,_]) Z (fun C=>(Q6 (Q2 (wB Z (fun g2=>(wB Z (fun g3=>(wP Z (Q3 (Q4 (Q5 [3,2] (S':=[_,_]) Z (Q6 (Q2 (wF Z Q2L (wD 1 0 Z Q1w Q3z Z (wF Z Q2L ?_))))))))))))))))
 refine wD 0 0 Z Q1w Q3z Z (wP Z (wP Z ?_))
 refine Q5F (d:=10) (S':=V7 ..) Z Z (fun hs10=>?_) (fun hs10=>?_)
 replace hm:=Q1z hm hs10
 refine wF Z Q3u (wD 1 1 Z Q30 Q4R Z (wF Z Q3u (wD 0 1 Z Q30 Q4R Z (Q4Q (.sli 1 Qi none 0 ([] : List Int)) (fun _ _ _=>Q5n) (Q4Q (.sli 1 Qi none 0 ([] : List Int)) (fun _ _ _=>Q5n) ?_)))))
 obtain ⟨v15,hc15,hm⟩:=Q7 hm
 refine wC [] [0,1] Z fn_35 Z (Q7t N none 0 ([] : List Int) none 0 ([] : List Int) _ hc15) (asK [1,0] Z) Z (H':=[_,_]) Z ?_
 rintro _ _ _ ⟨rfl,rfl,rfl⟩
 refine wP Z (wP Z (Q3 (Q4 (Q5 [4] (S':=[_]) Z (QP ?_)))))
 have hE:=(Zi hm).symm
 replace hE:=hE.symm
 subst hE
 refine QH (Hr:=[]) [] Tryz.results13 (QD Z) ⟨Z,Z,Z⟩ (asK [] Z) Z Z (.inl Z)
 replace hm:=Q1y hm hs10
 refine wO Z (wO Z (wO Z (wO Z (wO Z (wP Z (wP Z (Q3 (Q4 (Q5 [4] (S':=[_]) Z (QP ?_))))))))))
 have hE:=(Zi hm).symm
 replace hE:=hE.symm
 subst hE
 refine QH (Hr:=[]) [] Tryz.results13 (QD Z) ⟨Z,Z,Z⟩ (asK [] Z) Z Z (.inl Z)
def Q43 (k i:Int):Int:=IntKind.wrap .i64 ((IntKind.wrap .i64 (1000003 * (IntKind.wrap .i64 (k + 7)))) + i)
theorem Q6r (k i:Int):Q1R Tryz.prog 49 [.int .i64 k,.int .i64 i] [] [] (fun v Φr Hr=>v = .agg #[.int .i64 (Q43 k i),V1] ∧ Φr = [] ∧ Hr = []):=Q4z 0 k i rfl
def Q3e (k i:Nat):List Value:=[.int .i64 (Q43 ((k:Nat):Int) ((i:Nat):Int)),V1]
theorem Q8x (z:Int):Q5k 2 z z = some true:=by
 simp [Q5k,Q3N,Q3L,Q1o,Qf,Q5x,gd]
theorem fl_flatTokens (p:OA) (c:Nat) (hs:List Hdr) (hL:hs.length ≤ 1073741824) (hb : ∀ h ∈ hs,h.2.1 ≤ 1073741824):Q1R Tryz.prog 74 [.slice p hs.length c] [] [.own 40 1 Q3W (.slice p hs.length c) hs,Q1v 45 2 (hs.map Q5P)] (fun v Φr Hr=>∃ rows,FlE hs Q3e rows ∧ v = .bool true ∧ Φr = [] ∧ Hr = [Q1v 45 2 rows]):=by
 refine QZ Tryz.func74 Z Tryz.ntmps74 Z (S:=[_]) Z (fun C=>(Q6 (Q2 (wP Z (Q3 (Q4 (Q6 (Q6 (Q2 (wP Z (Q3 (Q4 (Qm (Q1f (σ:=List Q75 × Nat) (fun s=>s.2 ≤ hs.length ∧ FlA hs Q3e s.2 0 s.1) (fun s=>hs.length - s.2) (fun s=>[(3,.int .i64 ((s.2:Nat):Int)),(2,.bool false),(0,.slice p hs.length c)]) (fun s=>[]) (fun s=>[.own 40 1 Q3W (.slice p hs.length c) hs,Q1v 45 2 s.1]) (hs.map Q5P,0) ⟨Nat.zero_le _,FlA.start⟩ [3,2,0] Z (asK [] Z) Z (fun s1 bA=>?_)))))))))))))))
 refine Q6 (Q6 (Q2 (wP Z (wP Z (wN Z Q6y (wP Z (Q3 (Q4 (Q5 [19,3,2,0] (S':=V4 ..) Z ?_)))))))))
 refine QA Z (fun aT=>?_) (fun aT=>?_)
 replace aT:=of_decide_eq_true aT
 have bC:s1.2 < hs.length:=by omega
 obtain ⟨y1,aO⟩ : ∃ y,hs[s1.2]? = some y:=⟨_,List.getElem?_eq_getElem bC⟩
 have hB1:y1.2.1 ≤ 1073741824:=hb _ (List.mem_of_getElem? aO)
 refine Qs (Q4 (Q6 (Qm (Q6 (Q2 (wP Z (Q3 (Q4 (Qm (Q1f (σ:=List Q75 × Nat) (fun s=>s.2 ≤ y1.2.1 ∧ FlA hs Q3e s1.2 s.2 s.1) (fun s=>y1.2.1 - s.2) (fun s=>[(4,.int .i64 ((s.2:Nat):Int)),(19,.bool (decide (((s1.2:Nat):Int) < ((hs.length:Nat):Int)))),(3,.int .i64 ((s1.2:Nat):Int)),(2,.bool false),(0,.slice p hs.length c)]) (fun s=>[]) (fun s=>[.own 40 1 Q3W (.slice p hs.length c) hs,Q1v 45 2 s.1]) (s1.1,0) ⟨Nat.zero_le _,bA.2⟩ [4,19,3,2,0] Z (asK [] Z) Z (fun s2 aU=>(Q6 (Q6 (Q2 ?_))))))))))))))
 refine wP Z (wP Z (wP Z (Q2E 0 s1.2 Z Z Z Zq Z Z Z Z Z bC Q6y Q1X (fun cL bQ=>?_))))
 subst bQ
 refine Qk Q3k 0 s1.2 0 Z Z Z Zq Z Z Z aO Q1X Q3D (v:=fun _=>.slice y1.1 y1.2.1 y1.2.2) (fun _=>Z) (fun _=>Z) (fun _ _=>(wN Z QB (wP Z (Q3 (Q4 (Q5 [28,4,19,3,2,0] (S':=V6 ..) Z ?_))))))
 refine QA Z (fun aV=>?_) (fun aV=>?_)
 replace aV:=of_decide_eq_true aV
 obtain ⟨r2,bD,bR,bS,c7⟩:=aU.2.at_ aO
 refine Qs (Q4 (Q6 (Qm (QV [0,1,2,3,4,5,6,8] Z Z (fun hok=>(xP hok 0 Z (xP hok 1 Z (QJ hok 2 0 s1.2 Z Z Z Zq Z Z Z Z Z Z bC Q6y Q1X (Q3j hok 3 Q3k 0 s1.2 0 Z Z Z Zq Z Z Z Z aO Q1X Q3D (v:=.slice y1.1 y1.2.1 y1.2.2) Z Z (fun _=>(xP hok 4 Z (xP hok 5 Z (xP hok 6 Z (xS hok 7 Z (wC [] [0,1] Z fn_49 Z (Q6r ((s1.2:Nat):Int) ((s2.2:Nat):Int)) (asK [] Z) Z (H':=[_,_]) Z ?_)))))))))))))))
 rintro _ _ _ ⟨rfl,rfl,rfl⟩
 refine Q3 (Qy [] [0] Z Z (Q8E hok 8 (p:=y1.1) (m:=y1.2.1) (cp:=y1.2.2) 1 s1.2 s2.2 Z Z Z Zq Z Z Z bD bR Z Z Z (by omega) c7 QB Qe (fun cM bT=>(xS hok 9 Z (wl_flStore (cs:=Q3e s1.2 s2.2) 1 s1.2 s2.2 Z Z Z Z bD bS (hdr_eq bR bT) Z (by omega) Z Z Qe Z (one_of Z) (H':=[_,_]) Z (Q3 (Qy [] [] Z Z (QL hok Z (Qj (Q4 (Q2 (wP Z (wP Z (Qz (d:=30) (v':=.int .i64 ((s2.2 + 1:Nat):Int)) (S':=V16 ..) Z Z (Q1i (a:=s2.2) (b:=1) (by omega)) ?_))))))))))))))
 refine QI (S':=V16 ..) Z Z Z Z Z (Q3 ?_)
 refine Q4f (s2.1.set s1.2 ⟨r2.h,(r2.l.set s2.2 (some (Q3e s1.2 s2.2))),r2.h,(r2.l.set s2.2 (some (Q3e s1.2 s2.2)))⟩,s2.2 + 1) (by show y1.2.1 - (s2.2 + 1) < _; omega) ⟨by show s2.2 + 1 ≤ _; omega,aU.2.store aO bD (by omega)⟩ [4,19,3,2,0] Z (asK [] Z) Z
 replace aV:=of_decide_eq_false aV
 refine Q19 (Qc (Qc (Qt (Qj (Q4 (Q2 (wP Z (wP Z (Qz (d:=21) (v':=.int .i64 ((s1.2 + 1:Nat):Int)) (S':=V7 ..) Z Z (Q1i (a:=s1.2) (b:=1) (by omega)) (QI (S':=V7 ..) Z Z Z Z Z (Q3 ?_)))))))))))
 refine Q4f (s2.1,s1.2 + 1) (by show hs.length - (s1.2 + 1) < _; omega) ⟨by show s1.2 + 1 ≤ _; omega,aU.2.next aO (by omega)⟩ [3,2,0] Z (asK [] Z) Z
 replace aT:=of_decide_eq_false aT
 refine Q19 (Qc (Qc (Qt (Q4 (Q6 (Q2 (wP Z (wN Z Q6y (Q7R (m:=hs.length) Q3W (none,0,0) Z Z Z Zq Z Z Z Z Z Q6y tR_40 Z Z (fun _ _=>Z) (by omega) (by omega) (fun a5=>(wP Z (Q3 (Q4 (Q5 [5,19,3,2,0] (S':=V5 ..) Z ?_))))))))))))))
 refine Q6 (Q6 (Q2 (wP Z (Q3 (Q4 (Qm (Q1f (σ:=List Hdr × List Q75 × Nat) (fun s=>s.2.2 ≤ hs.length ∧ FlB hs Q3e s.1 s.2.2 s.2.1) (fun s=>hs.length - s.2.2) (fun s=>[(6,.int .i64 ((s.2.2:Nat):Int)),(5,.slice (some ⟨a5,0,none⟩) hs.length hs.length),(19,.bool (decide (((s1.2:Nat):Int) < ((hs.length:Nat):Int)))),(3,.int .i64 ((s1.2:Nat):Int)),(2,.bool false),(0,.slice p hs.length c)]) (fun s=>[]) (fun s=>[.own 40 1 Q3W (.slice (some ⟨a5,0,none⟩) hs.length hs.length) s.1,.own 40 1 Q3W (.slice p hs.length c) hs,Q1v 45 2 s.2.1]) (List.replicate hs.length (none,0,0),s1.1,0) ⟨Nat.zero_le _,bA.2.grow (by omega) (by simp)⟩ [6,5,19,3,2,0] Z (asK [] Z) Z (fun s3 a7=>(Q6 (Q6 (Q2 (wP Z (wP Z (wN Z Q6y ?_))))))))))))))
 refine wP Z (Q3 (Q4 (Q5 [46,6,5,19,3,2,0] (S':=V7 ..) Z ?_)))
 refine QA Z (fun aW=>?_) (fun aW=>?_)
 replace aW:=of_decide_eq_true aW
 have aP:s3.2.2 < hs.length:=by omega
 obtain ⟨y3,aQ⟩ : ∃ y,hs[s3.2.2]? = some y:=⟨_,List.getElem?_eq_getElem aP⟩
 have hB3:y3.2.1 ≤ 1073741824:=hb _ (List.mem_of_getElem? aQ)
 refine Qs (Q4 (Q6 (Qm (Q6 (Q2 (wP Z (wP Z (Q2E 1 s3.2.2 Z Z Z Zq Z Z Z Z Z aP Q6y Q1X (fun bU bV=>?_)))))))))
 subst bV
 refine Qk Q3k 1 s3.2.2 0 Z Z Z Zq Z Z Z aQ Q1X Q3D (v:=fun _=>.slice y3.1 y3.2.1 y3.2.2) (fun _=>Z) (fun _=>Z) (fun _ _=>(wP Z (Q3 (Q4 (Q5 [7,46,6,5,19,3,2,0] (S':=V8 ..) Z (Q6 (Q6 (Q2 (wP Z (Q3 (Q4 (Qm (Q1f (σ:=List Q75 × Hdr × Nat) (fun s=>s.2.2 ≤ 64 ∧ FlC hs Q3e s3.1 s3.2.2 s.2.2 s.2.1 s.1) (fun s=>64 - s.2.2) (fun s=>[(8,.int .i64 ((s.2.2:Nat):Int)),(7,.slice s.2.1.1 s.2.1.2.1 s.2.1.2.2),(46,.bool (decide (((s3.2.2:Nat):Int) < ((hs.length:Nat):Int)))),(6,.int .i64 ((s3.2.2:Nat):Int)),(5,.slice (some ⟨a5,0,none⟩) hs.length hs.length),(19,.bool (decide (((s1.2:Nat):Int) < ((hs.length:Nat):Int)))),(3,.int .i64 ((s1.2:Nat):Int)),(2,.bool false),(0,.slice (some ⟨bU,0,none⟩) hs.length c)]) (fun s=>[]) (fun s=>[.own 40 1 Q3W (.slice (some ⟨a5,0,none⟩) hs.length hs.length) s3.1,.own 40 1 Q3W (.slice (some ⟨bU,0,none⟩) hs.length c) hs,Q1v 45 2 s.1]) (s3.2.1,y3,0) ⟨Nat.zero_le _,a7.2.begin aQ⟩ [8,7,46,6,5,19,3,2,0] Z (asK [] Z) Z (fun s4 aX=>(Q6 ?_)))))))))))))))
 refine Q6 (Q2 (wP Z (wP Z (Q3 (Q4 (Q5 [54,8,7,46,6,5,19,3,2,0] (S':=V10 ..) Z ?_))))))
 refine QA Z (fun aY=>?_) (fun aY=>?_)
 replace aY:=of_decide_eq_true aY
 obtain ⟨r4,bW,cN,cO,c8,bX⟩:=aX.2.at_ aQ
 refine Qs (Q4 (Q6 (Qm (Q2 (wP Z (wP Z (wP Z (wP Z (Q6C 1 s3.2.2 Z Z Z Zq Z Z Z Z Z aP Q6y Q1X (Qk Q3k 1 s3.2.2 0 Z Z Z Zq Z Z Z aQ Q1X Q3D (v:=fun _=>.slice y3.1 y3.2.1 y3.2.2) (fun _=>Z) (fun _=>Z) (fun _ _=>(wN Z QB (wP Z (wP Z ?_))))))))))))))
 refine Qz (d:=65) (v':=.int .i64 ((y3.2.1 + s4.2.2:Nat):Int)) (S':=V18 ..) Z Z (Q1i (a:=y3.2.1) (b:=s4.2.2) (by omega)) (wC [] [0,1,2] Z fn_49 Z (Q6r ((s3.2.2:Nat):Int) ((y3.2.1 + s4.2.2:Nat):Int)) (asK [] Z) Z (H':=V3 ..) Z ?_)
 rintro _ _ _ ⟨rfl,rfl,rfl⟩
 refine QE Z Z Z Zq Z QB Qe Q42 Z (zs:=[.int .i64 0,V1]) (by kernel_rfl) Z (out:=[_,_]) Z (fun cP=>(wl_flAppB (cs:=Q3e s3.2.2 (y3.2.1 + s4.2.2)) 3 s3.2.2 0 Z Z Z Zq Z Z bW (by rw [c8]; rfl) Z Z Z (one_of Z) QB Q7P Z Z (by rw [bX]; simp only [Q3n,List.length_append,List.length_cons,List.length_nil]; omega) (by rw [bX]; simp only [Q3n,List.length_append,List.length_cons,List.length_nil]; omega) (H2:=fun aK=>[_,_,_,Q1v 45 2 (s4.1.set s3.2.2 ⟨r4.h,r4.l,aK,r4.m ++ [some (Q3e s3.2.2 (y3.2.1 + s4.2.2))]⟩)]) (fun _=>Z) (fun aK=>(Q3E 0 Z (H':=V3 ..) Z (QI (S':=V21 ..) Z Z Z Z Z (Q3 (Qj (Q4 (Q2 (wP Z (wP Z (Qz (d:=56) (v':=.int .i64 ((s4.2.2 + 1:Nat):Int)) (S':=V23 ..) Z Z (Q1i (a:=s4.2.2) (b:=1) (by omega)) (QI (S':=V23 ..) Z Z Z Z Z (Q3 ?_))))))))))))))
 refine Q4f (s4.1.set s3.2.2 ⟨r4.h,r4.l,aK,r4.m ++ [some (Q3e s3.2.2 (y3.2.1 + s4.2.2))]⟩,aK,s4.2.2 + 1) (by show 64 - (s4.2.2 + 1) < _; omega) ⟨by show s4.2.2 + 1 ≤ 64; omega,aX.2.app aQ bW _⟩ [8,7,46,6,5,19,3,2,0] Z (asK [] Z) Z
 replace aY:=of_decide_eq_false aY
 refine Q19 (Qc (Qc (Qt (Q4 (Q2 (wP Z (wP Z (wP Z (Q6C 0 s3.2.2 Z Z Z Zq Z Z Z Z Z (by rw [a7.2.2.1]; exact aP) Q6y Q1X (QU (u:=s4.2.1) 0 s3.2.2 Z Z Z Z Z (by rw [a7.2.2.1]; exact aP) Z Z Q1X Z (fun _ _ _=>Z) (H':=V3 ..) Z (Q3 (Qj (Q4 ?_)))))))))))))
 refine Q2 (wP Z (wP Z (Qz (d:=48) (v':=.int .i64 ((s3.2.2 + 1:Nat):Int)) (S':=V15 ..) Z Z (Q1i (a:=s3.2.2) (b:=1) (by omega)) (QI (S':=V15 ..) Z Z Z Z Z (Q3 ?_)))))
 have bY:=aX.2
 rw [show s4.2.2 = 64 from by omega] at bY
 refine Q4f (s3.1.set s3.2.2 s4.2.1,s4.1,s3.2.2 + 1) (by show hs.length - (s3.2.2 + 1) < _; omega) ⟨by show s3.2.2 + 1 ≤ _; omega,bY.done aP⟩ [6,5,19,3,2,0] Z (asK [] Z) Z
 replace aW:=of_decide_eq_false aW
 refine Q19 (Qc (Qc (Qt (Q4 (Q6 (Q6 (Q2 (wP Z (Q3 (Q4 (Qm (Q1f (σ:=Nat) (fun s=>s ≤ hs.length) (fun s=>hs.length - s) (fun s=>[(9,.int .i64 ((s:Nat):Int)),(46,.bool (decide (((s3.2.2:Nat):Int) < ((hs.length:Nat):Int)))),(6,.int .i64 ((s3.2.2:Nat):Int)),(5,.slice (some ⟨a5,0,none⟩) hs.length hs.length),(19,.bool (decide (((s1.2:Nat):Int) < ((hs.length:Nat):Int)))),(3,.int .i64 ((s1.2:Nat):Int)),(2,.bool false),(0,.slice p hs.length c)]) (fun s=>[]) (fun s=>[.own 40 1 Q3W (.slice (some ⟨a5,0,none⟩) hs.length hs.length) s3.1,.own 40 1 Q3W (.slice p hs.length c) hs,Q1v 45 2 s3.2.1]) 0 (Nat.zero_le _) [9,46,6,5,19,3,2,0] Z (asK [] Z) Z (fun s5 cC=>(Q6 ?_))))))))))))))
 refine Q6 (Q2 (wP Z (wP Z (wN Z Q6y (wP Z (Q3 (Q4 (Q5 [76,9,46,6,5,19,3,2,0] (S':=V9 ..) Z ?_))))))))
 refine QA Z (fun aZ=>?_) (fun aZ=>?_)
 replace aZ:=of_decide_eq_true aZ
 have b0:s5 < hs.length:=by omega
 obtain ⟨y5,b4⟩ : ∃ y,hs[s5]? = some y:=⟨_,List.getElem?_eq_getElem b0⟩
 have hB5:y5.2.1 ≤ 1073741824:=hb _ (List.mem_of_getElem? b4)
 obtain ⟨r5,b1,bZ,bE,c0,bF⟩:=a7.2.look (by omega) b4
 refine wc_flLen 2 Z b1 (fun hA5 hC5=>?_)
 rw [bE,Q3n] at hA5
 rw [bF,Q3n] at hC5
 refine Qs (Q4 (Q6 (Qm (Q6 (Q2 (wP Z (Q3 (Q4 (Qm (Q1f (σ:=Nat) (fun s=>s ≤ y5.2.1 + 64) (fun s=>y5.2.1 + 64 - s) (fun s=>[(10,.int .i64 ((s:Nat):Int)),(76,.bool (decide (((s5:Nat):Int) < ((hs.length:Nat):Int)))),(9,.int .i64 ((s5:Nat):Int)),(46,.bool (decide (((s3.2.2:Nat):Int) < ((hs.length:Nat):Int)))),(6,.int .i64 ((s3.2.2:Nat):Int)),(5,.slice (some ⟨a5,0,none⟩) hs.length hs.length),(19,.bool (decide (((s1.2:Nat):Int) < ((hs.length:Nat):Int)))),(3,.int .i64 ((s1.2:Nat):Int)),(2,.bool false),(0,.slice p hs.length c)]) (fun s=>[]) (fun s=>[.own 40 1 Q3W (.slice (some ⟨a5,0,none⟩) hs.length hs.length) s3.1,.own 40 1 Q3W (.slice p hs.length c) hs,Q1v 45 2 s3.2.1]) 0 (Nat.zero_le _) [10,76,9,46,6,5,19,3,2,0] Z (asK [] Z) Z (fun s6 cD=>(Q6 (Q6 (Q2 ?_))))))))))))))
 refine wP Z (wP Z (wP Z (Q6C 0 s5 Z Z Z Zq Z Z Z Z Z (by rw [a7.2.2.1]; exact b0) Q6y Q1X (Qk Q3k 0 s5 0 Z Z Z Zq Z Z Z c0 Q1X Q3D (v:=fun _=>.slice r5.g.1 r5.g.2.1 r5.g.2.2) (fun _=>Z) (fun _=>Z) (fun _ _=>(wN Z QB (wP Z (Q3 (Q4 (Q5 [85,10,76,9,46,6,5,19,3,2,0] (S':=V11 ..) Z ?_))))))))))
 refine QA Z (fun b2=>?_) (fun b2=>?_)
 replace b2:=of_decide_eq_true b2
 refine Qs (Q4 (Q6 (Qm (Q6 (QV [0,1,2,3,4,5,6,7,8,11,12,13,14,15,16,17,18,19,20,21,22,23,24,25,26,27,28,29,32,33,34] Z Z (fun hok=>(xP hok 0 Z (xP hok 1 Z (QJ hok 2 0 s5 Z Z Z Zq Z Z Z Z Z Z (by rw [a7.2.2.1]; exact b0) Q6y Q1X (Q3j hok 3 Q3k 0 s5 0 Z Z Z Zq Z Z Z Z c0 Q1X Q3D (v:=.slice r5.g.1 r5.g.2.1 r5.g.2.2) Z Z (fun _=>(xP hok 4 Z (Qad hok 5 (p:=r5.g.1) (m:=r5.g.2.1) (cp:=r5.g.2.2) 2 s5 s6 Z Z Z Zq Z Z Z b1 Z Z Z Z (by omega) (by rw [bF,Q3n]; omega) QB Qe (fun cQ c1=>(Q9N hok 6 2 s5 s6 Z Z Z Zq Z Z Z b1 (hdr_eqG c1) Z (cs:=Q3e s5 s6) (by rw [bF]; exact Q87 (by omega)) Qe QS Z (v:=.agg #[.int .i64 (Q43 ((s5:Nat):Int) ((s6:Nat):Int)),V1]) Z (xP hok 7 Z ?_))))))))))))))))
 refine xP hok 8 Z (xS hok 9 Z (wC [] [0,1,2] Z fn_49 Z (Q6r ((s5:Nat):Int) ((s6:Nat):Int)) (asK [] Z) Z (H':=V3 ..) Z ?_))
 rintro _ _ _ ⟨rfl,rfl,rfl⟩
 refine Q3 (Qy [] [2,0] Z Z (xS hok 10 Z (wC [] [0,1,2] Z fn_13 Z (Q54 2 (Q43 ((s5:Nat):Int) ((s6:Nat):Int)) (Q43 ((s5:Nat):Int) ((s6:Nat):Int)) _ (Q8x _)) (asK [] Z) Z (H':=V3 ..) Z ?_)))
 rintro _ _ _ ⟨rfl,rfl,rfl⟩
 refine Q3 (Qy [] [0] Z Z (xP hok 11 Z (xP hok 12 Z (xP hok 13 Z (xP hok 14 Z (xP hok 15 Z (Q1F hok 16 1 s5 Z Z Z Zq Z Z Z Z Z Z b0 Q6y Q1X (fun cE bG=>?_))))))))
 subst bG
 refine Q3j hok 17 Q3k 1 s5 0 Z Z Z Zq Z Z Z Z b4 Q1X Q3D (v:=.slice y5.1 y5.2.1 y5.2.2) Z Z (fun _=>(Q4r hok 18 Z Z Z Zq Z Z Z QB (xP hok 19 Z (xP hok 20 Z ?_))))
 refine wx_split (d:=108) (S':=V31 ..) Z Z (fun aD=>?_) (fun aD=>?_)
 replace aD:=of_decide_eq_true aD
 refine xP hok 21 Z (xP hok 22 Z (QJ hok 23 1 s5 Z Z Z Zq Z Z Z Z Z Z b0 Q6y Q1X (Q3j hok 24 Q3k 1 s5 0 Z Z Z Zq Z Z Z Z b4 Q1X Q3D (v:=.slice y5.1 y5.2.1 y5.2.2) Z Z (fun _=>(xP hok 25 Z (Q8E hok 26 (p:=y5.1) (m:=y5.2.1) (cp:=y5.2.2) 2 s5 s6 Z Z Z Zq Z Z Z b1 bZ Z Z Z (by omega) (by rw [bE,Q3n]) QB Qe (fun cF bH=>(Q9O hok 27 2 s5 s6 Z Z Z Zq Z Z Z b1 (hdr_eq bZ bH) Z (cs:=Q3e s5 s6) (by rw [bE]; exact Q87 (by omega)) Qe QS Z (v:=.agg #[.int .i64 (Q43 ((s5:Nat):Int) ((s6:Nat):Int)),V1]) Z (xP hok 28 Z (xP hok 29 Z (xS hok 30 Z (wC [] [0,1,2] Z fn_49 Z (Q6r ((s5:Nat):Int) ((s6:Nat):Int)) (asK [] Z) Z (H':=V3 ..) Z ?_))))))))))))
 rintro _ _ _ ⟨rfl,rfl,rfl⟩
 refine Q3 (Qy [] [2,1,1,2,0] Z Z (xS hok 31 Z (wC [] [0,1,2] Z fn_13 Z (Q54 2 (Q43 ((s5:Nat):Int) ((s6:Nat):Int)) (Q43 ((s5:Nat):Int) ((s6:Nat):Int)) _ (Q8x _)) (asK [] Z) Z (H':=V3 ..) Z ?_)))
 rintro _ _ _ ⟨rfl,rfl,rfl⟩
 refine Q3 (Qy [] [1,1,2,0] Z Z (xP hok 32 Z (xP hok 33 Z (xP hok 34 Z (QL hok Z (Q4 (Q5 [122,85,10,76,9,46,6,5,19,3,2,0] (S':=V12 ..) Z (Q4q Z (Qs (Qj (Q4 (Q2 (wP Z ?_)))))))))))))
 refine wP Z (Qz (d:=87) (v':=.int .i64 ((s6 + 1:Nat):Int)) (S':=V13 ..) Z Z (Q1i (a:=s6) (b:=1) (by omega)) (QI (S':=V13 ..) Z Z Z Z Z (Q3 ?_)))
 refine Q4f (s6 + 1) (by omega) (by omega) [10,76,9,46,6,5,19,3,2,0] Z (asK [] Z) Z
 replace aD:=of_decide_eq_false aD
 refine xO hok 21 Z (xO hok 22 Z (xO hok 23 Z (xO hok 24 Z (xO hok 25 Z (xO hok 26 Z (xO hok 27 Z (xO hok 28 Z (xO hok 29 Z (xS hok 30 Z (wO Z (Q3 (Qy [] [1,2,0] Z Z (xS hok 31 Z ?_)))))))))))))
 refine wO Z (Q3 (Qy [] [1,2,0] Z Z (xO hok 32 Z (xP hok 33 Z (xP hok 34 Z (QL hok Z (Q4 (Q5 [122,85,10,76,9,46,6,5,19,3,2,0] (S':=V12 ..) Z (Q4q Z (Qs (Qj (Q4 (Q2 ?_)))))))))))))
 refine wP Z (wP Z (Qz (d:=87) (v':=.int .i64 ((s6 + 1:Nat):Int)) (S':=V13 ..) Z Z (Q1i (a:=s6) (b:=1) (by omega)) (QI (S':=V13 ..) Z Z Z Z Z (Q3 ?_))))
 refine Q4f (s6 + 1) (by omega) (by omega) [10,76,9,46,6,5,19,3,2,0] Z (asK [] Z) Z
 replace b2:=of_decide_eq_false b2
 refine Q19 (Qc (Qc (Qt (Qj (Q4 (Q2 (wP Z (wP Z (Qz (d:=78) (v':=.int .i64 ((s5 + 1:Nat):Int)) (S':=V12 ..) Z Z (Q1i (a:=s5) (b:=1) (by omega)) (QI (S':=V12 ..) Z Z Z Z Z (Q3 ?_)))))))))))
 refine Q4f (s5 + 1) (by omega) (by omega) [9,46,6,5,19,3,2,0] Z (asK [] Z) Z
 replace aZ:=of_decide_eq_false aZ
 refine Q19 (Qc (Qc (Qt (Q4 (Q6 (Q6 (Q2 (wP Z (Q3 (Q4 (Qm (Q1f (σ:=List Hdr × List Q75 × Nat) (fun s=>s.2.2 ≤ hs.length ∧ FlD hs Q3e s.1 s.2.2 s.2.1) (fun s=>hs.length - s.2.2) (fun s=>[(11,.int .i64 ((s.2.2:Nat):Int)),(76,.bool (decide (((s5:Nat):Int) < ((hs.length:Nat):Int)))),(9,.int .i64 ((s5:Nat):Int)),(46,.bool (decide (((s3.2.2:Nat):Int) < ((hs.length:Nat):Int)))),(6,.int .i64 ((s3.2.2:Nat):Int)),(5,.slice (some ⟨a5,0,none⟩) hs.length hs.length),(19,.bool (decide (((s1.2:Nat):Int) < ((hs.length:Nat):Int)))),(3,.int .i64 ((s1.2:Nat):Int)),(2,.bool false),(0,.slice p hs.length c)]) (fun s=>[]) (fun s=>[.own 40 1 Q3W (.slice (some ⟨a5,0,none⟩) hs.length hs.length) s.1,.own 40 1 Q3W (.slice p hs.length c) hs,Q1v 45 2 s.2.1]) (s3.1,s3.2.1,0) ⟨Nat.zero_le _,a7.2.again⟩ [11,76,9,46,6,5,19,3,2,0] Z (asK [] Z) Z (fun s7 a8=>(Q6 ?_))))))))))))))
 refine Q6 (Q2 (wP Z (wP Z (wN Z Q6y (wP Z (Q3 (Q4 (Q5 [126,11,76,9,46,6,5,19,3,2,0] (S':=V11 ..) Z ?_))))))))
 refine QA Z (fun aE=>?_) (fun aE=>?_)
 replace aE:=of_decide_eq_true aE
 have b6:s7.2.2 < hs.length:=by omega
 obtain ⟨y7,b7⟩ : ∃ y,hs[s7.2.2]? = some y:=⟨_,List.getElem?_eq_getElem b6⟩
 have hB7:y7.2.1 ≤ 1073741824:=hb _ (List.mem_of_getElem? b7)
 obtain ⟨r7,bI,c9,c2⟩:=a8.2.at_ b7
 refine Qs (Q4 (Q6 (Qm (Q6 (Q2 (Q7R (m:=64) celR (none:Cel) Z Z Z Zq Z Z Z Z Z QB Q7P Z Z (fun _ _=>cel_any Z) (by omega) (by omega) (fun bB=>(wP Z (Q3 (Q4 (Q5 [12,126,11,76,9,46,6,5,19,3,2,0] (S':=V12 ..) Z (Q6 (Q6 (Q2 ?_))))))))))))))
 refine wP Z (Q3 (Q4 (Qm (Q1f (σ:=List Cel × Nat) (fun s=>s.2 ≤ 64 ∧ s.1.length = 64) (fun s=>64 - s.2) (fun s=>[(13,.int .i64 ((s.2:Nat):Int)),(12,.slice (some ⟨bB,0,none⟩) 64 64),(126,.bool (decide (((s7.2.2:Nat):Int) < ((hs.length:Nat):Int)))),(11,.int .i64 ((s7.2.2:Nat):Int)),(76,.bool (decide (((s5:Nat):Int) < ((hs.length:Nat):Int)))),(9,.int .i64 ((s5:Nat):Int)),(46,.bool (decide (((s3.2.2:Nat):Int) < ((hs.length:Nat):Int)))),(6,.int .i64 ((s3.2.2:Nat):Int)),(5,.slice (some ⟨a5,0,none⟩) hs.length hs.length),(19,.bool (decide (((s1.2:Nat):Int) < ((hs.length:Nat):Int)))),(3,.int .i64 ((s1.2:Nat):Int)),(2,.bool false),(0,.slice p hs.length c)]) (fun s=>[]) (fun s=>[.own 45 2 celR (.slice (some ⟨bB,0,none⟩) 64 64) s.1,.own 40 1 Q3W (.slice (some ⟨a5,0,none⟩) hs.length hs.length) s7.1,.own 40 1 Q3W (.slice p hs.length c) hs,Q1v 45 2 s7.2.1]) (List.replicate 64 (none:Cel),0) ⟨Nat.zero_le _,by simp⟩ [13,12,126,11,76,9,46,6,5,19,3,2,0] Z (asK [] Z) Z (fun s8 aM=>(Q6 (Q6 (Q2 (wP Z (wP Z (Q3 (Q4 (Q5 [131,13,12,126,11,76,9,46,6,5,19,3,2,0] (S':=V14 ..) Z ?_)))))))))))))
 refine QA Z (fun aF=>?_) (fun aF=>?_)
 replace aF:=of_decide_eq_true aF
 refine Qs (Q4 (Q6 (Qm (Q2 (wP Z (wP Z (wP Z (wP Z (wN Z Q6y (wP Z (Qz (d:=139) (v':=.int .i64 ((s7.2.2 + hs.length:Nat):Int)) (S':=V19 ..) Z Z (Q1i (a:=s7.2.2) (b:=hs.length) (by omega)) (wP Z (wC [] [0,1,2,3] Z fn_49 Z (Q6r ((s7.2.2 + hs.length:Nat):Int) ((s8.2:Nat):Int)) (asK [] Z) Z (H':=V4 ..) Z ?_)))))))))))))
 rintro _ _ _ ⟨rfl,rfl,rfl⟩
 refine Q6C 0 s8.2 Z Z Z Zq Z Z Z Z Z (by rw [aM.2]; omega) QB Qe (QU (u:=some ([.int .i64 (Q43 ((s7.2.2 + hs.length:Nat):Int) ((s8.2:Nat):Int)),V1] : List Value)) 0 s8.2 Z Z Z Z Z (by rw [aM.2]; omega) Z Z Qe Z (fun _ _ _=>cel_some Z) (H':=V4 ..) Z (Q3 (Qj (Q4 (Q2 (wP Z (wP Z (Qz (d:=133) (v':=.int .i64 ((s8.2 + 1:Nat):Int)) (S':=V24 ..) Z Z (Q1i (a:=s8.2) (b:=1) (by omega)) (QI (S':=V24 ..) Z Z Z Z Z (Q3 ?_))))))))))
 refine Q4f (s8.1.set s8.2 (some ([.int .i64 (Q43 ((s7.2.2 + hs.length:Nat):Int) ((s8.2:Nat):Int)),V1] : List Value)),s8.2 + 1) (by show 64 - (s8.2 + 1) < _; omega) ⟨by show s8.2 + 1 ≤ 64; omega,by show (List.set _ _ _).length = 64; rw [List.length_set]; exact aM.2⟩ [13,12,126,11,76,9,46,6,5,19,3,2,0] Z (asK [] Z) Z
 replace aF:=of_decide_eq_false aF
 refine Q19 (Qc (Qc (Qt (Q4 (Q2 (wP Z (wP Z (wP Z (wP Z (Q2E 2 s7.2.2 Z Z Z Zq Z Z Z Z Z b6 Q6y Q1X (fun cG bJ=>?_)))))))))))
 subst bJ
 refine Qk Q3k 2 s7.2.2 0 Z Z Z Zq Z Z Z b7 Q1X Q3D (v:=fun _=>.slice y7.1 y7.2.1 y7.2.2) (fun _=>Z) (fun _=>Z) (fun _ _=>(wP Z (Q2x [_,_,_,Q1v 45 2 (s7.2.1.set s7.2.2 ⟨r7.h,r7.l,r7.h,r7.l⟩)] (fun _ h=>h.flReset 3 s7.2.2 Z bI) (wl_flAppO 3 s7.2.2 0 Z Z Z Zq Z Z (set_eqT _ bI) (by show _ = some (hdv r7.h); rw [c9]; rfl) Z Z aM.2 (by decide) QB Q7P Z Z (by show r7.l.length + _ ≤ _; rw [c2,Q3n]; omega) (by show (r7.l.length + _) * _ ≤ _; rw [c2,Q3n]; omega) (H2:=fun a9=>[_,_,_,Q1v 45 2 ((s7.2.1.set s7.2.2 ⟨r7.h,r7.l,r7.h,r7.l⟩).set s7.2.2 ⟨r7.h,r7.l,a9,r7.l ++ s8.1⟩)]) (fun _=>Z) (fun a9=>(Q3E 0 Z (H':=V3 ..) Z (Q6C 0 s7.2.2 Z Z Z Zq Z Z Z Z Z (by rw [a8.2.2.1]; exact b6) Q6y Q1X (QU (u:=a9) 0 s7.2.2 Z Z Z Z Z (by rw [a8.2.2.1]; exact b6) Z Z Q1X Z (fun _ _ _=>Z) (H':=V3 ..) Z (Q3 (Qj (Q4 (Q2 (wP Z (wP Z (Qz (d:=128) (v':=.int .i64 ((s7.2.2 + 1:Nat):Int)) (S':=V24 ..) Z Z (Q1i (a:=s7.2.2) (b:=1) (by omega)) ?_)))))))))))))))
 refine QI (S':=V24 ..) Z Z Z Z Z (Q3 ?_)
 refine Q4f (s7.1.set s7.2.2 a9,(s7.2.1.set s7.2.2 ⟨r7.h,r7.l,r7.h,r7.l⟩).set s7.2.2 ⟨r7.h,r7.l,a9,r7.l ++ s8.1⟩,s7.2.2 + 1) (by show hs.length - (s7.2.2 + 1) < _; omega) ⟨by show s7.2.2 + 1 ≤ _; omega,a8.2.app b7 bI _ _⟩ [11,76,9,46,6,5,19,3,2,0] Z (asK [] Z) Z
 replace aE:=of_decide_eq_false aE
 refine Q19 (Qc (Qc (Qt (Q4 (Q6 (Q6 (Q2 (wP Z (Q3 (Q4 (Qm (Q1f (σ:=Nat) (fun s=>s ≤ hs.length) (fun s=>hs.length - s) (fun s=>[(14,.int .i64 ((s:Nat):Int)),(126,.bool (decide (((s7.2.2:Nat):Int) < ((hs.length:Nat):Int)))),(11,.int .i64 ((s7.2.2:Nat):Int)),(76,.bool (decide (((s5:Nat):Int) < ((hs.length:Nat):Int)))),(9,.int .i64 ((s5:Nat):Int)),(46,.bool (decide (((s3.2.2:Nat):Int) < ((hs.length:Nat):Int)))),(6,.int .i64 ((s3.2.2:Nat):Int)),(5,.slice (some ⟨a5,0,none⟩) hs.length hs.length),(19,.bool (decide (((s1.2:Nat):Int) < ((hs.length:Nat):Int)))),(3,.int .i64 ((s1.2:Nat):Int)),(2,.bool false),(0,.slice p hs.length c)]) (fun s=>[]) (fun s=>[.own 40 1 Q3W (.slice (some ⟨a5,0,none⟩) hs.length hs.length) s7.1,.own 40 1 Q3W (.slice p hs.length c) hs,Q1v 45 2 s7.2.1]) 0 (Nat.zero_le _) [14,126,11,76,9,46,6,5,19,3,2,0] Z (asK [] Z) Z (fun s9 cH=>(Q6 ?_))))))))))))))
 refine Q6 (Q2 (wP Z (wP Z (wN Z Q6y (wP Z (Q3 (Q4 (Q5 [155,14,126,11,76,9,46,6,5,19,3,2,0] (S':=V13 ..) Z ?_))))))))
 refine QA Z (fun aG=>?_) (fun aG=>?_)
 replace aG:=of_decide_eq_true aG
 have b8:s9 < hs.length:=by omega
 obtain ⟨y9,b9⟩ : ∃ y,hs[s9]? = some y:=⟨_,List.getElem?_eq_getElem b8⟩
 have hB9:y9.2.1 ≤ 1073741824:=hb _ (List.mem_of_getElem? b9)
 obtain ⟨r9,b3,c3,bK,cA,t9,c4⟩:=a8.2.look (by omega) b9
 refine wc_flLen 2 Z b3 (fun hA9 hC9=>?_)
 rw [bK,Q3n] at hA9
 have hE9:=hC9
 rw [c4,List.length_append,Q3n] at hE9
 refine Qs (Q4 (Q6 (Qm (Q6 (Q2 (wP Z (Q3 (Q4 (Qm (Q1f (σ:=Nat) (fun s=>s ≤ y9.2.1) (fun s=>y9.2.1 - s) (fun s=>[(15,.int .i64 ((s:Nat):Int)),(155,.bool (decide (((s9:Nat):Int) < ((hs.length:Nat):Int)))),(14,.int .i64 ((s9:Nat):Int)),(126,.bool (decide (((s7.2.2:Nat):Int) < ((hs.length:Nat):Int)))),(11,.int .i64 ((s7.2.2:Nat):Int)),(76,.bool (decide (((s5:Nat):Int) < ((hs.length:Nat):Int)))),(9,.int .i64 ((s5:Nat):Int)),(46,.bool (decide (((s3.2.2:Nat):Int) < ((hs.length:Nat):Int)))),(6,.int .i64 ((s3.2.2:Nat):Int)),(5,.slice (some ⟨a5,0,none⟩) hs.length hs.length),(19,.bool (decide (((s1.2:Nat):Int) < ((hs.length:Nat):Int)))),(3,.int .i64 ((s1.2:Nat):Int)),(2,.bool false),(0,.slice p hs.length c)]) (fun s=>[]) (fun s=>[.own 40 1 Q3W (.slice (some ⟨a5,0,none⟩) hs.length hs.length) s7.1,.own 40 1 Q3W (.slice p hs.length c) hs,Q1v 45 2 s7.2.1]) 0 (Nat.zero_le _) [15,155,14,126,11,76,9,46,6,5,19,3,2,0] Z (asK [] Z) Z (fun a4 cB=>(Q6 (Q6 (Q2 ?_))))))))))))))
 refine wP Z (wP Z (wP Z (Q2E 1 s9 Z Z Z Zq Z Z Z Z Z b8 Q6y Q1X (fun cI bL=>?_))))
 subst bL
 refine Qk Q3k 1 s9 0 Z Z Z Zq Z Z Z b9 Q1X Q3D (v:=fun _=>.slice y9.1 y9.2.1 y9.2.2) (fun _=>Z) (fun _=>Z) (fun _ _=>(wN Z QB (wP Z (Q3 (Q4 (Q5 [164,15,155,14,126,11,76,9,46,6,5,19,3,2,0] (S':=V15 ..) Z ?_))))))
 refine QA Z (fun aH=>?_) (fun aH=>?_)
 replace aH:=of_decide_eq_true aH
 refine Qs (Q4 (Q6 (Qm (Q6 (QV [0,1,2,3,4,5,6,7,8,11,12,13,14,15,16,17,18,19,20,21,24,25] Z Z (fun hok=>(xP hok 0 Z (xP hok 1 Z (QJ hok 2 1 s9 Z Z Z Zq Z Z Z Z Z Z b8 Q6y Q1X (Q3j hok 3 Q3k 1 s9 0 Z Z Z Zq Z Z Z Z b9 Q1X Q3D (v:=.slice y9.1 y9.2.1 y9.2.2) Z Z (fun _=>(xP hok 4 Z (Q8E hok 5 (p:=y9.1) (m:=y9.2.1) (cp:=y9.2.2) 2 s9 a4 Z Z Z Zq Z Z Z b3 c3 Z Z Z (by omega) (by rw [bK,Q3n]) QB Qe (fun cJ bM=>(Q9O hok 6 2 s9 a4 Z Z Z Zq Z Z Z b3 (hdr_eq c3 bM) Z (cs:=Q3e s9 a4) (by rw [bK]; exact Q87 (by omega)) Qe QS Z (v:=.agg #[.int .i64 (Q43 ((s9:Nat):Int) ((a4:Nat):Int)),V1]) Z (xP hok 7 Z ?_))))))))))))))))
 refine xP hok 8 Z (xS hok 9 Z (wC [] [0,1,2] Z fn_49 Z (Q6r ((s9:Nat):Int) ((a4:Nat):Int)) (asK [] Z) Z (H':=V3 ..) Z ?_))
 rintro _ _ _ ⟨rfl,rfl,rfl⟩
 refine Q3 (Qy [] [2,1] Z Z (xS hok 10 Z (wC [] [0,1,2] Z fn_13 Z (Q54 2 (Q43 ((s9:Nat):Int) ((a4:Nat):Int)) (Q43 ((s9:Nat):Int) ((a4:Nat):Int)) _ (Q8x _)) (asK [] Z) Z (H':=V3 ..) Z ?_)))
 rintro _ _ _ ⟨rfl,rfl,rfl⟩
 refine Q3 (Qy [] [1] Z Z (xP hok 11 Z (xP hok 12 Z (xP hok 13 Z (xP hok 14 Z (QJ hok 15 0 s9 Z Z Z Zq Z Z Z Z Z Z (by rw [a8.2.2.1]; exact b8) Q6y Q1X (Q3j hok 16 Q3k 0 s9 0 Z Z Z Zq Z Z Z Z cA Q1X Q3D (v:=.slice r9.g.1 r9.g.2.1 r9.g.2.2) Z Z (fun _=>(xP hok 17 Z (Qad hok 18 (p:=r9.g.1) (m:=r9.g.2.1) (cp:=r9.g.2.2) 2 s9 a4 Z Z Z Zq Z Z Z b3 Z Z Z Z (by omega) hC9.symm QB Qe (fun cK bN=>(Q9N hok 19 2 s9 a4 Z Z Z Zq Z Z Z b3 (hdr_eqG bN) Z (cs:=Q3e s9 a4) (by rw [c4]; exact app_at (by omega)) Qe QS Z (v:=.agg #[.int .i64 (Q43 ((s9:Nat):Int) ((a4:Nat):Int)),V1]) Z (xP hok 20 Z (xP hok 21 Z (xS hok 22 Z ?_)))))))))))))))
 refine wC [] [0,1,2] Z fn_49 Z (Q6r ((s9:Nat):Int) ((a4:Nat):Int)) (asK [] Z) Z (H':=V3 ..) Z ?_
 rintro _ _ _ ⟨rfl,rfl,rfl⟩
 refine Q3 (Qy [] [2,0,2,1] Z Z (xS hok 23 Z (wC [] [0,1,2] Z fn_13 Z (Q54 2 (Q43 ((s9:Nat):Int) ((a4:Nat):Int)) (Q43 ((s9:Nat):Int) ((a4:Nat):Int)) _ (Q8x _)) (asK [] Z) Z (H':=V3 ..) Z ?_)))
 rintro _ _ _ ⟨rfl,rfl,rfl⟩
 refine Q3 (Qy [] [0,2,1] Z Z (xP hok 24 Z (xP hok 25 Z (QL hok Z (Q4 (Q5 [192,164,15,155,14,126,11,76,9,46,6,5,19,3,2,0] (S':=V16 ..) Z (Q4q Z (Qs (Qj (Q4 (Q2 (wP Z (wP Z ?_)))))))))))))
 refine Qz (d:=166) (v':=.int .i64 ((a4 + 1:Nat):Int)) (S':=V17 ..) Z Z (Q1i (a:=a4) (b:=1) (by omega)) (QI (S':=V17 ..) Z Z Z Z Z (Q3 ?_))
 refine Q4f (a4 + 1) (by omega) (by omega) [15,155,14,126,11,76,9,46,6,5,19,3,2,0] Z (asK [] Z) Z
 replace aH:=of_decide_eq_false aH
 refine Q19 (Qc (Qc (Qt (Qj (Q4 (Q2 (wP Z (wP Z (Qz (d:=157) (v':=.int .i64 ((s9 + 1:Nat):Int)) (S':=V16 ..) Z Z (Q1i (a:=s9) (b:=1) (by omega)) (QI (S':=V16 ..) Z Z Z Z Z (Q3 ?_)))))))))))
 refine Q4f (s9 + 1) (by omega) (by omega) [14,126,11,76,9,46,6,5,19,3,2,0] Z (asK [] Z) Z
 replace aG:=of_decide_eq_false aG
 refine Q19 (Qc (Qc (Qt (Q4 (Q6 (Q2 (QI (S':=V12 ..) Z Z Z Z Z (Q3 (Q4 (QP (QH (Hr:=[Q1v 45 2 s7.2.1]) [2] Tryz.results74 (QD Z) ?_ (asK [] Z) Z Z (.inl Z))))))))))))
 exact ⟨_,a8.2.left,Z,Z,Z⟩
theorem ap_apart (g:Nat) (p2:OA) (c2:Nat) (h2:List Hdr) (a3:OA) (a4:Nat) (a0:List Hdr) (hL2:h2.length ≤ 1073741824) (hB2:Bd h2) (hL17:a0.length ≤ 1073741824) (hB17:Bd a0):Q1R Tryz.prog 37 [.pointer (some ⟨g,0,none⟩)] [] [.blk g [V1,V1,.slice p2 h2.length c2,V1,V1,V1,V1,V1,V1,V1,V1,V1,V1,V1,V1,V1,V1,.slice a3 a0.length a4,V1,V1,V1,V1,V1,V1,V1,V1,V1,V1,V1] 106,.own 22 1 Q3W (.slice p2 h2.length c2) h2,Q1v 3 1 (h2.map Q5P),.own 40 1 Q3W (.slice a3 a0.length a4) a0,Q1v 45 2 (a0.map Q5P)] (fun v Φr Hr=>∃ (r2:List Q75) (a1:List Q75),FlE h2 Q6i r2 ∧ FlE a0 Q3e a1 ∧ v = .bool true ∧ Φr = [] ∧ Hr = [Q1v 3 1 r2,Q1v 45 2 a1]):=by
 refine QZ Tryz.func37 Z Tryz.ntmps37 Z (S:=[_]) Z (fun C=>(Q6 (Q2 (wP Z (Q3 (Q4 (Q6 (Q2 (wP Z (wP Z (wF Z tF_106_0 (wD 0 0 Z tS_78 tA_78 Z (wC [] [0,1,2,3,4] Z fn_57 Z (Q3y Tryz.func57 Z Tryz.ntmps57 Tryz.results57 Z (by kernel_rfl)) (asK [] Z) Z (H':=V5 ..) Z ?_)))))))))))))
 rintro _ _ _ ⟨rfl,rfl,rfl⟩
 refine wP Z (wP Z (wP Z (wF Z tF_106_1 (wD 0 1 Z tS_79 tA_79 Z (wC [] [0,1,2,3,4] Z fn_58 Z (Q3y Tryz.func58 Z Tryz.ntmps58 Tryz.results58 Z (by kernel_rfl)) (asK [] Z) Z (H':=V5 ..) Z ?_)))))
 rintro _ _ _ ⟨rfl,rfl,rfl⟩
 refine wP Z (wP Z (wP Z (wP Z (wF Z tF_106_2 (wD 0 2 Z tS_54 tA_54 Z (wC [1,2] [0,3,4] Z fn_59 Z (fl_flatInts p2 c2 h2 hL2 hB2) (asK [] Z) Z (H':=V3 ..) Z ?_))))))
 rintro _ _ _ ⟨r2,hE2,rfl,rfl,rfl⟩
 refine wP Z (wP Z (wP Z (wP Z (wF Z tF_106_3 (wD 1 3 Z tS_80 tA_80 Z (wC [] [0,1,2,3] Z fn_60 Z (Q3y Tryz.func60 Z Tryz.ntmps60 Tryz.results60 Z (by kernel_rfl)) (asK [] Z) Z (H':=V4 ..) Z ?_))))))
 rintro _ _ _ ⟨rfl,rfl,rfl⟩
 refine wP Z (wP Z (wP Z (wP Z (wF Z tF_106_4 (wD 1 4 Z tS_81 tA_81 Z (wC [] [0,1,2,3] Z fn_61 Z (Q3y Tryz.func61 Z Tryz.ntmps61 Tryz.results61 Z (by kernel_rfl)) (asK [] Z) Z (H':=V4 ..) Z ?_))))))
 rintro _ _ _ ⟨rfl,rfl,rfl⟩
 refine wP Z (wP Z (wP Z (wP Z (wF Z tF_106_5 (wD 1 5 Z tS_82 tA_82 Z (wC [] [0,1,2,3] Z fn_62 Z (Q3y Tryz.func62 Z Tryz.ntmps62 Tryz.results62 Z (by kernel_rfl)) (asK [] Z) Z (H':=V4 ..) Z ?_))))))
 rintro _ _ _ ⟨rfl,rfl,rfl⟩
 refine wP Z (wP Z (wP Z (wP Z (wF Z tF_106_6 (wD 1 6 Z tS_83 tA_83 Z (wC [] [0,1,2,3] Z fn_63 Z (Q3y Tryz.func63 Z Tryz.ntmps63 Tryz.results63 Z (by kernel_rfl)) (asK [] Z) Z (H':=V4 ..) Z ?_))))))
 rintro _ _ _ ⟨rfl,rfl,rfl⟩
 refine wP Z (wP Z (wP Z (wP Z (wF Z tF_106_7 (wD 1 7 Z tS_84 tA_84 Z (wC [] [0,1,2,3] Z fn_64 Z (Q3y Tryz.func64 Z Tryz.ntmps64 Tryz.results64 Z (by kernel_rfl)) (asK [] Z) Z (H':=V4 ..) Z ?_))))))
 rintro _ _ _ ⟨rfl,rfl,rfl⟩
 refine wP Z (wP Z (wP Z (wP Z (wF Z tF_106_8 (wD 1 8 Z tS_85 tA_85 Z (wC [] [0,1,2,3] Z fn_65 Z (Q3y Tryz.func65 Z Tryz.ntmps65 Tryz.results65 Z (by kernel_rfl)) (asK [] Z) Z (H':=V4 ..) Z ?_))))))
 rintro _ _ _ ⟨rfl,rfl,rfl⟩
 refine wP Z (wP Z (wP Z (wP Z (wF Z tF_106_9 (wD 1 9 Z tS_86 tA_86 Z (wC [] [0,1,2,3] Z fn_66 Z (Q3y Tryz.func66 Z Tryz.ntmps66 Tryz.results66 Z (by kernel_rfl)) (asK [] Z) Z (H':=V4 ..) Z ?_))))))
 rintro _ _ _ ⟨rfl,rfl,rfl⟩
 refine wP Z (wP Z (wP Z (wP Z (wF Z tF_106_10 (wD 1 10 Z tS_87 tA_87 Z (wC [] [0,1,2,3] Z fn_67 Z (Q3y Tryz.func67 Z Tryz.ntmps67 Tryz.results67 Z (by kernel_rfl)) (asK [] Z) Z (H':=V4 ..) Z ?_))))))
 rintro _ _ _ ⟨rfl,rfl,rfl⟩
 refine wP Z (wP Z (wP Z (wP Z (wF Z tF_106_11 (wD 1 11 Z tS_88 tA_88 Z (wC [] [0,1,2,3] Z fn_68 Z (Q3y Tryz.func68 Z Tryz.ntmps68 Tryz.results68 Z (by kernel_rfl)) (asK [] Z) Z (H':=V4 ..) Z ?_))))))
 rintro _ _ _ ⟨rfl,rfl,rfl⟩
 refine wP Z (wP Z (wP Z (wP Z (wF Z tF_106_12 (wD 1 12 Z tS_89 tA_89 Z (wC [] [0,1,2,3] Z fn_69 Z (Q3y Tryz.func69 Z Tryz.ntmps69 Tryz.results69 Z (by kernel_rfl)) (asK [] Z) Z (H':=V4 ..) Z ?_))))))
 rintro _ _ _ ⟨rfl,rfl,rfl⟩
 refine wP Z (wP Z (wP Z (wP Z (wF Z tF_106_13 (wD 1 13 Z tS_90 tA_90 Z (wC [] [0,1,2,3] Z fn_70 Z (Q3y Tryz.func70 Z Tryz.ntmps70 Tryz.results70 Z (by kernel_rfl)) (asK [] Z) Z (H':=V4 ..) Z ?_))))))
 rintro _ _ _ ⟨rfl,rfl,rfl⟩
 refine wP Z (wP Z (wP Z (wP Z (wF Z tF_106_14 (wD 1 14 Z tS_91 tA_91 Z (wC [] [0,1,2,3] Z fn_71 Z (Q3y Tryz.func71 Z Tryz.ntmps71 Tryz.results71 Z (by kernel_rfl)) (asK [] Z) Z (H':=V4 ..) Z ?_))))))
 rintro _ _ _ ⟨rfl,rfl,rfl⟩
 refine wP Z (wP Z (wP Z (wP Z (wF Z tF_106_15 (wD 1 15 Z tS_92 tA_92 Z (wC [] [0,1,2,3] Z fn_72 Z (Q3y Tryz.func72 Z Tryz.ntmps72 Tryz.results72 Z (by kernel_rfl)) (asK [] Z) Z (H':=V4 ..) Z ?_))))))
 rintro _ _ _ ⟨rfl,rfl,rfl⟩
 refine wP Z (wP Z (wP Z (wP Z (wF Z tF_106_16 (wD 1 16 Z tS_93 tA_93 Z (wC [] [0,1,2,3] Z fn_73 Z (Q3y Tryz.func73 Z Tryz.ntmps73 Tryz.results73 Z (by kernel_rfl)) (asK [] Z) Z (H':=V4 ..) Z ?_))))))
 rintro _ _ _ ⟨rfl,rfl,rfl⟩
 refine wP Z (wP Z (wP Z (wP Z (wF Z tF_106_17 (wD 1 17 Z tS_52 tA_52 Z (wC [2,3] [0,1] Z fn_74 Z (fl_flatTokens a3 a4 a0 hL17 hB17) (asK [] Z) Z (H':=[_,_]) Z ?_))))))
 rintro _ _ _ ⟨a1,hE17,rfl,rfl,rfl⟩
 refine wP Z (wP Z (wP Z (wP Z (wF Z tF_106_18 (wD 2 18 Z tS_94 tA_94 Z (wC [] [0,1,2] Z fn_75 Z (Q3y Tryz.func75 Z Tryz.ntmps75 Tryz.results75 Z (by kernel_rfl)) (asK [] Z) Z (H':=V3 ..) Z ?_))))))
 rintro _ _ _ ⟨rfl,rfl,rfl⟩
 refine wP Z (wP Z (wP Z (wP Z (wF Z tF_106_19 (wD 2 19 Z tS_95 tA_95 Z (wC [] [0,1,2] Z fn_76 Z (Q3y Tryz.func76 Z Tryz.ntmps76 Tryz.results76 Z (by kernel_rfl)) (asK [] Z) Z (H':=V3 ..) Z ?_))))))
 rintro _ _ _ ⟨rfl,rfl,rfl⟩
 refine wP Z (wP Z (wP Z (wP Z (wF Z tF_106_20 (wD 2 20 Z tS_96 tA_96 Z (wC [] [0,1,2] Z fn_77 Z (Q3y Tryz.func77 Z Tryz.ntmps77 Tryz.results77 Z (by kernel_rfl)) (asK [] Z) Z (H':=V3 ..) Z ?_))))))
 rintro _ _ _ ⟨rfl,rfl,rfl⟩
 refine wP Z (wP Z (wP Z (wP Z (wF Z tF_106_21 (wD 2 21 Z tS_97 tA_97 Z (wC [] [0,1,2] Z fn_78 Z (Q3y Tryz.func78 Z Tryz.ntmps78 Tryz.results78 Z (by kernel_rfl)) (asK [] Z) Z (H':=V3 ..) Z ?_))))))
 rintro _ _ _ ⟨rfl,rfl,rfl⟩
 refine wP Z (wP Z (wP Z (wP Z (wF Z tF_106_22 (wD 2 22 Z tS_98 tA_98 Z (wC [] [0,1,2] Z fn_79 Z (Q3y Tryz.func79 Z Tryz.ntmps79 Tryz.results79 Z (by kernel_rfl)) (asK [] Z) Z (H':=V3 ..) Z ?_))))))
 rintro _ _ _ ⟨rfl,rfl,rfl⟩
 refine wP Z (wP Z (wP Z (wP Z (wF Z tF_106_23 (wD 2 23 Z tS_99 tA_99 Z (wC [] [0,1,2] Z fn_80 Z (Q3y Tryz.func80 Z Tryz.ntmps80 Tryz.results80 Z (by kernel_rfl)) (asK [] Z) Z (H':=V3 ..) Z ?_))))))
 rintro _ _ _ ⟨rfl,rfl,rfl⟩
 refine wP Z (wP Z (wP Z (wP Z (wF Z tF_106_24 (wD 2 24 Z tS_100 tA_100 Z (wC [] [0,1,2] Z fn_81 Z (Q3y Tryz.func81 Z Tryz.ntmps81 Tryz.results81 Z (by kernel_rfl)) (asK [] Z) Z (H':=V3 ..) Z ?_))))))
 rintro _ _ _ ⟨rfl,rfl,rfl⟩
 refine wP Z (wP Z (wP Z (wP Z (wF Z tF_106_25 (wD 2 25 Z tS_101 tA_101 Z (wC [] [0,1,2] Z fn_82 Z (Q3y Tryz.func82 Z Tryz.ntmps82 Tryz.results82 Z (by kernel_rfl)) (asK [] Z) Z (H':=V3 ..) Z ?_))))))
 rintro _ _ _ ⟨rfl,rfl,rfl⟩
 refine wP Z (wP Z (wP Z (wP Z (wF Z tF_106_26 (wD 2 26 Z tS_102 tA_102 Z (wC [] [0,1,2] Z fn_83 Z (Q3y Tryz.func83 Z Tryz.ntmps83 Tryz.results83 Z (by kernel_rfl)) (asK [] Z) Z (H':=V3 ..) Z ?_))))))
 rintro _ _ _ ⟨rfl,rfl,rfl⟩
 refine wP Z (wP Z (wP Z (wP Z (wF Z tF_106_27 (wD 2 27 Z tS_103 tA_103 Z (wC [] [0,1,2] Z fn_84 Z (Q3y Tryz.func84 Z Tryz.ntmps84 Tryz.results84 Z (by kernel_rfl)) (asK [] Z) Z (H':=V3 ..) Z ?_))))))
 rintro _ _ _ ⟨rfl,rfl,rfl⟩
 refine wP Z (wP Z (wP Z (wP Z (wF Z tF_106_28 (wD 2 28 Z tS_104 tA_104 Z (wC [] [0,1,2] Z fn_85 Z (Q3y Tryz.func85 Z Tryz.ntmps85 Tryz.results85 Z (by kernel_rfl)) (asK [] Z) Z (H':=V3 ..) Z ?_))))))
 rintro _ _ _ ⟨rfl,rfl,rfl⟩
 refine wP Z (QI (S':=V202 ..) Z Z Z Z Z (Q3 (Q4 (Q5 [2,0] (S':=[_,_]) Z (QP (QH (Hr:=[Q1v 3 1 r2,Q1v 45 2 a1]) [1,0] Tryz.results37 (QD Z) ?_ (asK [] Z) Z Z (.inl Z)))))))
 exact ⟨_,_,hE2,hE17,Z,Z,Z⟩
theorem ap_ApartTokens (p:OA) (n c:Nat) (zs:List ((List Q1) × (OA × Nat))) (hzn:n = zs.length) (aQ:zs.length ≤ 8) (hx : ∀ z ∈ zs,z.1.length ≤ 10000 ∧ ∀ y ∈ z.1,Q6V y):Q1R Tryz.prog 17 [.slice p n c] [] [.own 40 1 Q1H.pair (.slice p n c) zs,Q2j Q1H (zs.drop 0) none] (fun v Φr Hr=>∃ (r2:List Q75) (a9:List Q75),v = .bool true ∧ Φr = [] ∧ Hr = [Q1v 3 1 r2,Q1v 45 2 a9]):=by
 subst hzn
 refine QZ Tryz.func17 Z Tryz.ntmps17 Z (S:=[_]) Z (fun C=>(Q6 (Q2 (wP Z (Q3 (Q4 (Q6 (Q2 (Q7w Z Z Z Zq Z tZ_106 tP_106 Z (out:=V29 ..) Z (wB Z (fun g6=>(wP Z (Q3 (Q4 (Q5 [3,2,0] (S':=V3 ..) Z ?_)))))))))))))))
 refine Q6 (Q6 (Q2 (wP Z (Q3 (Q4 (Qm (wc_sh [Q1v 45 2 [],.blk g6 [V1,V1,V1,V1,V1,V1,V1,V1,V1,V1,V1,V1,V1,V1,V1,V1,V1,V1,V1,V1,V1,V1,V1,V1,V1,V1,V1,V1,V1] 106,.own 40 1 Q1H.pair (.slice p zs.length c) zs,Q2j Q1H (zs.drop 0) none] (fun _ h=>h.flNil 45 2) (Q52 40 1 Q3W (wc_sh [Q1v 3 1 [],.own 40 1 Q3W (V1) [],Q1v 45 2 [],.blk g6 [V1,V1,V1,V1,V1,V1,V1,V1,V1,V1,V1,V1,V1,V1,V1,V1,V1,V1,V1,V1,V1,V1,V1,V1,V1,V1,V1,V1,V1] 106,.own 40 1 Q1H.pair (.slice p zs.length c) zs,Q2j Q1H (zs.drop 0) none] (fun _ h=>h.flNil 3 1) (Q52 22 1 Q3W (Q1f (σ:=OA × Nat × List Hdr × OA × Nat × List Hdr × Nat) (fun s=>s.2.2.2.2.2.2 ≤ zs.length ∧ s.2.2.1.length ≤ s.2.2.2.2.2.2 * 10000 ∧ Bd s.2.2.1 ∧ s.2.2.2.2.2.1.length ≤ s.2.2.2.2.2.2 * 1 ∧ Bd s.2.2.2.2.2.1) (fun s=>zs.length - s.2.2.2.2.2.2) (fun s=>[(4,.int .i64 ((s.2.2.2.2.2.2:Nat):Int)),(3,.pointer (some ⟨g6,0,none⟩)),(2,.bool false),(0,.slice p zs.length c)]) (fun s=>[]) (fun s=>[.own 22 1 Q3W (.slice s.1 s.2.2.1.length s.2.1) s.2.2.1,Q1v 3 1 (s.2.2.1.map Q5P),.own 40 1 Q3W (.slice s.2.2.2.1 s.2.2.2.2.2.1.length s.2.2.2.2.1) s.2.2.2.2.2.1,Q1v 45 2 (s.2.2.2.2.2.1.map Q5P),.blk g6 [V1,V1,.slice s.1 s.2.2.1.length s.2.1,V1,V1,V1,V1,V1,V1,V1,V1,V1,V1,V1,V1,V1,V1,.slice s.2.2.2.1 s.2.2.2.2.2.1.length s.2.2.2.2.1,V1,V1,V1,V1,V1,V1,V1,V1,V1,V1,V1] 106,.own 40 1 Q1H.pair (.slice p zs.length c) zs,Q2j Q1H (zs.drop s.2.2.2.2.2.2) none]) (none,0,[],none,0,[],0) ⟨Nat.zero_le _,Nat.zero_le _,Bd.nil,Nat.zero_le _,Bd.nil⟩ [4,3,2,0] Z (asK [] Z) Z (fun s1 a7=>(Q6 (Q6 ?_))))))))))))))
 refine Q2 (wP Z (wP Z (wN Z Q6y (wP Z (Q3 (Q4 (Q5 [10,4,3,2,0] (S':=V5 ..) Z ?_)))))))
 refine QA Z (fun a1=>?_) (fun a1=>?_)
 replace a1:=of_decide_eq_true a1
 obtain ⟨aN,aO,aA,aH,a2⟩:=a7
 have aI:s1.2.2.2.2.2.2 < zs.length:=by omega
 obtain ⟨z1,aB⟩ : ∃ z,zs[s1.2.2.2.2.2.2]? = some z:=⟨_,List.getElem?_eq_getElem aI⟩
 have hxs:=hx z1 (List.mem_of_getElem? aB)
 refine Qs (Q4 (Q6 (Qm (Q2 (wP Z (wP Z (wP Z (Q2E 5 s1.2.2.2.2.2.2 Z Z Z Zq Z Z Z Z Z aI Q6y Q1X (fun aP aJ=>?_)))))))))
 subst aJ
 refine Qk Q7z 5 s1.2.2.2.2.2.2 0 Z Z Z Zq Z Z Z aB Q1X Q3D (v:=fun _=>.slice z1.2.1 z1.1.length z1.2.2) (fun _=>Z) (fun _=>Z) (fun _ _=>(Q2x [Q1l Qb 45 2 (.slice z1.2.1 z1.1.length z1.2.2) z1.1,.own 22 1 Q3W (.slice s1.1 s1.2.2.1.length s1.2.1) s1.2.2.1,Q1v 3 1 (s1.2.2.1.map Q5P),.own 40 1 Q3W (.slice s1.2.2.2.1 s1.2.2.2.2.2.1.length s1.2.2.2.2.1) s1.2.2.2.2.2.1,Q1v 45 2 (s1.2.2.2.2.2.1.map Q5P),.blk g6 [V1,V1,.slice s1.1 s1.2.2.1.length s1.2.1,V1,V1,V1,V1,V1,V1,V1,V1,V1,V1,V1,V1,V1,V1,.slice s1.2.2.2.1 s1.2.2.2.2.2.1.length s1.2.2.2.2.1,V1,V1,V1,V1,V1,V1,V1,V1,V1,V1,V1] 106,.own 40 1 Q1H.pair (.slice (some ⟨aP,0,none⟩) zs.length c) zs,Q2j Q1H (zs.drop (s1.2.2.2.2.2.2 + 1)) none] (fun _ h=>h.bagUncons 6 Z aB) (wC [5,1,2,3,4,0] [6,7] Z fn_36 Z (ap_putTokens _ s1.1 s1.2.1 s1.2.2.1 s1.2.2.2.1 s1.2.2.2.2.1 s1.2.2.2.2.2.1 z1.2.1 z1.2.2 z1.1 (by omega) aA (by omega) a2 hxs.1 hxs.2) (asK [] Z) Z (H':=[_,_]) Z ?_)))
 rintro _ _ _ ⟨aK,aL,a8,aC,aD,a4,aE,aF,a5,a6,rfl,rfl,rfl⟩
 refine Q3 (Qj (Q4 (Q2 (wP Z (wP Z (Qz (d:=12) (v':=.int .i64 ((s1.2.2.2.2.2.2 + 1:Nat):Int)) (S':=V12 ..) Z Z (Q1i (a:=s1.2.2.2.2.2.2) (b:=1) (by omega)) (QI (S':=V12 ..) Z Z Z Z Z (Q3 (Q1m [1,2,3,4,0,5,6] Z (H':=V7 ..) Z ?_)))))))))
 refine Q4f (aK,aL,a8,aC,aD,a4,s1.2.2.2.2.2.2 + 1) (by show zs.length - (s1.2.2.2.2.2.2 + 1) < zs.length - s1.2.2.2.2.2.2; omega) ⟨by show s1.2.2.2.2.2.2 + 1 ≤ _; omega,by have:=aE; show List.length (a8) ≤ (s1.2.2.2.2.2.2 + 1) * _; omega,aF,by have:=a5; show List.length (a4) ≤ (s1.2.2.2.2.2.2 + 1) * _; omega,a6⟩ [4,3,2,0] Z (asK [] Z) Z
 replace a1:=of_decide_eq_false a1
 obtain ⟨aN,aO,aA,aH,a2⟩:=a7
 refine Q19 (Qc (Qc (Qt (Q4 (Q6 (Q2 (wP Z (wC [4,0,1,2,3] [5,6] Z fn_37 Z (ap_apart _ s1.1 s1.2.1 s1.2.2.1 s1.2.2.2.1 s1.2.2.2.2.1 s1.2.2.2.2.2.1 (by omega) aA (by omega) a2) (asK [] Z) Z (H':=[_,_]) Z ?_))))))))
 rintro _ _ _ ⟨r2,a9,hE2,hE17,rfl,rfl,rfl⟩
 refine QI (S':=V6 ..) Z Z Z Z Z (Q3 (Q4 (Q5 [2,10,4,3,0] (S':=V5 ..) Z (QP (QH (Hr:=[Q1v 3 1 r2,Q1v 45 2 a9]) [0,1] Tryz.results17 (QD Z) ?_ (asK [] Z) Z Z (.inl Z))))))
 exact ⟨_,_,Z,Z,Z⟩
end Go.Proofs.YtgangmegcejllaaGreatDoor
