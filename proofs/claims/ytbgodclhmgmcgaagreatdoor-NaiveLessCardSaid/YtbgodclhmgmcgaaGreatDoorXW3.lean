import Derived.Test.YtbgodclhmgmcgaaGreatDoorXW2
namespace Go.Proofs.YtbgodclhmgmcgaaGreatDoor
open Go.RowKit
set_option maxRecDepth 100000
set_option maxHeartbeats 4000000
theorem QbU (N:Nat) (a0:Int) (a1:ByteArray) (a2:Int) (a3:Int) (qp0:OA) (qc1:Nat) (l4:List Qe) (o0:Bool) (hm:Q7x N a0 a1 a2 a3 l4 = some o0):Q17 Tryz.prog 174 [.agg #[.int .u8 a0,.string a1,.int .i64 a2,.int .i64 a3,.slice qp0 l4.length qc1]] [.sli 5 Qq qp0 qc1 l4] [] (fun v Φr Hr=>v = .bool o0 ∧ Φr = [] ∧ Hr = []):=by
 unfold Q7x at hm
 refine QC Tryz.func174 Z Tryz.ntmps174 Z (S:=[_]) Z (fun C=>(Q5 (Q1 (wB Z (fun g1=>(wP Z (Q4 (Q3 (Q2 [1] (S':=[_]) Z (Q5 (Q1 (wF Z Q3q (wD 0 0 Z Q3X Q7C Z (wP Z (wP Z ?_)))))))))))))))
 refine QG (d:=6) (S':=V4 ..) Z Z (fun hs6=>?_) (fun hs6=>?_)
 replace hm:=QI hm hs6
 refine wO Z (wO Z (wO Z (wP Z (wP Z (wO Z (wO Z (wO Z (wP Z (wP Z (Q4 (Q3 (Q2 [2] (S':=[_]) Z (Qo ?_)))))))))))))
 have hE:=(Zi hm).symm
 replace hE:=hE.symm
 subst hE
 refine Qp (Hr:=[]) [] Tryz.results174 (Qg Z) ⟨Z,Z,Z⟩ (asK [] Z) Z Z (.inl Z)
 replace hm:=QH hm hs6
 refine wF Z Q3q (wD 0 0 Z Q3X Q7C Z (wP Z (wP Z (wP Z ?_))))
 obtain ⟨hpr11,hm⟩:=Qd hm
 refine Qs (d:=11) (v':=.bool false) (S':=V9 ..) Z Z (Qy hpr11) (wF Z Q3q (wD 0 0 Z Q3X Q7C Z (wP Z (wP Z (wP Z (Q4 (Q3 (Q2 [2] (S':=[_]) Z (Qo ?_)))))))))
 have hE:=(Zi hm).symm
 replace hE:=hE.symm
 subst hE
 refine Qp (Hr:=[]) [] Tryz.results174 (Qg Z) ⟨Z,Z,Z⟩ (asK [] Z) Z Z (.inl Z)
theorem Q6H (N:Nat) (aG:Nat) (aH:OA) (s:Nat) (z:Nat) (l0:List Ql) (a0:OA) (a1:Nat) (aA:Nat) (l1:List Qi) (aB:OA) (aC:Nat) (aD:Nat) (l2:List ByteArray) (a3:Int) (a4:Int) (a5:Int) (a6:Int) (a7:ByteArray) (a8:Int) (a9:Int) (aE:OA) (aF:Nat) (aI:List Qe) (o0:Int) (hm:Q3w N l0 l1 l2 a3 a4 a5 a6 a7 a8 a9 aI = some o0):Q17 Tryz.prog 208 [.pointer (some ⟨aG,0,none⟩),.agg #[.int .u8 a6,.string a7,.int .i64 a8,.int .i64 a9,.slice aE aI.length aF]] [.sli 5 Qq aE aF aI] [.blk aG [.slice aH s z,.slice a0 a1 aA,.slice aB aC aD,.int .i64 a3,.int .i64 a4,.int .i64 a5] 206,.own 69 2 Qb (.slice aH s z) l0,.own 52 5 Qa (.slice a0 a1 aA) l1,.own 9 1 Q1u (.slice aB aC aD) l2] (fun v Φr Hr=>v = .int .i64 o0 ∧ Φr = [] ∧ Hr = [.blk aG [.slice aH s z,.slice a0 a1 aA,.slice aB aC aD,.int .i64 a3,.int .i64 a4,.int .i64 a5] 206,.own 69 2 Qb (.slice aH s z) l0,.own 52 5 Qa (.slice a0 a1 aA) l1,.own 9 1 Q1u (.slice aB aC aD) l2]):=by
 unfold Q3w at hm
 refine QC Tryz.func208 Z Tryz.ntmps208 Z (S:=[_,_]) Z (fun C=>(Q5 (Q1 (wB Z (fun g3=>(wP Z (Q4 (Q3 (Q2 [3,0] (S':=[_,_]) Z (Q5 (Q1 (wP Z (wF Z Q2x (wD 0 1 Z Q2e Q3O Z ?_))))))))))))))
 obtain ⟨v9,aZ,hm⟩:=Q6 hm
 refine wC [1,2,3,4] [0] Z fn_173 Z (Q74 N aG aH s z l0 a0 a1 aA l1 aB aC aD l2 a3 a4 a5 a7 _ aZ) (asK [] Z) Z (H':=[_]) Z ?_
 rintro _ _ _ ⟨rfl,rfl,rfl⟩
 refine wP Z (Q4 (Q3 (Q2 [5,3,0] (S':=V3 ..) Z (Q5 (Q1 (wP Z (wP Z (wP Z (QO 4 0 Z Z Z Zq Z Z Z (cs:=V5 ..) Z Q13 Q1V Z Z ?_)))))))))
 obtain ⟨_,aQ,hm⟩:=Q6 hm
 try dsimp only at hm
 refine wC [0,1,2,3] [4] Z Qa2 Z (Q1s N aG aH s z l0 a0 a1 aA l1 aB aC aD l2 a3 a4 a5 (decide (v9 < 0)) 211 a6 a7 a8 a9 aE aF aI aQ) (asK [0] Z) Z (H':=[_]) Z ?_
 rintro _ _ _ ⟨rfl,rfl,rfl⟩
 refine Q4 (Q3 (Q2 [5,3,0] (S':=V3 ..) Z (Q5 (Q5 (Q1 (wP Z (wP Z ?_)))))))
 obtain ⟨aK,hm⟩:=Qd hm
 refine Qs (d:=16) (v':=.bool true) (S':=V4 ..) Z Z (Qy aK) (Q4 (Q3 (Q2 [16,5,3,0] (S':=V4 ..) Z (Q8D Z (Q2 [5,3,0] (S':=V3 ..) Z ?_)))))
 obtain ⟨aR,hm⟩:=Qd hm
 obtain ⟨aS,aJ,hm⟩:=Q6 hm
 obtain ⟨_,aT,hm⟩:=Q6 hm
 try dsimp only at hm
 refine QW [0,1,2,3,4,6,7,8,9,10,11,12,13,14] Z Z (fun hok=>(xP hok 0 Z (xP hok 1 Z (xP hok 2 Z (Q8 hok 3 Z Z Z Zq Z Z Z Q7E (Q8 hok 4 Z Z Z Zq Z Z Z Q5W (xP hok 6 Z (Q8 hok 10 Z Z Z Zq Z Z Z Q1B (Qn hok 11 4 4 Z Z Z Zq Z Z Z Z (cs:=[_]) Z Q28 Q2w Z Z (Q66 hok 12 Z Z Z Zq Z Z Z Q1S (Qn hok 14 4 0 Z Z Z Zq Z Z Z Z (cs:=V5 ..) Z Q13 Q1V Z Z (xS hok 5 Z (wD 0 0 Z Q9m Q9L Z (Q4 ?_))))))))))))))
 refine QJ [0] [4,4] Z Z (Q79 hok 7 1 v9.toNat Z Z Z Zq Z Z Z Z Z (Q1d aR) (Q2Y aJ) Q8w tS_69 (fun b0 aU=>?_))
 subst aU
 refine Q8 hok 8 Z Z Z Zq Z Z Z Q9U (Q94 hok 9 Q3E 1 v9.toNat 1 Z Z Z Zq Z Z Z Z aJ Q1m Q1H (v:=.int .i64 (aS.fields)) Z Z (fun _=>(xP hok 13 Z (xS hok 15 Z (wC [0,1,2,3] [4] Z Qa2 Z (Q1s N aG (some ⟨b0,0,none⟩) s z l0 a0 a1 aA l1 aB aC aD l2 a3 a4 a5 (aS.fields != ((aI.length:Nat):Int)) 212 a6 a7 a8 a9 aE aF aI aT) (asK [0] Z) Z (H':=[_]) Z ?_)))))
 rintro _ _ _ ⟨rfl,rfl,rfl⟩
 refine Q4 (QJ [0] [1,4] Z Z (QS hok Z (Q3 (Q2 [5] (S':=[_]) Z (Q5 (Q1 (wP Z (wP Z (Q4 (Q3 (Q2 [4] (S':=[_]) Z (Qo ?_))))))))))))
 have hE:=(Zi hm).symm
 replace hE:=hE.symm
 subst hE
 refine Qp (Hr:=V4 ..) [0,1,2,3] Tryz.results208 (Qg Z) ⟨Z,Z,Z⟩ (asK [] Z) Z Z (.inl Z)
theorem Q6G (N:Nat) (aE:Nat) (z:OA) (a0:Nat) (a1:Nat) (l0:List Ql) (a7:OA) (a8:Nat) (a9:Nat) (l1:List Qi) (aA:OA) (aB:Nat) (aC:Nat) (l2:List ByteArray) (a3:Int) (a4:Int) (a5:Int) (a6:ByteArray) (o0:Int) (hm:Q3u N l0 l1 l2 a3 a4 a5 a6 = some o0):Q17 Tryz.prog 228 [.pointer (some ⟨aE,0,none⟩),.string a6] [] [.blk aE [.slice z a0 a1,.slice a7 a8 a9,.slice aA aB aC,.int .i64 a3,.int .i64 a4,.int .i64 a5] 206,.own 69 2 Qb (.slice z a0 a1) l0,.own 52 5 Qa (.slice a7 a8 a9) l1,.own 9 1 Q1u (.slice aA aB aC) l2] (fun v Φr Hr=>v = .int .i64 o0 ∧ Φr = [] ∧ Hr = [.blk aE [.slice z a0 a1,.slice a7 a8 a9,.slice aA aB aC,.int .i64 a3,.int .i64 a4,.int .i64 a5] 206,.own 69 2 Qb (.slice z a0 a1) l0,.own 52 5 Qa (.slice a7 a8 a9) l1,.own 9 1 Q1u (.slice aA aB aC) l2]):=by
 unfold Q3u at hm
 refine QC Tryz.func228 Z Tryz.ntmps228 Z (S:=[_,_]) Z (fun C=>(Q5 (Q1 (wP Z (Q4 (Q3 (Q2 [0,1] (S':=[_,_]) Z (Q5 ?_))))))))
 obtain ⟨aI,hm,hLj_1⟩:=Q1o hm
 refine QM (σ:=Unit) (fun _=>aI = .inl ()) (fun _=>[]) (fun _=>[]) (fun _=>[.blk aE [.slice z a0 a1,.slice a7 a8 a9,.slice aA aB aC,.int .i64 a3,.int .i64 a4,.int .i64 a5] 206,.own 69 2 Qb (.slice z a0 a1) l0,.own 52 5 Qa (.slice a7 a8 a9) l1,.own 9 1 Q1u (.slice aA aB aC) l2]) ?_ ?_
 refine Q5 (Q1 (wP Z (Q4 (Q3 (Qw (Q1j (σ:=Nat × Nat) (fun (aD,s)=>Q1h (Q4b N l2 a6) aD s = some aI) (fun (aD,s)=>aD) (fun (aD,s)=>[(5,.int .i64 ((s:Nat):Int)),(0,.pointer (some ⟨aE,0,none⟩)),(1,.string a6)]) (fun (aD,s)=>[]) (fun (aD,s)=>[.blk aE [.slice z a0 a1,.slice a7 a8 a9,.slice aA aB aC,.int .i64 a3,.int .i64 a4,.int .i64 a5] 206,.own 69 2 Qb (.slice z a0 a1) l0,.own 52 5 Qa (.slice a7 a8 a9) l1,.own 9 1 Q1u (.slice aA aB aC) l2]) (N,0) hm [5,0,1] Z (asK [] Z) Z (fun s_ hm=>?_)))))))
 obtain ⟨aD,s⟩:=s_
 try dsimp only at hm ⊢
 obtain ⟨aU,aV,aN,hq,hLu1⟩:=QV hm
 clear hm
 subst aN
 replace hm:=hq
 clear hq
 unfold Q4b at hm
 try dsimp only at hm
 refine Q5 (Q5 (Q1 (wP Z (wP Z (wP Z (wF Z Q80 (wD 0 2 Z Q7F Qac Z (QQ 3 Z (fun aO _=>(wN Z Q22 (Qs (d:=11) (v':=.int .i64 ((l2.length:Nat):Int)) (S':=V8 ..) Z Z (Q7a aO) (wP Z (Qs (d:=12) (v':=.bool (decide (s < l2.length))) (S':=V9 ..) Z Z (Q2l (a:=s) (b:=l2.length)) (Q4 ?_))))))))))))))
 refine Q3 (Q2 [12,5,0,1] (S':=V4 ..) Z ?_)
 refine Qt Z (fun aF=>?_) (fun aF=>?_)
 replace hm:=QI hm aF
 refine Q2 [5,0,1] (S':=V3 ..) Z (Qr (Q3 (Q5 (Qw (Q5 (Q1 (wP Z (wP Z (wF Z Q80 (wD 0 2 Z Q7F Qac Z (wP Z ?_)))))))))))
 obtain ⟨aS,aJ,hm⟩:=Q6 hm
 refine Q7N 3 s Z Z Z Zq Z Z Z Z Z (Q2Y aJ) Q22 Q2e (fun aW aP=>?_)
 subst aP
 refine Q29 Q6A 3 s 0 Z Z Z Zq Z Z Z aJ Q2e Q3O (v:=fun _=>.string aS) (fun _=>Z) (fun _=>Z) (fun _ _=>(wP Z (wP Z (Q4 (Q3 (Q2 [23,5,0,1] (S':=V4 ..) Z ?_))))))
 refine Qt Z (fun aG=>?_) (fun aG=>?_)
 replace hm:=QI hm aG
 refine Q2 [5] (S':=[_]) Z (Q5 (Q1 (wP Z (wP Z (Q4 (Q3 (Q2 [4] (S':=[_]) Z (Qo (Qk (Q9 (Q9 (Qk (Q9 ?_)))))))))))))
 have hE:=(Zi hm).symm
 replace hE:=Qx hLu1 hE
 replace hE:=Qx hLj_1 hE
 replace hE:=hE.symm
 subst hE
 refine Qp (Hr:=V4 ..) [0,1,2,3] Tryz.results228 (Qg Z) ⟨Z,Z,Z⟩ (asK [] Z) Z Z (.inl Z)
 replace hm:=QH hm aG
 refine Q2 [5,0,1] (S':=V3 ..) Z (Qr (Qf (Q3 (Q1 (wP Z (wP Z ?_))))))
 obtain ⟨aQ,hm⟩:=Qd hm
 refine Qs (d:=14) (v':=.int .i64 ((s + 1:Nat):Int)) (S':=V4 ..) Z Z (Q1r (a:=s) (b:=1) aQ) (QT (S':=V4 ..) Z Z Z Z Z (Q4 ?_))
 have hE:=(Zi hm).symm
 replace hE:=QF hLu1 hE
 refine QU (_,s + 1) (Nat.lt_succ_self _) hE [5,0,1] Z (asK [] Z) Z
 replace hm:=QH hm aF
 refine Q2 [] (S':=[]) Z (Q1g (Qj (Qj (QD ?_))))
 have hE:=(Zi hm).symm
 replace hE:=Qx hLu1 hE
 refine Qh () hE [] Z (asK [] Z) Z
 rintro _ hE
 try dsimp only
 have hm:=QF hLj_1 hE
 try dsimp only at hm
 refine Q5 (Q1 (wP Z (Q4 (Q3 (Qo ?_)))))
 have hE:=(Zi hm).symm
 replace hE:=hE.symm
 subst hE
 refine Qp (Hr:=V4 ..) [0,1,2,3] Tryz.results228 (Qg Z) ⟨Z,Z,Z⟩ (asK [] Z) Z Z (.inl Z)
theorem QaS (N:Nat) (a0:Int)  (hm:Q2A N a0 = some ()):Q17 Tryz.prog 159 [.int .i64 a0] [] [] (fun v Φr Hr=>v = .agg #[.int .u8 1,.int .i64 a0,.string ((⟨#[]⟩ : ByteArray))] ∧ Φr = [] ∧ Hr = []):=by
 unfold Q2A at hm
 refine QC Tryz.func159 Z Tryz.ntmps159 Z (S:=[_]) Z (fun C=>(Q5 (Q1 (QK Z Z Z Zq Z Q3A Z (fun g2=>(Q4 (Q3 (Q5 (Q1 (wP Z (Q1v Z Z Z Zq Z Q3A Q9M Z (out:=V3 ..) Z (wS 0 0 Z Q1C (all':=V3 ..) Z (H':=[_]) Z (Q4 (Q3 (Q2 [2] (S':=[_]) Z ?_)))))))))))))))
 refine Qo ?_
 have hE:=(Zi hm).symm
 refine Qp (Hr:=[]) [] Tryz.results159 (Q1e 0 Z Z Q1C Q2M Z Z) ⟨Z,Z,Z⟩ (asK [] Z) Z Z (.inl Z)
theorem Q7H (N:Nat) (a0:Int) (a1:ByteArray) (a2:Int) (a3:Int) (qp0:OA) (qc1:Nat) (l4:List Qe) (o0:Int) (hm:Q4n N a0 a1 a2 a3 l4 = some o0):Q17 Tryz.prog 229 [.agg #[.int .u8 a0,.string a1,.int .i64 a2,.int .i64 a3,.slice qp0 l4.length qc1]] [.sli 5 Qq qp0 qc1 l4] [] (fun v Φr Hr=>v = .agg #[.int .u8 1,.int .i64 o0,.string ((⟨#[]⟩ : ByteArray))] ∧ Φr = [] ∧ Hr = []):=by
 unfold Q4n at hm
 refine QC Tryz.func229 Z Tryz.ntmps229 Z (S:=[_]) Z (fun C=>(Q5 (Q1 (wB Z (fun g1=>(QK Z Z Z Zq Z Q3A Z (fun g2=>(Q4 (Q3 (Q2 [2,1] (S':=[_,_]) Z (Q5 (Q5 (Q1 (wF Z Q3q (wD 1 0 Z Q3X Q7C Z (wP Z ?_))))))))))))))))
 obtain ⟨hpr9,hm⟩:=Qd hm
 refine Qs (d:=9) (v':=.bool false) (S':=V4 ..) Z Z (Qy hpr9) (Q4 (Q3 (Q2 [9,2,1] (S':=V3 ..) Z (Q1l Z (Q2 [2,1] (S':=[_,_]) Z (Qr (Q3 (Q5 (Q5 (Q1 (wF Z Q2x (wD 1 1 Z Q2e Q3O Z ?_))))))))))))
 obtain ⟨x15,hx15,hm⟩:=Q6 hm
 refine Q1w Z Z Z Zq (Q4V 0 Z Z Z Z hx15 Q7r) (wP Z (Qs (d:=16) (v':=.bool (x15.toNat == 45)) (S':=V5 ..) Z Z (Q4J (a:=x15.toNat) (b:=45)) ?_))
 obtain ⟨hpr16,hm⟩:=Qd hm
 refine Qs (d:=16) (v':=.bool false) (S':=V5 ..) Z Z (Qy hpr16) (Q4 (Q3 (Q2 [16,2,1] (S':=V3 ..) Z (Q1l Z (Q2 [2,1] (S':=[_,_]) Z (Qr (Q3 (Q5 (Q1 (wF Z Q2x (wD 1 1 Z Q2e Q3O Z ?_)))))))))))
 obtain ⟨v30,hc30,hm⟩:=Q6 hm
 refine wC [] [0,1] Z fn_202 Z (Q4p N a1 _ hc30) (asK [] Z) Z (H':=[_,_]) Z ?_
 rintro _ _ _ ⟨rfl,rfl,rfl⟩
 refine wP Z (wP Z (wP Z (wP Z (wP Z (Q4 (Q3 (Q2 [5,2] (S':=[_,_]) Z (Q5 (Q1 (wP Z ?_))))))))))
 obtain ⟨_,hc34,hm⟩:=Q6 hm
 try dsimp only at hm
 refine wC [] [0,1] Z fn_159 Z (QaS N v30 hc34) (asK [] Z) Z (H':=[_,_]) Z ?_
 rintro _ _ _ ⟨rfl,rfl,rfl⟩
 refine wS 0 0 Z Q1C (all':=V3 ..) Z (H':=[_,_]) Z (Q4 (Q3 (Q2 [2] (S':=[_]) Z (Qo ?_))))
 have hE:=(Zi hm).symm
 replace hE:=hE.symm
 subst hE
 refine Qp (Hr:=[]) [] Tryz.results229 (Q1e 0 Z Z Q1C Q2M Z Z) ⟨Z,Z,Z⟩ (asK [] Z) Z Z (.inl Z)
theorem Q9E (N:Nat) (b9:Nat) (b1:OA) (b2:Nat) (b3:Nat) (l0:List Ql) (b4:OA) (b5:Nat) (b6:Nat) (l1:List Qi) (bS:OA) (bT:Nat) (bU:Nat) (l2:List ByteArray) (a3:Int) (a4:Int) (a5:Int) (a6:Int) (a7:ByteArray) (a8:Int) (a9:Int) (bA:OA) (bB:Nat) (bD:List Qe) (bE:Bool) (o2:List Q4O) (o6:List ByteArray) (hm:Q5o N l0 l1 l2 a3 a4 a5 a6 a7 a8 a9 bD bE = some (o2,o6)):Q17 Tryz.prog 209 [.pointer (some ⟨b9,0,none⟩),.agg #[.int .u8 a6,.string a7,.int .i64 a8,.int .i64 a9,.slice bA bD.length bB],.bool bE] [.sli 5 Qq bA bB bD] [.blk b9 [.slice b1 b2 b3,.slice b4 b5 b6,.slice bS bT bU,.int .i64 a3,.int .i64 a4,.int .i64 a5] 206,.own 69 2 Qb (.slice b1 b2 b3) l0,.own 52 5 Qa (.slice b4 b5 b6) l1,.own 9 1 Q1u (.slice bS bT bU) l2] (fun v Φr Hr=>∃ (o0:OA) (o1:Nat) (o3:Nat) (o4:OA) (o5:Nat) (o7:Nat),v = .slice o0 o3 o1 ∧ Φr = [] ∧ Hr = [.own 59 5 Q2O (.slice o0 o3 o1) o2,.blk b9 [.slice b1 b2 b3,.slice b4 b5 b6,.slice o4 o7 o5,.int .i64 a3,.int .i64 a4,.int .i64 a5] 206,.own 69 2 Qb (.slice b1 b2 b3) l0,.own 52 5 Qa (.slice b4 b5 b6) l1,.own 9 1 Q1u (.slice o4 o7 o5) o6]):=by
 unfold Q5o at hm
 refine QC Tryz.func209 Z Tryz.ntmps209 Z (S:=V3 ..) Z (fun C=>(Q5 (Q1 (wB Z (fun g4=>(wP Z (Q4 (Q3 (Q2 [4,0,2] (S':=V3 ..) Z (Q5 (Q1 (wP Z (Q4 (Q3 (Q5 ?_)))))))))))))))
 obtain ⟨bQ,hm,hLj_1⟩:=Q6 hm
 refine QM (σ:=(List Q4O) × (List ByteArray) × OA × Nat × Nat × OA × Nat × Nat) (fun (aX,aO,aS,aT,aU,aF,aG,aH)=>bQ = (aX,aO)) (fun (aX,aO,aS,aT,aU,aF,aG,aH)=>[(7,.slice aS aU aT)]) (fun (aX,aO,aS,aT,aU,aF,aG,aH)=>[]) (fun (aX,aO,aS,aT,aU,aF,aG,aH)=>[.own 59 5 Q2O (.slice aS aU aT) aX,.blk b9 [.slice b1 b2 b3,.slice b4 b5 b6,.slice aF aH aG,.int .i64 a3,.int .i64 a4,.int .i64 a5] 206,.own 69 2 Qb (.slice b1 b2 b3) l0,.own 52 5 Qa (.slice b4 b5 b6) l1,.own 9 1 Q1u (.slice aF aH aG) aO]) ?_ ?_
 refine Q5 (Q1 (wP Z (Q4 (Q3 (Qw (Q5b 59 5 Q2O (Q1j (σ:=Nat × Nat × (List Q4O) × (List ByteArray) × OA × Nat × Nat × OA × Nat × Nat) (fun (bF,aV,aJ,s,aP,aQ,aR,a0,a1,aA)=>Q1h (Q4t N bD a4 l0 l1 a3 a5 bE) bF (aV,aJ,s) = some bQ) (fun (bF,aV,aJ,s,aP,aQ,aR,a0,a1,aA)=>bF) (fun (bF,aV,aJ,s,aP,aQ,aR,a0,a1,aA)=>[(8,.int .i64 ((aV:Nat):Int)),(7,.slice aP aR aQ),(4,.pointer (some ⟨g4,0,none⟩)),(0,.pointer (some ⟨b9,0,none⟩)),(2,.bool bE)]) (fun (bF,aV,aJ,s,aP,aQ,aR,a0,a1,aA)=>[.sli 5 Qq bA bB bD]) (fun (bF,aV,aJ,s,aP,aQ,aR,a0,a1,aA)=>[.own 59 5 Q2O (.slice aP aR aQ) aJ,.blk g4 [.int .u8 a6,.string a7,.int .i64 a8,.int .i64 a9,.slice bA bD.length bB] 159,.blk b9 [.slice b1 b2 b3,.slice b4 b5 b6,.slice a0 aA a1,.int .i64 a3,.int .i64 a4,.int .i64 a5] 206,.own 69 2 Qb (.slice b1 b2 b3) l0,.own 52 5 Qa (.slice b4 b5 b6) l1,.own 9 1 Q1u (.slice a0 aA a1) s]) (N,0,[],l2,none,0,0,bS,bU,bT) hm [8,7,4,0,2] Z (asK [0] Z) Z (fun s_ hm=>?_))))))))
 obtain ⟨bF,aV,aJ,s,aP,aQ,aR,a0,a1,aA⟩:=s_
 try dsimp only at hm ⊢
 obtain ⟨cT,cU,c3,hq,hLu1⟩:=QV hm
 clear hm
 subst c3
 replace hm:=hq
 clear hq
 unfold Q4t at hm
 try dsimp only at hm
 refine Q5 (Q5 ?_)
 obtain ⟨c4,hm,hLj_2⟩:=Q6 hm
 refine QM (σ:=Bool) (fun b0=>c4 = b0) (fun b0=>[(8,.int .i64 ((aV:Nat):Int)),(7,.slice aP aR aQ),(4,.pointer (some ⟨g4,0,none⟩)),(0,.pointer (some ⟨b9,0,none⟩)),(2,.bool bE),(24,.bool b0)]) (fun b0=>[.sli 5 Qq bA bB bD]) (fun b0=>[.own 59 5 Q2O (.slice aP aR aQ) aJ,.blk g4 [.int .u8 a6,.string a7,.int .i64 a8,.int .i64 a9,.slice bA bD.length bB] 159,.blk b9 [.slice b1 b2 b3,.slice b4 b5 b6,.slice a0 aA a1,.int .i64 a3,.int .i64 a4,.int .i64 a5] 206,.own 69 2 Qb (.slice b1 b2 b3) l0,.own 52 5 Qa (.slice b4 b5 b6) l1,.own 9 1 Q1u (.slice a0 aA a1) s]) ?_ ?_
 refine Q1 (wP Z (wF Z Q1B (wD 1 4 Z Q28 Q2w Z (wN Z Q1S (wP Z (Qs (d:=16) (v':=.bool (decide (aV < bD.length))) (S':=V9 ..) Z Z (Q2l (a:=aV) (b:=bD.length)) (wP Z ?_)))))))
 refine QG (d:=17) (S':=V10 ..) Z Z (fun bL=>?_) (fun bL=>?_)
 replace hm:=QI hm bL
 refine wP Z (wP Z (wF Z tF_206_3 (wF Z Qb8 (wD 2 4 Z tS_32 tA_32 Z (wP Z (wP Z (Q4 ?_)))))))
 have hE:=(Zi hm).symm
 refine Qh (a4 == 0) hE [8,7,4,0,2,24] Z (asK [0] Z) Z
 replace hm:=QH hm bL
 refine wO Z (wO Z (wO Z (wO Z (wO Z (wO Z (wP Z (Q4 ?_)))))))
 have hE:=(Zi hm).symm
 refine Qh false hE [8,7,4,0,2,24] Z (asK [0] Z) Z
 rintro b0 hE
 try dsimp only
 have hm:=hLj_2
 try rw [hE] at hm
 refine Qt Z (fun bM=>?_) (fun bM=>?_)
 replace hm:=QI hm bM
 refine Q2 [8,7,4,0,2] (S':=V5 ..) Z (Qr (Q3 (Q5 (Qw (Q5 (Q1 (wF Z Q1B (wD 1 4 Z Q28 Q2w Z (wP Z ?_)))))))))
 obtain ⟨aI,c5,hm⟩:=Q6 hm
 refine Q1a 0 aV Z Z Z Zq Z Z Z Z Z c5 Q1S Q13 (fun cV cW cS cH=>(Q1G Q1q 1 Z (fun bG c6 _=>?_)))
 subst c6
 refine Q1F 1 0 Z Z Z Zq Z Z Z (cs:=V5 ..) Z Q13 Q1V Z Z (QK Z Z Z Zq Z Q3P Z (fun g9=>(wS 0 0 Z Q13 (all':=V5 ..) Z (H':=V7 ..) Z (Q4 (Q3 (Q2 [9,8,7,4,0,2] (S':=V6 ..) Z (Q5 (Q1 (Q1v Z Z Z Zq Z tZ_59 tP_59 Z (out:=V5 ..) Z (QK Z Z Z Zq Z tZ_59 Z (fun c7=>(wS 0 0 Z QaJ (all':=V5 ..) Z (H':=V8 ..) Z (Q4 (Q3 (Q2 [10,9,8,7,4,0,2] (S':=V7 ..) Z ?_)))))))))))))))
 refine Q5 ?_
 obtain ⟨c8,hm,hLj_3⟩:=Q6 hm
 unfold Q6D at hm
 refine QM (σ:=Nat × Int × Nat × Int × (List ByteArray) × OA × Nat × Nat) (fun (aB,aC,aD,aE,aK,aL,aM,aN)=>c8 = (aB,aC,aD,aE,aK)) (fun (aB,aC,aD,aE,aK,aL,aM,aN)=>[(10,.pointer (some ⟨c7,0,none⟩)),(8,.int .i64 ((aV:Nat):Int)),(7,.slice aP aR aQ),(4,.pointer (some ⟨g4,0,none⟩)),(0,.pointer (some ⟨b9,0,none⟩)),(2,.bool bE)]) (fun (aB,aC,aD,aE,aK,aL,aM,aN)=>[.sli 5 Qq bA bB bD]) (fun (aB,aC,aD,aE,aK,aL,aM,aN)=>[.blk c7 [.int .u8 ((aB:Nat):Int),.int .i64 aC,.int .u8 ((aD:Nat):Int),.int .i64 aE,.string ((⟨#[]⟩ : ByteArray))] 59,.own 59 5 Q2O (.slice aP aR aQ) aJ,.blk g4 [.int .u8 a6,.string a7,.int .i64 a8,.int .i64 a9,.slice bA bD.length bB] 159,.blk b9 [.slice b1 b2 b3,.slice b4 b5 b6,.slice aL aN aM,.int .i64 a3,.int .i64 a4,.int .i64 a5] 206,.own 69 2 Qb (.slice b1 b2 b3) l0,.own 52 5 Qa (.slice b4 b5 b6) l1,.own 9 1 Q1u (.slice aL aN aM) aK]) ?_ ?_
 refine Q5 (Q1 (wF Z Q3q (wD 1 0 Z Q3X Q7C Z (Q4 (Q3 (Q2 [34,10,9,8,7,4,0,2] (S':=V8 ..) Z (Qw (Q5 (Q1 (wP Z (wP Z ?_)))))))))))
 obtain ⟨bV,hm⟩:=Qd hm
 refine Qs (d:=38) (v':=.bool false) (S':=V9 ..) Z Z (Qy bV) (Q4 (Q3 (Q2 [38,34,10,9,8,7,4,0,2] (S':=V9 ..) Z (Q1l Z (Q2 [34,10,9,8,7,4,0,2] (S':=V8 ..) Z (Q5 (Q1 (wP Z (wP Z (Q4 (Q3 (Q2 [40,10,9,8,7,4,0,2] (S':=V8 ..) Z ?_))))))))))))
 refine Qt Z (fun bN=>?_) (fun bN=>?_)
 replace hm:=QI hm bN
 refine Q2 [10,9,8,7,4,0,2] (S':=V7 ..) Z (Q5 (Q1 (wP Z (wF Z Q2x (wD 1 1 Z Q2e Q3O Z ?_)))))
 obtain ⟨cI,c9,hm⟩:=Q6 hm
 refine wC [4,5,6,7] [0,1,2,3] Z fn_228 Z (Q6G N b9 b1 b2 b3 l0 b4 b5 b6 l1 a0 aA a1 s a3 a4 a5 aI.text _ c9) (asK [] Z) Z (H':=V4 ..) Z ?_
 rintro _ _ _ ⟨rfl,rfl,rfl⟩
 refine wP Z (Q4 (Q3 (Q2 [11,10,9,8,7,4,0,2] (S':=V8 ..) Z (Q5 (Q1 (wP Z (Q1v Z Z Z Zq Z tZ_59 tP_59 Z (out:=V5 ..) Z (wS 4 0 Z QaJ (all':=V5 ..) Z (H':=V8 ..) Z (Q4 (Q3 (Q2 [11,10,9,8,7,4,0,2] (S':=V8 ..) Z (Q5 (Q1 ?_)))))))))))))
 refine wP Z (wP Z (Q4 (Q3 (Q2 [49,10,9,8,7,4,0,2] (S':=V8 ..) Z ?_))))
 refine Qt Z (fun bO=>?_) (fun bO=>?_)
 replace hm:=QI hm bO
 refine Q2 [10,9,8,7,4,0,2] (S':=V7 ..) Z (Q5 (Q1 (wP Z (wP Z (wP Z (QO 5 0 Z Z Z Zq Z Z Z (cs:=V5 ..) Z Q13 Q1V Z Z ?_))))))
 obtain ⟨_,cA,hm⟩:=Q6 hm
 try dsimp only at hm
 refine wC [0,1,2,3] [4,5,6,7] Z Qa2 Z (Q1s N b9 b1 b2 b3 l0 b4 b5 b6 l1 a0 aA a1 s a3 a4 a5 (!bE) 213 aI.kind aI.text aI.num aI.at_ bG.1 bG.2 aI.kids cA) (asK [0] Z) Z (H':=V4 ..) Z ?_
 rintro _ _ _ ⟨rfl,rfl,rfl⟩
 refine Q4 (Q3 (Q2 [10,9,8,7,4,0,2] (S':=V7 ..) Z (Q5 ?_)))
 obtain ⟨_,cB,hm⟩:=Q6 hm
 try dsimp only at hm
 refine QW [0,1,2,3,4,5,6,7] Z Z (fun hok=>(xP hok 0 Z (xP hok 1 Z (xP hok 2 Z (Q8 hok 3 Z Z Z Zq Z Z Z Q80 (Qn hok 4 0 2 Z Z Z Zq Z Z Z Z (cs:=[_]) Z Q7F Qac Z Z (Qbm 3 Z (fun cC _=>(Q66 hok 5 Z Z Z Zq Z Z Z Q22 (Q1z (d:=60) (v':=.int .i64 ((s.length:Nat):Int)) (S':=V12 ..) Z Z (Q7a cC) (xP hok 6 Z (Q1z (d:=61) (v':=.bool (decide (16 ≤ s.length))) (S':=V13 ..) Z Z (natge (a:=s.length) (b:=16)) (Qn hok 7 5 0 Z Z Z Zq Z Z Z Z (cs:=V5 ..) Z Q13 Q1V Z Z (xS hok 8 Z (wC [0,1,2,3] [4,5,6,7] Z Qa2 Z (Q1s N b9 b1 b2 b3 l0 b4 b5 b6 l1 a0 aA a1 s a3 a4 a5 (decide (16 ≤ s.length)) 204 aI.kind aI.text aI.num aI.at_ bG.1 bG.2 aI.kids cB) (asK [0] Z) Z (H':=V4 ..) Z ?_)))))))))))))))
 rintro _ _ _ ⟨rfl,rfl,rfl⟩
 refine Q4 (QJ [0,1,2,3] [0] Z Z (QS hok Z (Q3 (Q2 [10,9,8,7,4,0,2] (S':=V7 ..) Z (Q5 (Q1 (wP Z (wP Z (wF Z Q80 (wD 0 2 Z Q7F Qac Z (QQ 3 Z (fun cD _=>(wN Z Q22 (Qs (d:=68) (v':=.int .i64 ((s.length:Nat):Int)) (S':=V11 ..) Z Z (Q7a cD) ?_))))))))))))))
 refine Q1v Z Z Z Zq Z tZ_59 tP_59 Z (out:=V5 ..) Z (wS 4 0 Z QaJ (all':=V5 ..) Z (H':=V8 ..) Z (Q4 (Q3 (Q2 [10,9,8,7,4,0,2] (S':=V7 ..) Z ?_))))
 obtain ⟨aW,hm⟩:=Qd hm
 obtain ⟨bC,hm⟩:=Qd hm
 refine QW [0,2,3,4,7,8,11,12] Z Z (fun hok=>(xP hok 0 Z (xP hok 2 Z (xP hok 3 Z (Q8 hok 4 Z Z Z Zq Z Z Z Q80 (Q8 hok 7 Z Z Z Zq Z Z Z Q2x (Qn hok 8 5 1 Z Z Z Zq Z Z Z Z (cs:=[_]) Z Q2e Q3O Z Z ?_)))))))
 refine wx_step3 hok 1 5 9 Z Z Z Z Z Z Z Z ?_ ?_ ?_
 ·
  refine QB Z Z Z Zq Z Q22 Q2e tZ_9 Z (zs:=[]) (by kernel_rfl) Z (out:=[]) Z (fun bP=>(Q4 (QJ [0,1,2,3] [6] Z Z ?_)))
  refine Q34 hok 5 9 Z Z Z Z Z Z ?_ ?_
  rotate_left
  focus
   refine QB Z Z Z Zq Z Q22 Q2e tZ_9 Z (zs:=[.string ((⟨#[]⟩ : ByteArray))]) (by kernel_rfl) Z (out:=[_]) Z (fun bH=>(Q4 (QJ [0,1,2,3] [] Z Z (xS hok 5 Z (wD 2 2 Z Q7F Qac Z (Q4 (QJ [0,1,2,3] [7] Z Z (xS hok 6 Z (Q1Z (sz:=1) (m:=0) Q1u [] 1 Z (fun F w hφ=>Z) Z (by decide) (H':=V10 ..) Z (QQ 5 Z (fun z _=>?_)))))))))))
   subst z
   refine Q89 1 5 Z Z Z Zq Z Z Z Z Z Q22 tR_9 Z Z (Nat.le_trans aW (by decide)) (Nat.le_trans (Nat.mul_le_mul_right _ aW) (by decide)) (H2:=fun aY aZ=>[_,.own 9 1 Q1u (.slice aY (s).length aZ) s,_,_,_,_,_,_,_,_]) (fun _ _=>Z) (fun aY aZ=>(Q4 (QJ [0,1,2,3] [7] Z Z ?_)))
  rotate_right
  focus
   refine wD 1 2 Z Q7F Qac Z (Q4 (QJ [0,1,2,3] [6] Z Z ?_))
   refine Q34 hok 6 9 Z Z Z Z Z Z ?_ ?_
   rotate_left
   focus
    refine QB Z Z Z Zq Z Q22 Q2e tZ_9 Z (zs:=[.string ((⟨#[]⟩ : ByteArray))]) (by kernel_rfl) Z (out:=[_]) Z (fun bH=>(Q4 (QJ [0,1,2,3] [] Z Z (xS hok 6 Z (Q1Z (sz:=1) (m:=0) Q1u [] 1 Z (fun F w hφ=>Z) Z (by decide) (H':=V10 ..) Z (QQ 5 Z (fun z _=>?_)))))))
    subst z
    refine Q89 1 5 Z Z Z Zq Z Z Z Z Z Q22 tR_9 Z Z (Nat.le_trans aW (by decide)) (Nat.le_trans (Nat.mul_le_mul_right _ aW) (by decide)) (H2:=fun aY aZ=>[_,.own 9 1 Q1u (.slice aY (s).length aZ) s,_,_,_,_,_,_,_,_]) (fun _ _=>Z) (fun aY aZ=>(Q4 (QJ [0,1,2,3] [7] Z Z ?_)))
   rotate_right
   focus
    refine Q1Z (sz:=1) (m:=0) Q1u [] 0 Z (fun F w hφ=>Z) Z (by decide) (H':=V9 ..) Z (QQ 4 Z (fun z _=>?_))
    subst z
    refine Q89 0 4 Z Z Z Zq Z Z Z Z Z Q22 tR_9 Z Z (Nat.le_trans aW (by decide)) (Nat.le_trans (Nat.mul_le_mul_right _ aW) (by decide)) (H2:=fun aY aZ=>[.own 9 1 Q1u (.slice aY (s).length aZ) s,_,_,_,_,_,_,_,_]) (fun _ _=>Z) (fun aY aZ=>(Q4 (QJ [0,1,2,3] [6] Z Z (xS hok 9 Z (QB Z Z Z Zq Z Q22 Q2e tZ_9 Z (zs:=[.string ((⟨#[]⟩ : ByteArray))]) (by kernel_rfl) Z (out:=[_]) Z (fun bH=>(Q4 (QJ [0,1,2,3] [] Z Z ?_))))))))
  all_goals
   refine xS hok 10 Z (Q2p [aI.text] 1 0 Z Z Z Zq Z Z Z Z Z (fun F w hφ=>⟨[.string aI.text],[],Z,Z,⟨(),Z,Qu⟩,Z⟩) Q22 tR_9 Z Z (Nat.le_trans bC (by decide)) (Nat.le_trans (Nat.mul_le_mul_right _ bC) (by decide)) (H2:=fun b7 b8=>[_,.own 9 1 Q1u (.slice b7 ((s ++ [aI.text]).length) b8) (s ++ [aI.text]),_,_,_,_,_,_,_,_]) (fun _ _=>Z) (fun b7 b8=>(Q3R 0 Z (H':=V9 ..) Z (Q4 (QJ [0,1,2,3] [6] Z Z (xP hok 11 Z (Q8 hok 12 Z Z Z Zq Z Z Z Q80 (xS hok 13 Z (wS 1 2 Z Q7F (all':=V6 ..) Z (H':=V9 ..) Z (Q4 (QJ [0,1,2,3] [] Z Z (QS hok Z (Qf ?_)))))))))))))
   have hE:=(Zi hm).symm
   refine QE [5,7,8,1,2,3,0] Z (H':=V7 ..) Z ?_
   refine Qh (2,((s.length:Nat):Int),0,0,s ++ [aI.text],b7,b8,(s ++ [aI.text]).length) hE [10,8,7,4,0,2] Z (asK [3] Z) Z
 ·
  refine wD 0 2 Z Q7F Qac Z (Q4 (QJ [0,1,2,3] [5] Z Z ?_))
  refine Q34 hok 1 9 Z Z Z Z Z Z ?_ ?_
  rotate_left
  focus
   refine QB Z Z Z Zq Z Q22 Q2e tZ_9 Z (zs:=[.string ((⟨#[]⟩ : ByteArray))]) (by kernel_rfl) Z (out:=[_]) Z (fun bH=>(Q4 (QJ [0,1,2,3] [] Z Z (xS hok 1 Z (QB Z Z Z Zq Z Q22 Q2e tZ_9 Z (zs:=[]) (by kernel_rfl) Z (out:=[]) Z (fun bP=>(Q4 (QJ [0,1,2,3] [7] Z Z (xS hok 6 Z (Q1Z (sz:=1) (m:=0) Q1u [] 0 Z (fun F w hφ=>Z) Z (by decide) (H':=V10 ..) Z (QQ 5 Z (fun z _=>?_))))))))))))
   subst z
   refine Q89 0 5 Z Z Z Zq Z Z Z Z Z Q22 tR_9 Z Z (Nat.le_trans aW (by decide)) (Nat.le_trans (Nat.mul_le_mul_right _ aW) (by decide)) (H2:=fun aY aZ=>[.own 9 1 Q1u (.slice aY (s).length aZ) s,_,_,_,_,_,_,_,_,_]) (fun _ _=>Z) (fun aY aZ=>(Q4 (QJ [0,1,2,3] [7] Z Z (xS hok 10 Z (Q2p [aI.text] 0 1 Z Z Z Zq Z Z Z Z Z (fun F w hφ=>⟨[.string aI.text],[],Z,Z,⟨(),Z,Qu⟩,Z⟩) Q22 tR_9 Z Z (Nat.le_trans bC (by decide)) (Nat.le_trans (Nat.mul_le_mul_right _ bC) (by decide)) (H2:=fun b7 b8=>[.own 9 1 Q1u (.slice b7 ((s ++ [aI.text]).length) b8) (s ++ [aI.text]),_,_,_,_,_,_,_,_,_]) (fun _ _=>Z) (fun b7 b8=>(Q3R 1 Z (H':=V9 ..) Z ?_)))))))
  rotate_right
  focus
   refine QB Z Z Z Zq Z Q22 Q2e tZ_9 Z (zs:=[]) (by kernel_rfl) Z (out:=[]) Z (fun bP=>(Q4 (QJ [0,1,2,3] [6] Z Z ?_)))
   refine Q34 hok 6 9 Z Z Z Z Z Z ?_ ?_
   rotate_left
   focus
    refine QB Z Z Z Zq Z Q22 Q2e tZ_9 Z (zs:=[.string ((⟨#[]⟩ : ByteArray))]) (by kernel_rfl) Z (out:=[_]) Z (fun bH=>(Q4 (QJ [0,1,2,3] [] Z Z (xS hok 6 Z (Q1Z (sz:=1) (m:=0) Q1u [] 1 Z (fun F w hφ=>Z) Z (by decide) (H':=V10 ..) Z (QQ 5 Z (fun z _=>?_)))))))
    subst z
    refine Q89 1 5 Z Z Z Zq Z Z Z Z Z Q22 tR_9 Z Z (Nat.le_trans aW (by decide)) (Nat.le_trans (Nat.mul_le_mul_right _ aW) (by decide)) (H2:=fun aY aZ=>[_,.own 9 1 Q1u (.slice aY (s).length aZ) s,_,_,_,_,_,_,_,_]) (fun _ _=>Z) (fun aY aZ=>(Q4 (QJ [0,1,2,3] [7] Z Z ?_)))
   rotate_right
   focus
    refine Q1Z (sz:=1) (m:=0) Q1u [] 0 Z (fun F w hφ=>Z) Z (by decide) (H':=V9 ..) Z (QQ 4 Z (fun z _=>?_))
    subst z
    refine Q89 0 4 Z Z Z Zq Z Z Z Z Z Q22 tR_9 Z Z (Nat.le_trans aW (by decide)) (Nat.le_trans (Nat.mul_le_mul_right _ aW) (by decide)) (H2:=fun aY aZ=>[.own 9 1 Q1u (.slice aY (s).length aZ) s,_,_,_,_,_,_,_,_]) (fun _ _=>Z) (fun aY aZ=>(Q4 (QJ [0,1,2,3] [6] Z Z (xS hok 9 Z (QB Z Z Z Zq Z Q22 Q2e tZ_9 Z (zs:=[.string ((⟨#[]⟩ : ByteArray))]) (by kernel_rfl) Z (out:=[_]) Z (fun bH=>(Q4 (QJ [0,1,2,3] [] Z Z ?_))))))))
   all_goals
    refine xS hok 10 Z (Q2p [aI.text] 1 0 Z Z Z Zq Z Z Z Z Z (fun F w hφ=>⟨[.string aI.text],[],Z,Z,⟨(),Z,Qu⟩,Z⟩) Q22 tR_9 Z Z (Nat.le_trans bC (by decide)) (Nat.le_trans (Nat.mul_le_mul_right _ bC) (by decide)) (H2:=fun b7 b8=>[_,.own 9 1 Q1u (.slice b7 ((s ++ [aI.text]).length) b8) (s ++ [aI.text]),_,_,_,_,_,_,_,_]) (fun _ _=>Z) (fun b7 b8=>(Q3R 0 Z (H':=V9 ..) Z ?_)))
  all_goals
   refine Q4 (QJ [0,1,2,3] [6] Z Z (xP hok 11 Z (Q8 hok 12 Z Z Z Zq Z Z Z Q80 (xS hok 13 Z (wS 1 2 Z Q7F (all':=V6 ..) Z (H':=V9 ..) Z (Q4 (QJ [0,1,2,3] [] Z Z (QS hok Z (Qf ?_)))))))))
   have hE:=(Zi hm).symm
   refine QE [5,7,8,1,2,3,0] Z (H':=V7 ..) Z ?_
   refine Qh (2,((s.length:Nat):Int),0,0,s ++ [aI.text],b7,b8,(s ++ [aI.text]).length) hE [10,8,7,4,0,2] Z (asK [3] Z) Z
 ·
  refine QB Z Z Z Zq Z Q22 Q2e tZ_9 Z (zs:=[.string ((⟨#[]⟩ : ByteArray))]) (by kernel_rfl) Z (out:=[_]) Z (fun bH=>(Q4 (QJ [0,1,2,3] [] Z Z ?_)))
  refine Q34 hok 1 5 Z Z Z Z Z Z ?_ ?_
  rotate_left
  focus
   refine wD 1 2 Z Q7F Qac Z (Q4 (QJ [0,1,2,3] [6] Z Z (xS hok 1 Z (QB Z Z Z Zq Z Q22 Q2e tZ_9 Z (zs:=[]) (by kernel_rfl) Z (out:=[]) Z (fun bP=>?_)))))
  rotate_right
  focus
   refine QB Z Z Z Zq Z Q22 Q2e tZ_9 Z (zs:=[]) (by kernel_rfl) Z (out:=[]) Z (fun bP=>(Q4 (QJ [0,1,2,3] [7] Z Z (xS hok 5 Z (wD 2 2 Z Q7F Qac Z ?_)))))
  all_goals
   refine Q4 (QJ [0,1,2,3] [7] Z Z (xS hok 6 Z (Q1Z (sz:=1) (m:=0) Q1u [] 0 Z (fun F w hφ=>Z) Z (by decide) (H':=V10 ..) Z (QQ 5 Z (fun z _=>?_)))))
   subst z
   refine Q89 0 5 Z Z Z Zq Z Z Z Z Z Q22 tR_9 Z Z (Nat.le_trans aW (by decide)) (Nat.le_trans (Nat.mul_le_mul_right _ aW) (by decide)) (H2:=fun aY aZ=>[.own 9 1 Q1u (.slice aY (s).length aZ) s,_,_,_,_,_,_,_,_,_]) (fun _ _=>Z) (fun aY aZ=>(Q4 (QJ [0,1,2,3] [7] Z Z (xS hok 10 Z (Q2p [aI.text] 0 1 Z Z Z Zq Z Z Z Z Z (fun F w hφ=>⟨[.string aI.text],[],Z,Z,⟨(),Z,Qu⟩,Z⟩) Q22 tR_9 Z Z (Nat.le_trans bC (by decide)) (Nat.le_trans (Nat.mul_le_mul_right _ bC) (by decide)) (H2:=fun b7 b8=>[.own 9 1 Q1u (.slice b7 ((s ++ [aI.text]).length) b8) (s ++ [aI.text]),_,_,_,_,_,_,_,_,_]) (fun _ _=>Z) (fun b7 b8=>(Q3R 1 Z (H':=V9 ..) Z (Q4 (QJ [0,1,2,3] [6] Z Z (xP hok 11 Z (Q8 hok 12 Z Z Z Zq Z Z Z Q80 (xS hok 13 Z (wS 1 2 Z Q7F (all':=V6 ..) Z (H':=V9 ..) Z (Q4 (QJ [0,1,2,3] [] Z Z ?_)))))))))))))))
   refine QS hok Z (Qf ?_)
   have hE:=(Zi hm).symm
   refine QE [5,7,8,1,2,3,0] Z (H':=V7 ..) Z ?_
   refine Qh (2,((s.length:Nat):Int),0,0,s ++ [aI.text],b7,b8,(s ++ [aI.text]).length) hE [10,8,7,4,0,2] Z (asK [3] Z) Z
 replace hm:=QH hm bO
 refine Q2 [10,8,7,4,0,2] (S':=V6 ..) Z (Qr (Qf ?_))
 have hE:=(Zi hm).symm
 refine QE [4,6,7,0,1,2,3] Z (H':=V7 ..) Z ?_
 refine Qh (3,cI,0,0,s,a0,a1,aA) hE [10,8,7,4,0,2] Z (asK [3] Z) Z
 replace hm:=QH hm bN
 refine Q2 [10,9,8,7,4,0,2] (S':=V7 ..) Z (Q1 (QO 1 0 Z Z Z Zq Z Z Z (cs:=V5 ..) Z Q13 Q1V Z Z ?_))
 obtain ⟨cJ,cE,hm⟩:=Q6 hm
 refine wC [] [0,1,2,3,4,5,6,7] Z fn_229 Z (Q7H N aI.kind aI.text aI.num aI.at_ bG.1 bG.2 aI.kids _ cE) (asK [0] Z) Z (H':=V8 ..) Z ?_
 rintro _ _ _ ⟨rfl,rfl,rfl⟩
 refine Q1v Z Z Z Zq Z tZ_59 tP_59 Z (out:=V5 ..) Z (wS 0 0 Z QaJ (all':=V5 ..) Z (H':=V8 ..) Z (Q4 (Qf ?_)))
 have hE:=(Zi hm).symm
 refine QE [0,2,3,4,5,6,7] Z (H':=V7 ..) Z ?_
 refine Qh (4,0,1,cJ,s,a0,a1,aA) hE [10,8,7,4,0,2] Z (asK [3] Z) Z
 rintro ⟨aB,aC,aD,aE,aK,aL,aM,aN⟩ hE
 try dsimp only
 have hm:=hLj_3
 try rw [hE] at hm
 try dsimp only at hm
 refine Q1 (wP Z (QO 0 0 Z Z Z Zq Z Z Z (cs:=V5 ..) Z QaJ tA_59 Z Z (QB Z Z Z Zq Z tE_60 QaJ tZ_59 Z (zs:=[.int .u8 0,.int .i64 0,.int .u8 0,.int .i64 0,.string ((⟨#[]⟩ : ByteArray))]) (by kernel_rfl) Z (out:=V5 ..) Z (fun cX=>?_))))
 obtain ⟨bR,hm⟩:=Qd hm
 refine Q2p ([(⟨(((aB:Nat):Int)),aC,(⟨(((aD:Nat):Int)),aE,(⟨#[]⟩ : ByteArray)⟩ : V)⟩ : Q4O)]) 2 0 Z Z Z Zq Z Z Z Z Z (fun F w hφ=>⟨[.int .u8 ((aB:Nat):Int),.int .i64 aC,.int .u8 ((aD:Nat):Int),.int .i64 aE,.string ((⟨#[]⟩ : ByteArray))],[],Z,Z,⟨(),Z,Qu⟩,Z⟩) tE_60 tR_59 Z Z (Nat.le_trans bR (by decide)) (Nat.le_trans (Nat.mul_le_mul_right _ bR) (by decide)) (H2:=fun bW bX=>[_,_,.own 59 5 Q2O (.slice bW ((aJ ++ ([(⟨(((aB:Nat):Int)),aC,(⟨(((aD:Nat):Int)),aE,(⟨#[]⟩ : ByteArray)⟩ : V)⟩ : Q4O)])).length) bX) (aJ ++ ([(⟨(((aB:Nat):Int)),aC,(⟨(((aD:Nat):Int)),aE,(⟨#[]⟩ : ByteArray)⟩ : V)⟩ : Q4O)])),_,_,_,_,_]) (fun _ _=>Z) (fun bW bX=>(Q3R 0 Z (H':=V7 ..) Z (QT (S':=V9 ..) Z Z Z Z Z (Q4 (Qf (Q3 (Q2 [7,8,4,0,2] (S':=V5 ..) Z (Q1 (wP Z (wP Z ?_))))))))))
 obtain ⟨cF,hm⟩:=Qd hm
 refine Qs (d:=26) (v':=.int .i64 ((aV + 1:Nat):Int)) (S':=V6 ..) Z Z (Q1r (a:=aV) (b:=1) cF) (QT (S':=V6 ..) Z Z Z Z Z (Q4 ?_))
 have hE:=(Zi hm).symm
 replace hE:=QF hLu1 hE
 refine QE [1,2,3,4,5,6] Z (H':=V6 ..) Z ?_
 refine QU (_,aV + 1,(aJ ++ ([(⟨(((aB:Nat):Int)),aC,(⟨(((aD:Nat):Int)),aE,(⟨#[]⟩ : ByteArray)⟩ : V)⟩ : Q4O)])),aK,bW,bX,((aJ ++ ([(⟨(((aB:Nat):Int)),aC,(⟨(((aD:Nat):Int)),aE,(⟨#[]⟩ : ByteArray)⟩ : V)⟩ : Q4O)])).length),aL,aM,aN) (Nat.lt_succ_self _) hE [8,7,4,0,2] Z (asK [0] Z) Z
 replace hm:=QH hm bM
 refine Q2 [7] (S':=[_]) Z (Q1g (Qj (Qj (QD ?_))))
 have hE:=(Zi hm).symm
 replace hE:=Qx hLu1 hE
 refine QE [0,2,3,4,5] Z (H':=V5 ..) Z ?_
 refine Qh (aJ,s,aP,aQ,aR,a0,a1,aA) hE [7] Z (asK [] Z) Z
 rintro ⟨aX,aO,aS,aT,aU,aF,aG,aH⟩ hE
 try dsimp only
 have hm:=hLj_1
 try rw [hE] at hm
 try dsimp only at hm
 refine Q5 (Q1 (wP Z (wP Z (Q4 (Q3 (Q2 [6] (S':=[_]) Z (Qo ?_)))))))
 have hE:=(Zi hm).symm
 obtain ⟨hE0,hE1⟩:=Prod.mk.inj hE
 clear hE
 replace hE0:=hE0.symm
 subst hE0
 replace hE1:=hE1.symm
 subst hE1
 refine Qp (Hr:=V5 ..) [0,1,2,3,4] Tryz.results209 (Qg Z) ⟨aS,aT,aU,aF,aG,aH,Z,Z,Z⟩ (asK [] Z) Z Z (.inl Z)
theorem Qbl (N:Nat) (a0:ByteArray) (a1:Int) (o0:Int) (hm:Q7j N a0 a1 = some o0):Q17 Tryz.prog 230 [.string a0,.int .i64 a1] [] [] (fun v Φr Hr=>v = .tuple #[.int .u8 o0,.bool false] ∧ Φr = [] ∧ Hr = []):=by
 unfold Q7j at hm
 refine QC Tryz.func230 Z Tryz.ntmps230 Z (S:=[_,_]) Z (fun C=>(Q5 (Q1 (wP Z (wP Z (Q4 (Q3 (Q2 [0,1] (S':=[_,_]) Z (Q5 (Q5 (Q1 (wP Z (wP Z ?_)))))))))))))
 obtain ⟨s,hm⟩:=Qd hm
 refine Qs (d:=10) (v':=.bool false) (S':=V3 ..) Z Z (Qy s) (Q4 (Q3 (Q2 [10,0] (S':=[_,_]) Z (Q1l Z (Q2 [0] (S':=[_]) Z (Qr (Q3 (Q5 (Q1 (QB Z Z Z Zq Z Q22 Q2e tZ_9 Z (zs:=[.string ((⟨#[]⟩ : ByteArray)),.string ((⟨#[]⟩ : ByteArray)),.string ((⟨#[]⟩ : ByteArray)),.string ((⟨#[]⟩ : ByteArray)),.string ((⟨#[]⟩ : ByteArray)),.string ((⟨#[]⟩ : ByteArray)),.string ((⟨#[]⟩ : ByteArray)),.string ((⟨#[]⟩ : ByteArray)),.string ((⟨#[]⟩ : ByteArray))]) (by kernel_rfl) Z (out:=V9 ..) Z (fun z=>(wP Z (Q4 (Q3 ?_))))))))))))))
 refine Q2 [6,0] (S':=[_,_]) Z (Q5 (Q1 (QB Z Z Z Zq Z tE_272 tS_62 tZ_62 Z (zs:=[.int .u8 0,.int .u8 0,.int .u8 0,.int .u8 0,.int .u8 0,.int .u8 0,.int .u8 0,.int .u8 0,.int .u8 0]) (by kernel_rfl) Z (out:=V9 ..) Z (fun a5=>(wP Z (Q4 (Q3 (Q2 [7,6,0] (S':=V3 ..) Z (Q5 (Q5 (Q1 (wP Z (Q4 (Q3 ?_))))))))))))))
 refine Qw (wc_row (sz:=1) (m:=9) R_u8 ([1,2,3,5,6,7,8,9,10]) 0 Z (fun F w hφ=>⟨[.int .u8 1],[.int .u8 2,.int .u8 3,.int .u8 5,.int .u8 6,.int .u8 7,.int .u8 8,.int .u8 9,.int .u8 10],Z,Z,⟨(),Z,Qu⟩,⟨[.int .u8 2],[.int .u8 3,.int .u8 5,.int .u8 6,.int .u8 7,.int .u8 8,.int .u8 9,.int .u8 10],Z,Z,⟨(),Z,Qu⟩,⟨[.int .u8 3],[.int .u8 5,.int .u8 6,.int .u8 7,.int .u8 8,.int .u8 9,.int .u8 10],Z,Z,⟨(),Z,Qu⟩,⟨[.int .u8 5],[.int .u8 6,.int .u8 7,.int .u8 8,.int .u8 9,.int .u8 10],Z,Z,⟨(),Z,Qu⟩,⟨[.int .u8 6],[.int .u8 7,.int .u8 8,.int .u8 9,.int .u8 10],Z,Z,⟨(),Z,Qu⟩,⟨[.int .u8 7],[.int .u8 8,.int .u8 9,.int .u8 10],Z,Z,⟨(),Z,Qu⟩,⟨[.int .u8 8],[.int .u8 9,.int .u8 10],Z,Z,⟨(),Z,Qu⟩,⟨[.int .u8 9],[.int .u8 10],Z,Z,⟨(),Z,Qu⟩,⟨[.int .u8 10],[],Z,Z,⟨(),Z,Qu⟩,Z⟩⟩⟩⟩⟩⟩⟩⟩⟩) Z (by decide) (H':=[_,_]) Z (wc_freeze 0 Z (H':=[_]) Z (wc_fact (.sli 1 R_u8 (some ⟨a5,0,none⟩) 9 ([1,2,3,5,6,7,8,9,10])) (fun F w hφ=>Q1A (hφ _ (Q12 (k:=0) Z))) (wc_row (sz:=1) (m:=9) Q1u ([(⟨#[43]⟩ : ByteArray),(⟨#[45]⟩ : ByteArray),(⟨#[42]⟩ : ByteArray),(⟨#[61]⟩ : ByteArray),(⟨#[33,61]⟩ : ByteArray),(⟨#[60]⟩ : ByteArray),(⟨#[60,61]⟩ : ByteArray),(⟨#[97,110,100]⟩ : ByteArray),(⟨#[111,114]⟩ : ByteArray)]) 0 Z (fun F w hφ=>⟨[.string ((⟨#[43]⟩ : ByteArray))],[.string ((⟨#[45]⟩ : ByteArray)),.string ((⟨#[42]⟩ : ByteArray)),.string ((⟨#[61]⟩ : ByteArray)),.string ((⟨#[33,61]⟩ : ByteArray)),.string ((⟨#[60]⟩ : ByteArray)),.string ((⟨#[60,61]⟩ : ByteArray)),.string ((⟨#[97,110,100]⟩ : ByteArray)),.string ((⟨#[111,114]⟩ : ByteArray))],Z,Z,⟨(),Z,Qu⟩,⟨[.string ((⟨#[45]⟩ : ByteArray))],[.string ((⟨#[42]⟩ : ByteArray)),.string ((⟨#[61]⟩ : ByteArray)),.string ((⟨#[33,61]⟩ : ByteArray)),.string ((⟨#[60]⟩ : ByteArray)),.string ((⟨#[60,61]⟩ : ByteArray)),.string ((⟨#[97,110,100]⟩ : ByteArray)),.string ((⟨#[111,114]⟩ : ByteArray))],Z,Z,⟨(),Z,Qu⟩,⟨[.string ((⟨#[42]⟩ : ByteArray))],[.string ((⟨#[61]⟩ : ByteArray)),.string ((⟨#[33,61]⟩ : ByteArray)),.string ((⟨#[60]⟩ : ByteArray)),.string ((⟨#[60,61]⟩ : ByteArray)),.string ((⟨#[97,110,100]⟩ : ByteArray)),.string ((⟨#[111,114]⟩ : ByteArray))],Z,Z,⟨(),Z,Qu⟩,⟨[.string ((⟨#[61]⟩ : ByteArray))],[.string ((⟨#[33,61]⟩ : ByteArray)),.string ((⟨#[60]⟩ : ByteArray)),.string ((⟨#[60,61]⟩ : ByteArray)),.string ((⟨#[97,110,100]⟩ : ByteArray)),.string ((⟨#[111,114]⟩ : ByteArray))],Z,Z,⟨(),Z,Qu⟩,⟨[.string ((⟨#[33,61]⟩ : ByteArray))],[.string ((⟨#[60]⟩ : ByteArray)),.string ((⟨#[60,61]⟩ : ByteArray)),.string ((⟨#[97,110,100]⟩ : ByteArray)),.string ((⟨#[111,114]⟩ : ByteArray))],Z,Z,⟨(),Z,Qu⟩,⟨[.string ((⟨#[60]⟩ : ByteArray))],[.string ((⟨#[60,61]⟩ : ByteArray)),.string ((⟨#[97,110,100]⟩ : ByteArray)),.string ((⟨#[111,114]⟩ : ByteArray))],Z,Z,⟨(),Z,Qu⟩,⟨[.string ((⟨#[60,61]⟩ : ByteArray))],[.string ((⟨#[97,110,100]⟩ : ByteArray)),.string ((⟨#[111,114]⟩ : ByteArray))],Z,Z,⟨(),Z,Qu⟩,⟨[.string ((⟨#[97,110,100]⟩ : ByteArray))],[.string ((⟨#[111,114]⟩ : ByteArray))],Z,Z,⟨(),Z,Qu⟩,⟨[.string ((⟨#[111,114]⟩ : ByteArray))],[],Z,Z,⟨(),Z,Qu⟩,Z⟩⟩⟩⟩⟩⟩⟩⟩⟩) Z (by decide) (H':=[_]) Z (wc_freeze 0 Z (H':=[]) Z (wc_fact (.sli 1 Q1u (some ⟨z,0,none⟩) 9 ([(⟨#[43]⟩ : ByteArray),(⟨#[45]⟩ : ByteArray),(⟨#[42]⟩ : ByteArray),(⟨#[61]⟩ : ByteArray),(⟨#[33,61]⟩ : ByteArray),(⟨#[60]⟩ : ByteArray),(⟨#[60,61]⟩ : ByteArray),(⟨#[97,110,100]⟩ : ByteArray),(⟨#[111,114]⟩ : ByteArray)])) (fun F w hφ=>Q1A (hφ _ (Q12 (k:=0) Z))) (Q1j (σ:=Unit) (fun _=>True) (fun _=>0) (fun _=>[(8,.int .i64 0),(7,.slice (some ⟨a5,0,none⟩) (([1,2,3,5,6,7,8,9,10]).length) 9),(6,.slice (some ⟨z,0,none⟩) (([(⟨#[43]⟩ : ByteArray),(⟨#[45]⟩ : ByteArray),(⟨#[42]⟩ : ByteArray),(⟨#[61]⟩ : ByteArray),(⟨#[33,61]⟩ : ByteArray),(⟨#[60]⟩ : ByteArray),(⟨#[60,61]⟩ : ByteArray),(⟨#[97,110,100]⟩ : ByteArray),(⟨#[111,114]⟩ : ByteArray)]).length) 9),(0,.string a0)]) (fun _=>[.sli 1 R_u8 (some ⟨a5,0,none⟩) 9 ([1,2,3,5,6,7,8,9,10]),.sli 1 Q1u (some ⟨z,0,none⟩) 9 ([(⟨#[43]⟩ : ByteArray),(⟨#[45]⟩ : ByteArray),(⟨#[42]⟩ : ByteArray),(⟨#[61]⟩ : ByteArray),(⟨#[33,61]⟩ : ByteArray),(⟨#[60]⟩ : ByteArray),(⟨#[60,61]⟩ : ByteArray),(⟨#[97,110,100]⟩ : ByteArray),(⟨#[111,114]⟩ : ByteArray)])]) (fun _=>[]) () trivial [8,7,6,0] Z (asK [2,0] Z) Z (fun _ _=>?_))))))))
 try dsimp only
 refine Q5 (Q5 (Q1 (wP Z (wP Z (wN Z Q22 (wP Z (Qs (d:=18) (v':=.bool (decide (0 < (([(⟨#[43]⟩ : ByteArray),(⟨#[45]⟩ : ByteArray),(⟨#[42]⟩ : ByteArray),(⟨#[61]⟩ : ByteArray),(⟨#[33,61]⟩ : ByteArray),(⟨#[60]⟩ : ByteArray),(⟨#[60,61]⟩ : ByteArray),(⟨#[97,110,100]⟩ : ByteArray),(⟨#[111,114]⟩ : ByteArray)]).length)))) (S':=V7 ..) Z Z (Q2l (a:=0) (b:=([(⟨#[43]⟩ : ByteArray),(⟨#[45]⟩ : ByteArray),(⟨#[42]⟩ : ByteArray),(⟨#[61]⟩ : ByteArray),(⟨#[33,61]⟩ : ByteArray),(⟨#[60]⟩ : ByteArray),(⟨#[60,61]⟩ : ByteArray),(⟨#[97,110,100]⟩ : ByteArray),(⟨#[111,114]⟩ : ByteArray)]).length)) ?_)))))))
 obtain ⟨a6,hm⟩:=Qd hm
 refine Qs (d:=18) (v':=.bool true) (S':=V7 ..) Z Z (Qy a6) (Q4 (Q3 (Q2 [18,8,7,6,0] (S':=V5 ..) Z (Q8D Z (Q2 [8,7,6,0] (S':=V4 ..) Z (Qr (Q3 (Q5 (Qw (Q5 (Q1 (wP Z (wP Z ?_)))))))))))))
 obtain ⟨aJ,a8,hm⟩:=Q6 hm
 refine Q1a 1 0 Z Z Z Zq Z Z Z Z Z a8 Q22 Q2e (fun aK aL aH aD=>(Q1G Q6A 1 Z (fun aM a9 _=>?_)))
 subst a9
 refine Q1F 0 0 Z Z Z Zq Z Z Z (cs:=[_]) Z Q2e Q3O Z Z (wP Z (wP Z ?_))
 obtain ⟨a7,hm⟩:=Qd hm
 refine Qs (d:=26) (v':=.bool true) (S':=V9 ..) Z Z (Qy a7) (Q4 (Q3 (Q2 [26,8,7,6,0] (S':=V5 ..) Z (Q8D Z (Q2 [8,7] (S':=[_,_]) Z (Q5 (Q1 (wP Z (wP Z ?_)))))))))
 obtain ⟨aN,aA,hm⟩:=Q6 hm
 refine Q1a 2 0 Z Z Z Zq Z Z Z Z Z aA tE_272 tS_62 (fun aO aP aI aE=>(Q1G R_u8_opens 1 Z (fun aQ aB _=>?_)))
 subst aB
 refine Q1F 0 0 Z Z Z Zq Z Z Z (cs:=[_]) Z tS_62 tA_62 Z Z (wP Z (wP Z (Q4 (Q3 (Q2 [5,4] (S':=[_,_]) Z (Qo (Qk (Q9 (Q9 (Qk (Q9 ?_)))))))))))
 have hE:=(Zi hm).symm
 replace hE:=hE.symm
 subst hE
 refine Q1D (Hr:=[]) [] Tryz.results230 (Qg Z) (Qg Z) ⟨Z,Z,Z⟩ (asK [] Z) Z Z (.inl Z)
theorem Q8H (N:Nat) (rc:(List Ql) → (List Qi) → (List ByteArray) → Int → Int → Int → (List Qe) → Option (List Qm)) (ih : ∀ (aI:Nat) (a1:OA) (aA:Nat) (aB:Nat) (l0:List Ql) (aC:OA) (aD:Nat) (aE:Nat) (l1:List Qi) (aF:OA) (aG:Nat) (aH:Nat) (l2:List ByteArray) (a3:Int) (a4:Int) (a5:Int) (z:OA) (a0:Nat) (l6:List Qe) (o2:List Qm),rc l0 l1 l2 a3 a4 a5 l6 = some o2 → Q17 Tryz.prog 211 [.pointer (some ⟨aI,0,none⟩),.slice z l6.length a0] [.sli 5 Qq z a0 l6] [.blk aI [.slice a1 aA aB,.slice aC aD aE,.slice aF aG aH,.int .i64 a3,.int .i64 a4,.int .i64 a5] 206,.own 69 2 Qb (.slice a1 aA aB) l0,.own 52 5 Qa (.slice aC aD aE) l1,.own 9 1 Q1u (.slice aF aG aH) l2] (fun v Φr Hr=>∃ (o0:OA) (o1:Nat) (o3:Nat),v = .slice o0 o3 o1 ∧ Φr = [] ∧ Hr = [.own 65 7 QA (.slice o0 o3 o1) o2,.blk aI [.slice a1 aA aB,.slice aC aD aE,.slice aF aG aH,.int .i64 a3,.int .i64 a4,.int .i64 a5] 206,.own 69 2 Qb (.slice a1 aA aB) l0,.own 52 5 Qa (.slice aC aD aE) l1,.own 9 1 Q1u (.slice aF aG aH) l2])) (aI:Nat) (a1:OA) (aA:Nat) (aB:Nat) (l0:List Ql) (aC:OA) (aD:Nat) (aE:Nat) (l1:List Qi) (aF:OA) (aG:Nat) (aH:Nat) (l2:List ByteArray) (a3:Int) (a4:Int) (a5:Int) (a6:Int) (a7:ByteArray) (a8:Int) (a9:Int) (z:OA) (a0:Nat) (aK:List Qe) (o0:Nat) (o1:Nat) (o2:Int) (o3:Int) (o4:Int) (o7:List Qm) (hm:Q4u N rc l0 l1 l2 a3 a4 a5 a6 a7 a8 a9 aK = some (o0,o1,o2,o3,o4,o7)):Q17 Tryz.prog 210 [.pointer (some ⟨aI,0,none⟩),.agg #[.int .u8 a6,.string a7,.int .i64 a8,.int .i64 a9,.slice z aK.length a0]] [.sli 5 Qq z a0 aK] [.blk aI [.slice a1 aA aB,.slice aC aD aE,.slice aF aG aH,.int .i64 a3,.int .i64 a4,.int .i64 a5] 206,.own 69 2 Qb (.slice a1 aA aB) l0,.own 52 5 Qa (.slice aC aD aE) l1,.own 9 1 Q1u (.slice aF aG aH) l2] (fun v Φr Hr=>∃ (o5:OA) (o6:Nat) (o8:Nat),v = .agg #[.int .u8 ((o0:Nat):Int),.int .u8 ((o1:Nat):Int),.int .i64 o2,.string ((⟨#[]⟩ : ByteArray)),.int .i64 o3,.int .u8 o4,.slice o5 o8 o6] ∧ Φr = [] ∧ Hr = [.own 65 7 QA (.slice o5 o8 o6) o7,.blk aI [.slice a1 aA aB,.slice aC aD aE,.slice aF aG aH,.int .i64 a3,.int .i64 a4,.int .i64 a5] 206,.own 69 2 Qb (.slice a1 aA aB) l0,.own 52 5 Qa (.slice aC aD aE) l1,.own 9 1 Q1u (.slice aF aG aH) l2]):=by
 unfold Q4u at hm
 refine QC Tryz.func210 Z Tryz.ntmps210 Z (S:=[_,_]) Z (fun C=>(Q5 (Q1 (wB Z (fun g3=>(QK Z Z Z Zq Z tZ_65 Z (fun g4=>(Q4 (Q3 (Q2 [4,3,0] (S':=V3 ..) Z (Q5 (Q5 (Q1 (wF Z Q3q (wD 1 0 Z Q3X Q7C Z (Q4 ?_))))))))))))))))
 refine Q3 (Q2 [10,4,3,0] (S':=V4 ..) Z (Qw (Q5 ?_)))
 obtain ⟨b1,hm,hLj_1⟩:=Q6 hm
 refine QM (σ:=Bool) (fun s=>b1 = s) (fun s=>[(10,.int .u8 a6),(4,.pointer (some ⟨g4,0,none⟩)),(3,.pointer (some ⟨g3,0,none⟩)),(0,.pointer (some ⟨aI,0,none⟩)),(11,.bool s)]) (fun s=>[.sli 5 Qq z a0 aK]) (fun s=>[.blk g4 [.int .u8 0,.int .u8 0,.int .i64 0,.string ((⟨#[]⟩ : ByteArray)),.int .i64 0,.int .u8 0,V1] 65,.blk g3 [.int .u8 a6,.string a7,.int .i64 a8,.int .i64 a9,.slice z aK.length a0] 159,.blk aI [.slice a1 aA aB,.slice aC aD aE,.slice aF aG aH,.int .i64 a3,.int .i64 a4,.int .i64 a5] 206,.own 69 2 Qb (.slice a1 aA aB) l0,.own 52 5 Qa (.slice aC aD aE) l1,.own 9 1 Q1u (.slice aF aG aH) l2]) ?_ ?_
 refine Q5 (Q1 (wP Z (wP Z (Q4 (Q3 (Q2 [11,10,4,3,0] (S':=V5 ..) Z ?_))))))
 refine Qt Z (fun aJ=>?_) (fun aJ=>?_)
 replace hm:=QI hm aJ
 refine Qr ?_
 have hE:=(Zi hm).symm
 refine Qh (a6 == 14) hE [10,4,3,0,11] Z (asK [0] Z) Z
 replace hm:=QH hm aJ
 refine Q2 [10,4,3,0] (S':=V4 ..) Z (Q1 (wP Z (wP Z (Q4 ?_))))
 have hE:=(Zi hm).symm
 refine Qh (a6 == 15) hE [10,4,3,0,11] Z (asK [0] Z) Z
 rintro s hE
 try dsimp only
 have hm:=hLj_1
 try rw [hE] at hm
 refine Qt Z (fun aJ=>?_) (fun aJ=>?_)
 replace hm:=QI hm aJ
 refine Q2 [4,3] (S':=[_,_]) Z (Q5 (Q1 (QO 1 0 Z Z Z Zq Z Z Z (cs:=V5 ..) Z Q13 Q1V Z Z ?_)))
 obtain ⟨bG,b2,hm⟩:=Q6 hm
 refine wC [] [0,1,2,3,4,5] Z fn_229 Z (Q7H N a6 a7 a8 a9 z a0 aK _ b2) (asK [0] Z) Z (H':=V6 ..) Z ?_
 rintro _ _ _ ⟨rfl,rfl,rfl⟩
 refine Q1v Z Z Z Zq Z tZ_65 tP_65 Z (out:=V7 ..) Z (wS 0 0 Z Q57 (all':=V7 ..) Z (H':=V6 ..) Z (Q4 (Q3 (Q2 [4] (S':=[_]) Z (Qo (Qk (Q9 ?_)))))))
 have hE:=(Zi hm).symm
 obtain ⟨hE0,hF1⟩:=Prod.mk.inj hE
 obtain ⟨hE1,hF2⟩:=Prod.mk.inj hF1
 obtain ⟨hE2,hF3⟩:=Prod.mk.inj hF2
 obtain ⟨hE3,hF4⟩:=Prod.mk.inj hF3
 obtain ⟨hE4,hE5⟩:=Prod.mk.inj hF4
 clear hE hF1 hF2 hF3 hF4
 replace hE0:=hE0.symm
 subst hE0
 replace hE1:=hE1.symm
 subst hE1
 replace hE2:=hE2.symm
 subst hE2
 replace hE3:=hE3.symm
 subst hE3
 replace hE4:=hE4.symm
 subst hE4
 replace hE5:=hE5.symm
 subst hE5
 refine Q3r 65 7 QA ?_
 refine Qp (Hr:=V5 ..) [0,3,4,5,6] Tryz.results210 (Q1e 1 Z Z Q57 Q7Z Z Z) ⟨none,0,0,Z,Z,Z⟩ (asK [] Z) Z Z (.inl Z)
 replace hm:=QH hm aJ
 refine Q2 [10,4,3,0] (S':=V4 ..) Z (Q5 (Q1 (wP Z (wP Z (Q4 (Q3 (Q2 [17,4,3,0] (S':=V4 ..) Z ?_)))))))
 refine Qt Z (fun aP=>?_) (fun aP=>?_)
 replace hm:=QI hm aP
 refine Q2 [4,3,0] (S':=V3 ..) Z (Q5 (Q1 (wP Z (wF Z Q2x (wD 1 1 Z Q2e Q3O Z ?_)))))
 obtain ⟨b8,b3,hm⟩:=Q6 hm
 refine wC [2,3,4,5] [0,1] Z fn_228 Z (Q6G N aI a1 aA aB l0 aC aD aE l1 aF aG aH l2 a3 a4 a5 a7 _ b3) (asK [] Z) Z (H':=[_,_]) Z ?_
 rintro _ _ _ ⟨rfl,rfl,rfl⟩
 refine wP Z (Q4 (Q3 (Q2 [5,4,3,0] (S':=V4 ..) Z (Q5 (Q1 (wP Z (wP Z (wP Z (QO 5 0 Z Z Z Zq Z Z Z (cs:=V5 ..) Z Q13 Q1V Z Z ?_)))))))))
 obtain ⟨_,b4,hm⟩:=Q6 hm
 try dsimp only at hm
 refine wC [0,1,2,3] [4,5] Z Qa2 Z (Q1s N aI a1 aA aB l0 aC aD aE l1 aF aG aH l2 a3 a4 a5 (decide (b8 < 0)) 213 a6 a7 a8 a9 z a0 aK b4) (asK [0] Z) Z (H':=[_,_]) Z ?_
 rintro _ _ _ ⟨rfl,rfl,rfl⟩
 refine Q4 (Q3 (Q2 [5,4] (S':=[_,_]) Z (Q5 (Q1 (wP Z (Q1v Z Z Z Zq Z tZ_65 tP_65 Z (out:=V7 ..) Z (wS 4 0 Z Q57 (all':=V7 ..) Z (H':=V6 ..) Z (Q4 (Q3 (Q2 [4] (S':=[_]) Z (Qo (Qk (Q9 ?_)))))))))))))
 have hE:=(Zi hm).symm
 obtain ⟨hE0,hF1⟩:=Prod.mk.inj hE
 obtain ⟨hE1,hF2⟩:=Prod.mk.inj hF1
 obtain ⟨hE2,hF3⟩:=Prod.mk.inj hF2
 obtain ⟨hE3,hF4⟩:=Prod.mk.inj hF3
 obtain ⟨hE4,hE5⟩:=Prod.mk.inj hF4
 clear hE hF1 hF2 hF3 hF4
 replace hE0:=hE0.symm
 subst hE0
 replace hE1:=hE1.symm
 subst hE1
 replace hE2:=hE2.symm
 subst hE2
 replace hE3:=hE3.symm
 subst hE3
 replace hE4:=hE4.symm
 subst hE4
 replace hE5:=hE5.symm
 subst hE5
 refine Q3r 65 7 QA ?_
 refine Qp (Hr:=V5 ..) [0,1,2,3,4] Tryz.results210 (Q1e 5 Z Z Q57 Q7Z Z Z) ⟨none,0,0,Z,Z,Z⟩ (asK [] Z) Z Z (.inl Z)
 replace hm:=QH hm aP
 refine Q2 [4,3,0] (S':=V3 ..) Z (Qr (Qf (Q3 (Q5 (Q1 (wF Z Q2x (wD 1 1 Z Q2e Q3O Z (wF Z Q1B (wD 1 4 Z Q28 Q2w Z (wN Z Q1S ?_))))))))))
 obtain ⟨bH,b5,hm⟩:=Q6 hm
 refine wC [] [0,1,2,3,4,5] Z fn_230 Z (Qbl N a7 ((aK.length:Nat):Int) _ b5) (asK [] Z) Z (H':=V6 ..) Z ?_
 rintro _ _ _ ⟨rfl,rfl,rfl⟩
 refine wP Z (wP Z (wP Z (wP Z (wP Z (Q4 (Q3 (Q2 [7,6,4,3,0] (S':=V5 ..) Z (Q5 (Q1 (wP Z (wF Z Q1B (wD 1 4 Z Q28 Q2w Z ?_))))))))))))
 obtain ⟨bI,b6,hm⟩:=Q6 hm
 refine wC [2,3,4,5] [0,1] Z fn_211 Z (ih aI a1 aA aB l0 aC aD aE l1 aF aG aH l2 a3 a4 a5 z a0 aK _ b6) (asK [0] Z) Z (H':=[_,_]) Z ?_
 rintro _ _ _ ⟨aS,aT,aU,rfl,rfl,rfl⟩
 refine wP Z (Q4 (Q3 (Q2 [8,7,6,4] (S':=V4 ..) Z (Q5 (Q5 (Q1 (wP Z (Q4 (Q3 (Q2 [43,8,6,4] (S':=V4 ..) Z (Q1l Z (Q2 [8,6,4] (S':=V3 ..) Z (Qr ?_)))))))))))))
 refine Q3 (Q5 (Q1 (wP Z (wP Z (Q1v Z Z Z Zq Z tZ_65 tP_65 Z (out:=V7 ..) Z (wS 5 0 Z Q57 (all':=V7 ..) Z (H':=V7 ..) Z (Q4 (Q3 (Q2 [4] (S':=[_]) Z (Qo ?_))))))))))
 have hE:=(Zi hm).symm
 obtain ⟨hE0,hF1⟩:=Prod.mk.inj hE
 obtain ⟨hE1,hF2⟩:=Prod.mk.inj hF1
 obtain ⟨hE2,hF3⟩:=Prod.mk.inj hF2
 obtain ⟨hE3,hF4⟩:=Prod.mk.inj hF3
 obtain ⟨hE4,hE5⟩:=Prod.mk.inj hF4
 clear hE hF1 hF2 hF3 hF4
 replace hE0:=hE0.symm
 subst hE0
 replace hE1:=hE1.symm
 subst hE1
 replace hE2:=hE2.symm
 subst hE2
 replace hE3:=hE3.symm
 subst hE3
 replace hE4:=hE4.symm
 subst hE4
 replace hE5:=hE5.symm
 subst hE5
 refine Qp (Hr:=V5 ..) [0,1,2,3,4] Tryz.results210 (Q1e 5 Z Z Q57 Q7Z Z Z) ⟨aS,aT,aU,Z,Z,Z⟩ (asK [] Z) Z Z (.inl Z)
theorem Q8I (N:Nat) (rc:(List Ql) → (List Qi) → (List ByteArray) → Int → Int → Int → (List Qe) → Option (List Qm)) (ih : ∀ (aQ:Nat) (aC:OA) (aD:Nat) (aE:Nat) (l0:List Ql) (aF:OA) (aG:Nat) (aH:Nat) (l1:List Qi) (aI:OA) (aJ:Nat) (aK:Nat) (l2:List ByteArray) (a3:Int) (a4:Int) (a5:Int) (aR:OA) (aS:Nat) (l6:List Qe) (o2:List Qm),rc l0 l1 l2 a3 a4 a5 l6 = some o2 → Q17 Tryz.prog 211 [.pointer (some ⟨aQ,0,none⟩),.slice aR l6.length aS] [.sli 5 Qq aR aS l6] [.blk aQ [.slice aC aD aE,.slice aF aG aH,.slice aI aJ aK,.int .i64 a3,.int .i64 a4,.int .i64 a5] 206,.own 69 2 Qb (.slice aC aD aE) l0,.own 52 5 Qa (.slice aF aG aH) l1,.own 9 1 Q1u (.slice aI aJ aK) l2] (fun v Φr Hr=>∃ (o0:OA) (o1:Nat) (o3:Nat),v = .slice o0 o3 o1 ∧ Φr = [] ∧ Hr = [.own 65 7 QA (.slice o0 o3 o1) o2,.blk aQ [.slice aC aD aE,.slice aF aG aH,.slice aI aJ aK,.int .i64 a3,.int .i64 a4,.int .i64 a5] 206,.own 69 2 Qb (.slice aC aD aE) l0,.own 52 5 Qa (.slice aF aG aH) l1,.own 9 1 Q1u (.slice aI aJ aK) l2])) (aQ:Nat) (aC:OA) (aD:Nat) (aE:Nat) (l0:List Ql) (aF:OA) (aG:Nat) (aH:Nat) (l1:List Qi) (aI:OA) (aJ:Nat) (aK:Nat) (l2:List ByteArray) (a3:Int) (a4:Int) (a5:Int) (aR:OA) (aS:Nat) (l6:List Qe) (o2:List Qm) (hm:Q4v N rc l0 l1 l2 a3 a4 a5 l6 = some o2):Q17 Tryz.prog 211 [.pointer (some ⟨aQ,0,none⟩),.slice aR l6.length aS] [.sli 5 Qq aR aS l6] [.blk aQ [.slice aC aD aE,.slice aF aG aH,.slice aI aJ aK,.int .i64 a3,.int .i64 a4,.int .i64 a5] 206,.own 69 2 Qb (.slice aC aD aE) l0,.own 52 5 Qa (.slice aF aG aH) l1,.own 9 1 Q1u (.slice aI aJ aK) l2] (fun v Φr Hr=>∃ (o0:OA) (o1:Nat) (o3:Nat),v = .slice o0 o3 o1 ∧ Φr = [] ∧ Hr = [.own 65 7 QA (.slice o0 o3 o1) o2,.blk aQ [.slice aC aD aE,.slice aF aG aH,.slice aI aJ aK,.int .i64 a3,.int .i64 a4,.int .i64 a5] 206,.own 69 2 Qb (.slice aC aD aE) l0,.own 52 5 Qa (.slice aF aG aH) l1,.own 9 1 Q1u (.slice aI aJ aK) l2]):=by
 unfold Q4v at hm
 refine QC Tryz.func211 Z Tryz.ntmps211 Z (S:=[_,_]) Z (fun C=>(Q5 (Q1 (wP Z (Q4 (Q3 (Q2 [0,1] (S':=[_,_]) Z (Q5 (Q1 (wP Z (Q4 (Q3 (Q5 ?_)))))))))))))
 obtain ⟨b4,hm,hLj_1⟩:=Q6 hm
 refine QM (σ:=(List Qm) × OA × Nat × Nat) (fun (a9,z,a0,a1)=>b4 = a9) (fun (a9,z,a0,a1)=>[(5,.slice z a1 a0)]) (fun (a9,z,a0,a1)=>[]) (fun (a9,z,a0,a1)=>[.own 65 7 QA (.slice z a1 a0) a9,.blk aQ [.slice aC aD aE,.slice aF aG aH,.slice aI aJ aK,.int .i64 a3,.int .i64 a4,.int .i64 a5] 206,.own 69 2 Qb (.slice aC aD aE) l0,.own 52 5 Qa (.slice aF aG aH) l1,.own 9 1 Q1u (.slice aI aJ aK) l2]) ?_ ?_
 refine Q5 (Q1 (wP Z (Q4 (Q3 (Qw (Q5b 65 7 QA (Q1j (σ:=Nat × Nat × (List Qm) × OA × Nat × Nat) (fun (aT,aA,s,a6,a7,a8)=>Q1h (Q4c N l6 rc l0 l1 l2 a3 a4 a5) aT (aA,s) = some b4) (fun (aT,aA,s,a6,a7,a8)=>aT) (fun (aT,aA,s,a6,a7,a8)=>[(6,.int .i64 ((aA:Nat):Int)),(5,.slice a6 a8 a7),(0,.pointer (some ⟨aQ,0,none⟩)),(1,.slice aR l6.length aS)]) (fun (aT,aA,s,a6,a7,a8)=>[.sli 5 Qq aR aS l6]) (fun (aT,aA,s,a6,a7,a8)=>[.own 65 7 QA (.slice a6 a8 a7) s,.blk aQ [.slice aC aD aE,.slice aF aG aH,.slice aI aJ aK,.int .i64 a3,.int .i64 a4,.int .i64 a5] 206,.own 69 2 Qb (.slice aC aD aE) l0,.own 52 5 Qa (.slice aF aG aH) l1,.own 9 1 Q1u (.slice aI aJ aK) l2]) (N,0,[],none,0,0) hm [6,5,0,1] Z (asK [0] Z) Z (fun s_ hm=>?_))))))))
 obtain ⟨aT,aA,s,a6,a7,a8⟩:=s_
 try dsimp only at hm ⊢
 obtain ⟨bL,bM,bC,hq,hLu1⟩:=QV hm
 clear hm
 subst bC
 replace hm:=hq
 clear hq
 unfold Q4c at hm
 try dsimp only at hm
 refine Q5 (Q5 (Q1 (wP Z (wP Z (wN Z Q1S (wP Z (Qs (d:=11) (v':=.bool (decide (aA < l6.length))) (S':=V7 ..) Z Z (Q2l (a:=aA) (b:=l6.length)) (Q4 (Q3 (Q2 [11,6,5,0,1] (S':=V5 ..) Z ?_))))))))))
 refine Qt Z (fun b1=>?_) (fun b1=>?_)
 replace hm:=QI hm b1
 refine Q2 [6,5,0,1] (S':=V4 ..) Z (Qr (Q3 (Q5 (Qw (Q5 (Q1 (wP Z (wP Z (wP Z ?_)))))))))
 obtain ⟨b2,bD,hm⟩:=Q6 hm
 refine Q1a 0 aA Z Z Z Zq Z Z Z Z Z bD Q1S Q13 (fun bN bO bK bI=>(Q1G Q1q 1 Z (fun bE bF _=>?_)))
 subst bF
 refine Q1F 1 0 Z Z Z Zq Z Z Z (cs:=V5 ..) Z Q13 Q1V Z Z ?_
 obtain ⟨⟨aL,aM,aN,aO,aP,aB⟩,bG,hm⟩:=Q6 hm
 try dsimp only at hm
 refine wC [1,2,3,4] [0] Z fn_210 Z (Q8H N rc ih aQ aC aD aE l0 aF aG aH l1 aI aJ aK l2 a3 a4 a5 b2.kind b2.text b2.num b2.at_ bE.1 bE.2 b2.kids _ _ _ _ _ _ bG) (asK [0] Z) Z (H':=[_]) Z ?_
 rintro _ _ _ ⟨aU,aV,bJ,rfl,rfl,rfl⟩
 refine QK Z Z Z Zq Z tZ_65 Z (fun g7=>(wS 0 0 Z Q57 (all':=V7 ..) Z (H':=V7 ..) Z (Q4 (Q3 (Q2 [7,6,5,0,1] (S':=V5 ..) Z (Q1 (wP Z (QO 0 0 Z Z Z Zq Z Z Z (cs:=V7 ..) Z Q57 Q7Z Z Z (QB Z Z Z Zq Z Q7O Q57 tZ_65 Z (zs:=[.int .u8 0,.int .u8 0,.int .i64 0,.string ((⟨#[]⟩ : ByteArray)),.int .i64 0,.int .u8 0,V1]) (by kernel_rfl) Z (out:=V7 ..) Z (fun bP=>(QQ 2 Z (fun b3 _=>?_))))))))))))
 subst b3
 refine Q1P 2 Z (H':=V7 ..) Z (Q2n (.sli 7 QA aU aV aB) (fun F w hφ=>Q1A (hφ _ (Q12 (k:=0) Z))) ?_)
 obtain ⟨b5,hm⟩:=Qd hm
 refine Q2p ([(⟨(((aL:Nat):Int)),(⟨(((aM:Nat):Int)),aN,(⟨#[]⟩ : ByteArray)⟩ : V),aO,aP,aB⟩ : Qm)]) 6 0 Z Z Z Zq Z Z Z Z Z (fun F w hφ=>⟨[.int .u8 ((aL:Nat):Int),.int .u8 ((aM:Nat):Int),.int .i64 aN,.string ((⟨#[]⟩ : ByteArray)),.int .i64 aO,.int .u8 aP,.slice aU aB.length aV],[],Z,Z,(Q7B (aU,aV) Z (Q14 (hφ _ (Q12 (k:=0) Z)) Qu)),Z⟩) Q7O tR_65 Z Z (Nat.le_trans b5 (by decide)) (Nat.le_trans (Nat.mul_le_mul_right _ b5) (by decide)) (H2:=fun b6 b7=>[_,_,_,_,_,_,.own 65 7 QA (.slice b6 ((s ++ ([(⟨(((aL:Nat):Int)),(⟨(((aM:Nat):Int)),aN,(⟨#[]⟩ : ByteArray)⟩ : V),aO,aP,aB⟩ : Qm)])).length) b7) (s ++ ([(⟨(((aL:Nat):Int)),(⟨(((aM:Nat):Int)),aN,(⟨#[]⟩ : ByteArray)⟩ : V),aO,aP,aB⟩ : Qm)]))]) (fun _ _=>Z) (fun b6 b7=>(Q3R 0 Z (H':=V6 ..) Z (QT (S':=V8 ..) Z Z Z Z Z (Q4 (Qf (Q3 (Q2 [5,6,0,1] (S':=V4 ..) Z (Q1 (wP Z (wP Z ?_))))))))))
 obtain ⟨bH,hm⟩:=Qd hm
 refine Qs (d:=13) (v':=.int .i64 ((aA + 1:Nat):Int)) (S':=V5 ..) Z Z (Q1r (a:=aA) (b:=1) bH) (QT (S':=V5 ..) Z Z Z Z Z (Q4 ?_))
 have hE:=(Zi hm).symm
 replace hE:=QF hLu1 hE
 refine QE [5,1,2,3,4] Z (H':=V5 ..) Z ?_
 refine QU (_,aA + 1,(s ++ ([(⟨(((aL:Nat):Int)),(⟨(((aM:Nat):Int)),aN,(⟨#[]⟩ : ByteArray)⟩ : V),aO,aP,aB⟩ : Qm)])),b6,b7,((s ++ ([(⟨(((aL:Nat):Int)),(⟨(((aM:Nat):Int)),aN,(⟨#[]⟩ : ByteArray)⟩ : V),aO,aP,aB⟩ : Qm)])).length)) (Nat.lt_succ_self _) hE [6,5,0,1] Z (asK [5] Z) Z
 replace hm:=QH hm b1
 refine Q2 [5] (S':=[_]) Z (Q1g (Qj (Qj (QD ?_))))
 have hE:=(Zi hm).symm
 replace hE:=Qx hLu1 hE
 refine Qh (s,a6,a7,a8) hE [5] Z (asK [] Z) Z
 rintro ⟨a9,z,a0,a1⟩ hE
 try dsimp only
 have hm:=hLj_1
 try rw [hE] at hm
 refine Q5 (Q1 (wP Z (wP Z (Q4 (Q3 (Q2 [4] (S':=[_]) Z (Qo ?_)))))))
 have hE:=(Zi hm).symm
 replace hE:=hE.symm
 subst hE
 refine Qp (Hr:=V5 ..) [0,1,2,3,4] Tryz.results211 (Qg Z) ⟨z,a0,a1,Z,Z,Z⟩ (asK [] Z) Z Z (.inl Z)
theorem Q9v : ∀ (N:Nat),∀ (qg0:Nat) (qp1:OA) (qn2:Nat) (qc3:Nat) (l0:List Ql) (qp4:OA) (qn5:Nat) (qc6:Nat) (l1:List Qi) (qp7:OA) (qn8:Nat) (qc9:Nat) (l2:List ByteArray) (a3:Int) (a4:Int) (a5:Int) (qp10:OA) (qc11:Nat) (l6:List Qe) (o2:List Qm),Q3v N l0 l1 l2 a3 a4 a5 l6 = some o2 → Q17 Tryz.prog 211 [.pointer (some ⟨qg0,0,none⟩),.slice qp10 l6.length qc11] [.sli 5 Qq qp10 qc11 l6] [.blk qg0 [.slice qp1 qn2 qc3,.slice qp4 qn5 qc6,.slice qp7 qn8 qc9,.int .i64 a3,.int .i64 a4,.int .i64 a5] 206,.own 69 2 Qb (.slice qp1 qn2 qc3) l0,.own 52 5 Qa (.slice qp4 qn5 qc6) l1,.own 9 1 Q1u (.slice qp7 qn8 qc9) l2] (fun v Φr Hr=>∃ (o0:OA) (o1:Nat) (o3:Nat),v = .slice o0 o3 o1 ∧ Φr = [] ∧ Hr = [.own 65 7 QA (.slice o0 o3 o1) o2,.blk qg0 [.slice qp1 qn2 qc3,.slice qp4 qn5 qc6,.slice qp7 qn8 qc9,.int .i64 a3,.int .i64 a4,.int .i64 a5] 206,.own 69 2 Qb (.slice qp1 qn2 qc3) l0,.own 52 5 Qa (.slice qp4 qn5 qc6) l1,.own 9 1 Q1u (.slice qp7 qn8 qc9) l2]):=by
 intro N
 induction N with
 | zero=>intro qg0 qp1 qn2 qc3 l0 qp4 qn5 qc6 l1 qp7 qn8 qc9 l2 a3 a4 a5 qp10 qc11 l6 o2 hm; cases hm
 | succ N ih=>intro qg0 qp1 qn2 qc3 l0 qp4 qn5 qc6 l1 qp7 qn8 qc9 l2 a3 a4 a5 qp10 qc11 l6 o2 hm; exact Q8I N (Q3v N) ih qg0 qp1 qn2 qc3 l0 qp4 qn5 qc6 l1 qp7 qn8 qc9 l2 a3 a4 a5 qp10 qc11 l6 o2 hm
theorem Q8J (N:Nat) (aT:Nat) (aK:OA) (aL:Nat) (aM:Nat) (l0:List Ql) (aN:OA) (aO:Nat) (aP:Nat) (l1:List Qi) (aU:OA) (aV:Nat) (aW:Nat) (l2:List ByteArray) (a3:Int) (a4:Int) (a5:Int) (a6:ByteArray) (a7:Int) (a8:Int) (b3:OA) (b4:Nat) (b5:Nat) (l9:List QL) (bB:OA) (bC:Nat) (bD:Nat) (aQ:List Q19) (b6:Int) (b7:ByteArray) (aJ:Int) (b8:Int) (aR:OA) (aS:Nat) (aX:List Qe) (o2:List QL) (o6:List Q19) (c6:List ByteArray) (c7:Int) (hm:Q4w N l0 l1 l2 a3 a4 a5 a6 a7 a8 l9 aQ b6 b7 aJ b8 aX = some (o2,o6,c6,c7)):Q17 Tryz.prog 175 [.pointer (some ⟨aT,0,none⟩),.agg #[.string a6,.int .i64 a7,.int .i64 a8,.slice b3 b4 b5,.slice bB bC bD],.agg #[.int .u8 b6,.string b7,.int .i64 aJ,.int .i64 b8,.slice aR aX.length aS]] [.sli 5 Qq aR aS aX] [.blk aT [.slice aK aL aM,.slice aN aO aP,.slice aU aV aW,.int .i64 a3,.int .i64 a4,.int .i64 a5] 206,.own 69 2 Qb (.slice aK aL aM) l0,.own 52 5 Qa (.slice aN aO aP) l1,.own 9 1 Q1u (.slice aU aV aW) l2,.own 67 10 QR (.slice b3 b4 b5) l9,.own 81 4 QZ (.slice bB bC bD) aQ] (fun v Φr Hr=>∃ (o0:OA) (o1:Nat) (o3:Nat) (o4:OA) (o5:Nat) (o7:Nat) (o8:OA) (o9:Nat) (c8:Nat),v = .agg #[.string a6,.int .i64 a7,.int .i64 a8,.slice o0 o3 o1,.slice o4 o7 o5] ∧ Φr = [] ∧ Hr = [.own 67 10 QR (.slice o0 o3 o1) o2,.own 81 4 QZ (.slice o4 o7 o5) o6,.blk aT [.slice aK aL aM,.slice aN aO aP,.slice o8 c8 o9,.int .i64 c7,.int .i64 a4,.int .i64 a5] 206,.own 69 2 Qb (.slice aK aL aM) l0,.own 52 5 Qa (.slice aN aO aP) l1,.own 9 1 Q1u (.slice o8 c8 o9) c6]):=by
 unfold Q4w at hm
 refine QC Tryz.func175 Z Tryz.ntmps175 Z (S:=V3 ..) Z (fun C=>(Q5 (Q1 (wB Z (fun g4=>(wB Z (fun g5=>(QK Z Z Z Zq Z tZ_52 Z (fun g6=>(Q4 (Q3 (Q2 [6,5,4,0] (S':=V4 ..) Z (Q5 ?_)))))))))))))
 obtain ⟨c9,hm,hLj_1⟩:=Q6 hm
 unfold Q5S at hm
 refine QM (σ:=(List QL) × (List Q19) × (List ByteArray) × Int × OA × Nat × Nat × OA × Nat × Nat × OA × Nat × Nat) (fun (aF,aG,aE,aH,a1,a9,aA,aB,aC,aD,s,z,a0)=>c9 = (aF,aG,aE,aH)) (fun (aF,aG,aE,aH,a1,a9,aA,aB,aC,aD,s,z,a0)=>[(6,.pointer (some ⟨g6,0,none⟩)),(4,.pointer (some ⟨g4,0,none⟩))]) (fun (aF,aG,aE,aH,a1,a9,aA,aB,aC,aD,s,z,a0)=>[]) (fun (aF,aG,aE,aH,a1,a9,aA,aB,aC,aD,s,z,a0)=>[.blk g6 [.string ((⟨#[]⟩ : ByteArray)),.int .i64 0,.int .i64 0,V1,V1] 52,.blk g4 [.string a6,.int .i64 a7,.int .i64 a8,.slice a1 aA a9,.slice aB aD aC] 52,.own 67 10 QR (.slice a1 aA a9) aF,.own 81 4 QZ (.slice aB aD aC) aG,.blk aT [.slice aK aL aM,.slice aN aO aP,.slice s a0 z,.int .i64 aH,.int .i64 a4,.int .i64 a5] 206,.own 69 2 Qb (.slice aK aL aM) l0,.own 52 5 Qa (.slice aN aO aP) l1,.own 9 1 Q1u (.slice s a0 z) aE]) ?_ ?_
 refine Q5 (Q1 (wF Z Q3q (wD 1 0 Z Q3X Q7C Z (Q4 (Q3 (Q2 [13,6,5,4,0] (S':=V5 ..) Z (Qw (Q5 (Q1 (wP Z (wP Z (Q4 (Q3 ?_)))))))))))))
 refine Q2 [20,13,6,5,4,0] (S':=V6 ..) Z ?_
 refine Qt Z (fun bE=>?_) (fun bE=>?_)
 replace hm:=QI hm bE
 refine Q2 [6,5,4,0] (S':=V4 ..) Z (Q5 (Q1 (wP Z (QO 1 0 Z Z Z Zq Z Z Z (cs:=V5 ..) Z Q13 Q1V Z Z ?_))))
 obtain ⟨b9,cA,hm⟩:=Q6 hm
 refine wC [3,4,5,6] [0,1,2,7,8] Z fn_208 Z (Q6H N aT aK aL aM l0 aN aO aP l1 aU aV aW l2 a3 a4 a5 b6 b7 aJ b8 aR aS aX _ cA) (asK [0] Z) Z (H':=V5 ..) Z ?_
 rintro _ _ _ ⟨rfl,rfl,rfl⟩
 refine Q1v Z Z Z Zq Z tZ_67 tP_67 Z (out:=V10 ..) Z (QK Z Z Z Zq Z tZ_67 Z (fun g7=>(wS 0 0 Z Q6E (all':=V10 ..) Z (H':=V10 ..) Z (Q4 (Q3 (Q2 [7,6,5,4,0] (S':=V5 ..) Z (Q5 (Q1 (wP Z (QO 6 0 Z Z Z Zq Z Z Z (cs:=V5 ..) Z Q13 Q1V Z Z ?_))))))))))
 obtain ⟨⟨aI,bS⟩,cB,hm⟩:=Q6 hm
 try dsimp only at hm
 refine wC [1,2,3,4] [0,5,6,7,8,9] Z fn_209 Z (Q9E N aT aK aL aM l0 aN aO aP l1 aU aV aW l2 a3 a4 a5 b6 b7 aJ b8 aR aS aX true _ _ cB) (asK [0] Z) Z (H':=V6 ..) Z ?_
 rintro _ _ _ ⟨aY,aZ,cI,bT,bU,bV,rfl,rfl,rfl⟩
 refine wF Z QbF (wS 5 2 Z tS_60 (all':=V10 ..) Z (H':=V11 ..) Z (Q4 (Q3 (Q2 [7,6,4,0] (S':=V4 ..) Z (Q5 (Q1 (wF Z Q7o (wD 8 3 Z QaI tA_49 Z (QO 5 0 Z Z Z Zq Z Z Z (cs:=V10 ..) Z Q6E tA_67 Z Z (QB Z Z Z Zq Z Q9j Q6E tZ_67 Z (zs:=[.int .u8 0,.int .i64 0,V1,.int .u8 0,.int .u8 0,.int .i64 0,.string ((⟨#[]⟩ : ByteArray)),.int .i64 0,.int .u8 0,V1]) (by kernel_rfl) Z (out:=V10 ..) Z (fun cX=>(QQ 1 Z (fun bF _=>?_)))))))))))))
 subst bF
 refine Q1P 1 Z (H':=V11 ..) Z (Q2n (.sli 5 Q2O aY aZ aI) (fun F w hφ=>Q1A (hφ _ (Q12 (k:=0) Z))) ?_)
 obtain ⟨bQ,hm⟩:=Qd hm
 refine Q2p ([(⟨1,b9,aI,(⟨0,(⟨0,0,(⟨#[]⟩ : ByteArray)⟩ : V),0,0,[]⟩ : Qm)⟩ : QL)]) 9 0 Z Z Z Zq Z Z Z Z Z (fun F w hφ=>⟨[.int .u8 1,.int .i64 b9,.slice aY aI.length aZ,.int .u8 0,.int .u8 0,.int .i64 0,.string ((⟨#[]⟩ : ByteArray)),.int .i64 0,.int .u8 0,V1],[],Z,Z,⟨((aY,aZ),(none,0)),Z,(Q14 (hφ _ (Q12 (k:=0) Z)) (Q14 Qaa Qu))⟩,Z⟩) Q9j tR_67 Z Z (Nat.le_trans bQ (by decide)) (Nat.le_trans (Nat.mul_le_mul_right _ bQ) (by decide)) (H2:=fun bW bX=>[_,_,_,_,_,_,_,_,_,.own 67 10 QR (.slice bW ((l9 ++ ([(⟨1,b9,aI,(⟨0,(⟨0,0,(⟨#[]⟩ : ByteArray)⟩ : V),0,0,[]⟩ : Qm)⟩ : QL)])).length) bX) (l9 ++ ([(⟨1,b9,aI,(⟨0,(⟨0,0,(⟨#[]⟩ : ByteArray)⟩ : V),0,0,[]⟩ : Qm)⟩ : QL)])),_]) (fun _ _=>Z) (fun bW bX=>(Q3R 0 Z (H':=V10 ..) Z (wF Z Q7o (wS 7 3 Z QaI (all':=V5 ..) Z (H':=V10 ..) Z (Q4 (Q3 (Q2 [6,4,0] (S':=V3 ..) Z (Q1 (wP Z (wP Z (wF Z tF_206_2 (wD 0 3 Z Q1m Q1H Z (wP Z ?_)))))))))))))
 obtain ⟨cC,hm⟩:=Qd hm
 refine Qs (d:=40) (v':=.int .i64 (a3 + 1)) (S':=V7 ..) Z Z (i64_in cC) (wP Z (wF Z tF_206_2 (wS 0 3 Z Q1m (all':=V6 ..) Z (H':=V10 ..) Z (Q4 (Qf ?_)))))
 have hE:=(Zi hm).symm
 refine QE [5,7,8,9,0,1,2,3] Z (H':=V8 ..) Z ?_
 refine Qh ((l9 ++ ([(⟨1,b9,aI,(⟨0,(⟨0,0,(⟨#[]⟩ : ByteArray)⟩ : V),0,0,[]⟩ : Qm)⟩ : QL)])),aQ,bS,a3 + 1,bW,bX,((l9 ++ ([(⟨1,b9,aI,(⟨0,(⟨0,0,(⟨#[]⟩ : ByteArray)⟩ : V),0,0,[]⟩ : Qm)⟩ : QL)])).length),bB,bD,bC,bT,bU,bV) hE [6,4] Z (asK [] Z) Z
 replace hm:=QH hm bE
 refine Q2 [13,6,5,4,0] (S':=V5 ..) Z (Q5 (Q1 (wP Z (wP Z ?_))))
 obtain ⟨bY,hm⟩:=Qd hm
 refine Qs (d:=43) (v':=.bool false) (S':=V6 ..) Z Z (Qy bY) (Q4 (Q3 (Q2 [43,13,6,5,4,0] (S':=V6 ..) Z (Q1l Z (Q2 [13,6,5,4,0] (S':=V5 ..) Z (Q5 (Q1 (wP Z (wP Z ?_)))))))))
 obtain ⟨bZ,hm⟩:=Qd hm
 refine Qs (d:=59) (v':=.bool false) (S':=V6 ..) Z Z (Qy bZ) (Q4 (Q3 (Q2 [59,13,6,5,4,0] (S':=V6 ..) Z (Q1l Z (Q2 [13,6,5,4,0] (S':=V5 ..) Z (Q5 (Q1 (wP Z (wP Z (Q4 (Q3 (Q2 [74,13,6,5,4,0] (S':=V6 ..) Z ?_))))))))))))
 refine Qt Z (fun bG=>?_) (fun bG=>?_)
 replace hm:=QI hm bG
 refine Q2 [6,5,4,0] (S':=V4 ..) Z (Q5 (Q1 (wP Z (QO 1 0 Z Z Z Zq Z Z Z (cs:=V5 ..) Z Q13 Q1V Z Z ?_))))
 obtain ⟨bA,cD,hm⟩:=Q6 hm
 refine wC [3,4,5,6] [0,1,2,7,8] Z fn_208 Z (Q6H N aT aK aL aM l0 aN aO aP l1 aU aV aW l2 a3 a4 a5 b6 b7 aJ b8 aR aS aX _ cD) (asK [0] Z) Z (H':=V5 ..) Z ?_
 rintro _ _ _ ⟨rfl,rfl,rfl⟩
 refine Q1v Z Z Z Zq Z tZ_81 tP_81 Z (out:=V4 ..) Z (QK Z Z Z Zq Z tZ_81 Z (fun cY=>(wS 0 0 Z tS_81 (all':=V4 ..) Z (H':=V10 ..) Z (Q4 (Q3 (Q2 [10,6,5,4,0] (S':=V5 ..) Z (Q5 (Q1 (wP Z (wF Z Q1B (wD 6 4 Z Q28 Q2w Z ?_)))))))))))
 obtain ⟨b0,cE,hm⟩:=Q6 hm
 refine wC [1,2,3,4] [0,5,6,7,8,9] Z fn_211 Z (Q9v N aT aK aL aM l0 aN aO aP l1 aU aV aW l2 a3 a4 a5 aR aS aX _ cE) (asK [0] Z) Z (H':=V6 ..) Z ?_
 rintro _ _ _ ⟨b1,b2,cJ,rfl,rfl,rfl⟩
 refine wF Z Q99 (wS 5 3 Z Q8N (all':=V4 ..) Z (H':=V11 ..) Z (Q4 (Q3 (Q2 [10,6,4] (S':=V3 ..) Z (Q1 (wF Z Q9R (wD 8 4 Z tS_50 tA_50 Z (QO 5 0 Z Z Z Zq Z Z Z (cs:=V4 ..) Z tS_81 tA_81 Z Z (QB Z Z Z Zq Z tE_50 tS_81 tZ_81 Z (zs:=[.int .u8 0,.int .i64 0,.int .i64 0,V1]) (by kernel_rfl) Z (out:=V4 ..) Z (fun cZ=>(QQ 1 Z (fun bH _=>?_))))))))))))
 subst bH
 refine Q1P 1 Z (H':=V11 ..) Z (Q2n (.sli 7 QA b1 b2 b0) (fun F w hφ=>Q1A (hφ _ (Q12 (k:=0) Z))) ?_)
 obtain ⟨bR,hm⟩:=Qd hm
 refine Q2p ([(⟨1,bA,0,b0⟩ : Q19)]) 10 0 Z Z Z Zq Z Z Z Z Z (fun F w hφ=>⟨[.int .u8 1,.int .i64 bA,.int .i64 0,.slice b1 b0.length b2],[],Z,Z,⟨(b1,b2),Z,(Q14 (hφ _ (Q12 (k:=0) Z)) Qu)⟩,Z⟩) tE_50 tR_81 Z Z (Nat.le_trans bR (by decide)) (Nat.le_trans (Nat.mul_le_mul_right _ bR) (by decide)) (H2:=fun c0 c1=>[_,_,_,_,_,_,_,_,_,_,.own 81 4 QZ (.slice c0 ((aQ ++ ([(⟨1,bA,0,b0⟩ : Q19)])).length) c1) (aQ ++ ([(⟨1,bA,0,b0⟩ : Q19)]))]) (fun _ _=>Z) (fun c0 c1=>(Q3R 0 Z (H':=V10 ..) Z (wF Z Q9R (wS 7 4 Z tS_50 (all':=V5 ..) Z (H':=V10 ..) Z (Q4 (Qf ?_))))))
 have hE:=(Zi hm).symm
 refine QE [5,7,8,9,0,1,2,3] Z (H':=V8 ..) Z ?_
 refine Qh (l9,(aQ ++ ([(⟨1,bA,0,b0⟩ : Q19)])),l2,a3,b3,b5,b4,c0,c1,((aQ ++ ([(⟨1,bA,0,b0⟩ : Q19)])).length),aU,aW,aV) hE [6,4] Z (asK [] Z) Z
 replace hm:=QH hm bG
 refine Q2 [13,6,5,4,0] (S':=V5 ..) Z (Q5 (Q1 (wP Z (wP Z ?_))))
 obtain ⟨c2,hm⟩:=Qd hm
 refine Qs (d:=91) (v':=.bool true) (S':=V6 ..) Z Z (Qy c2) (Q4 (Q3 (Q2 [91,13,6,5,4,0] (S':=V6 ..) Z (Q8D Z (Q2 [6,5,4,0] (S':=V4 ..) Z (Q5 ?_))))))
 obtain ⟨c3,hm⟩:=Qd hm
 obtain ⟨_,c4,hm⟩:=Q6 hm
 try dsimp only at hm
 refine QW [0,1,2,3,4,5,6,7,8,9,10,11,12,13] Z Z (fun hok=>(xP hok 0 Z (Q8 hok 1 Z Z Z Zq Z Z Z Q6y (Qn hok 2 1 2 Z Z Z Zq Z Z Z Z (cs:=[_]) Z Q1m Q1H Z Z (xP hok 3 Z (xP hok 4 Z (Q1z (d:=97) (v':=.bool false) (S':=V8 ..) Z Z (Qy c3) (Q8 hok 5 Z Z Z Zq Z Z Z Q6y (Qn hok 6 1 2 Z Z Z Zq Z Z Z Z (cs:=[_]) Z Q1m Q1H Z Z (xP hok 7 Z (xP hok 8 Z (Q8 hok 9 Z Z Z Zq Z Z Z tF_206_2 (Qn hok 10 3 3 Z Z Z Zq Z Z Z Z (cs:=[_]) Z Q1m Q1H Z Z (xP hok 11 Z ?_))))))))))))))
 refine xP hok 12 Z (Qn hok 13 1 0 Z Z Z Zq Z Z Z Z (cs:=V5 ..) Z Q13 Q1V Z Z (xS hok 14 Z (wC [3,4,5,6] [0,1,2,7,8] Z Qa2 Z (Q1s N aT aK aL aM l0 aN aO aP l1 aU aV aW l2 a3 a4 a5 (decide (aJ > a3)) 214 b6 b7 aJ b8 aR aS aX c4) (asK [0] Z) Z (H':=V5 ..) Z ?_)))
 rintro _ _ _ ⟨rfl,rfl,rfl⟩
 refine Q4 (QJ [0] [0,5,5] Z Z (QS hok Z (Q3 (Q2 [6,5,4] (S':=V3 ..) Z (Q1 (wF Z Q9R (wD 6 4 Z tS_50 tA_50 Z (wF Z Q6y (wD 5 2 Z Q1m Q1H Z (wP Z ?_))))))))))
 obtain ⟨c5,hm⟩:=Qd hm
 refine Qs (d:=112) (v':=.int .i64 (aJ - 1)) (S':=V7 ..) Z Z (i64_in c5) (Q1v Z Z Z Zq Z tZ_81 tP_81 Z (out:=V4 ..) Z (QB Z Z Z Zq Z tE_50 tS_81 tZ_81 Z (zs:=[.int .u8 0,.int .i64 0,.int .i64 0,V1]) (by kernel_rfl) Z (out:=V4 ..) Z (fun cW=>?_)))
 obtain ⟨bI,hm⟩:=Qd hm
 refine Q2p ([(⟨2,0,aJ - 1,[]⟩ : Q19)]) 9 0 Z Z Z Zq Z Z Z Z Z (fun F w hφ=>⟨[.int .u8 2,.int .i64 0,.int .i64 (aJ - 1),V1],[],Z,Z,⟨(none,0),Z,(Q14 Qaa Qu)⟩,Z⟩) tE_50 tR_81 Z Z (Nat.le_trans bI (by decide)) (Nat.le_trans (Nat.mul_le_mul_right _ bI) (by decide)) (H2:=fun bJ bK=>[_,_,_,_,_,_,_,_,_,.own 81 4 QZ (.slice bJ ((aQ ++ ([(⟨2,0,aJ - 1,[]⟩ : Q19)])).length) bK) (aQ ++ ([(⟨2,0,aJ - 1,[]⟩ : Q19)]))]) (fun _ _=>Z) (fun bJ bK=>(Q3R 0 Z (H':=V9 ..) Z (wF Z Q9R (wS 6 4 Z tS_50 (all':=V5 ..) Z (H':=V9 ..) Z (Q4 (Qf ?_))))))
 have hE:=(Zi hm).symm
 refine QE [4,6,7,8,0,1,2,3] Z (H':=V8 ..) Z ?_
 refine Qh (l9,(aQ ++ ([(⟨2,0,aJ - 1,[]⟩ : Q19)])),l2,a3,b3,b5,b4,bJ,bK,((aQ ++ ([(⟨2,0,aJ - 1,[]⟩ : Q19)])).length),aU,aW,aV) hE [6,4] Z (asK [] Z) Z
 rintro ⟨aF,aG,aE,aH,a1,a9,aA,aB,aC,aD,s,z,a0⟩ hE
 try dsimp only
 have hm:=hLj_1
 try rw [hE] at hm
 try dsimp only at hm
 refine Q5 (Q1 (QO 1 0 Z Z Z Zq Z Z Z (cs:=V5 ..) Z Q5X tA_52 Z Z (wS 0 0 Z Q5X (all':=V5 ..) Z (H':=V8 ..) Z (Q4 (Q3 (Q2 [6] (S':=[_]) Z (Qo ?_)))))))
 have hE:=(Zi hm).symm
 obtain ⟨hE0,hF1⟩:=Prod.mk.inj hE
 obtain ⟨hE1,hF2⟩:=Prod.mk.inj hF1
 obtain ⟨hE2,hE3⟩:=Prod.mk.inj hF2
 clear hE hF1 hF2
 replace hE0:=hE0.symm
 subst hE0
 replace hE1:=hE1.symm
 subst hE1
 replace hE2:=hE2.symm
 subst hE2
 replace hE3:=hE3.symm
 subst hE3
 refine Qp (Hr:=V6 ..) [2,3,4,5,6,7] Tryz.results175 (Q1e 0 Z Z Q5X tA_52 Z Z) ⟨a1,a9,aA,aB,aC,aD,s,z,a0,Z,Z,Z⟩ (asK [] Z) Z Z (.inl Z)
theorem Q9F (N:Nat) (b5:Nat) (b1:OA) (b2:Nat) (b3:Nat) (l0:List Ql) (b7:OA) (b8:Nat) (b9:Nat) (l1:List Qi) (bB:OA) (bC:Nat) (bD:Nat) (l2:List ByteArray) (a3:Int) (a4:Int) (a5:Int) (a6:Int) (a7:ByteArray) (a8:Int) (a9:Int) (aW:OA) (aX:Nat) (aV:List Qe) (o2:List Qi) (o6:List ByteArray) (o8:Int) (hm:Q5p N l0 l1 l2 a3 a4 a5 a6 a7 a8 a9 aV = some (o2,o6,o8)):Q17 Tryz.prog 130 [.pointer (some ⟨b5,0,none⟩),.agg #[.int .u8 a6,.string a7,.int .i64 a8,.int .i64 a9,.slice aW aV.length aX]] [.sli 5 Qq aW aX aV] [.blk b5 [.slice b1 b2 b3,.slice b7 b8 b9,.slice bB bC bD,.int .i64 a3,.int .i64 a4,.int .i64 a5] 206,.own 69 2 Qb (.slice b1 b2 b3) l0,.own 52 5 Qa (.slice b7 b8 b9) l1,.own 9 1 Q1u (.slice bB bC bD) l2] (fun v Φr Hr=>∃ (o0:OA) (o1:Nat) (o3:Nat) (o4:OA) (o5:Nat) (o7:Nat),v = .tuple #[] ∧ Φr = [] ∧ Hr = [.blk b5 [.slice b1 b2 b3,.slice o0 o3 o1,.slice o4 o7 o5,.int .i64 o8,.int .i64 a4,.int .i64 a5] 206,.own 69 2 Qb (.slice b1 b2 b3) l0,.own 52 5 Qa (.slice o0 o3 o1) o2,.own 9 1 Q1u (.slice o4 o7 o5) o6,.own 9 1 Q1u (.slice bB bC bD) l2]):=by
 unfold Q5p at hm
 refine QC Tryz.func130 Z Tryz.ntmps130 Z (S:=[_,_]) Z (fun C=>(Q5 (Q1 (wB Z (fun g3=>(Q4 (Q3 (Q2 [3,0] (S':=[_,_]) Z (Q5 (Q5 (Q1 (wP Z (Q4 (Q3 (Qw ?_)))))))))))))))
 refine Q1j (σ:=Unit) (fun _=>True) (fun _=>0) (fun _=>[(4,.int .i64 0),(3,.pointer (some ⟨g3,0,none⟩)),(0,.pointer (some ⟨b5,0,none⟩))]) (fun _=>[.sli 5 Qq aW aX aV]) (fun _=>[.blk g3 [.int .u8 a6,.string a7,.int .i64 a8,.int .i64 a9,.slice aW aV.length aX] 159,.blk b5 [.slice b1 b2 b3,.slice b7 b8 b9,.slice bB bC bD,.int .i64 a3,.int .i64 a4,.int .i64 a5] 206,.own 69 2 Qb (.slice b1 b2 b3) l0,.own 52 5 Qa (.slice b7 b8 b9) l1,.own 9 1 Q1u (.slice bB bC bD) l2]) () trivial [4,3,0] Z (asK [0] Z) Z (fun _ _=>?_)
 try dsimp only
 refine Q5 (Q5 (Q1 (wP Z (wP Z (wP Z (wF Z Q7E (wF Z Q6Z (wD 1 1 Z Qai QaD Z (QQ 3 Z (fun cT _=>(wN Z Q8x (Qs (d:=15) (v':=.int .i64 ((l1.length:Nat):Int)) (S':=V9 ..) Z Z (Q7a cT) (wP Z (Qs (d:=16) (v':=.bool (decide (0 < l1.length))) (S':=V10 ..) Z Z (Q2l (a:=0) (b:=l1.length)) ?_))))))))))))))
 obtain ⟨cJ,hm⟩:=Qd hm
 refine Qs (d:=16) (v':=.bool false) (S':=V10 ..) Z Z (Qy cJ) (Q4 (Q3 (Q2 [16,4,3,0] (S':=V4 ..) Z (Q1l Z (Q2 [3,0] (S':=[_,_]) Z (Q1g (Qj (Qj (QD (Q3 (Q5 (Q1 (wP Z ?_)))))))))))))
 refine Q4 (Q3 (Q5 ?_))
 obtain ⟨cG,hm,hLj_1⟩:=Q6 hm
 refine QM (σ:=Nat) (fun b4=>cG = b4) (fun b4=>[(3,.pointer (some ⟨g3,0,none⟩)),(0,.pointer (some ⟨b5,0,none⟩)),(5,.int .i64 ((b4:Nat):Int))]) (fun b4=>[.sli 5 Qq aW aX aV]) (fun b4=>[.blk g3 [.int .u8 a6,.string a7,.int .i64 a8,.int .i64 a9,.slice aW aV.length aX] 159,.blk b5 [.slice b1 b2 b3,.slice b7 b8 b9,.slice bB bC bD,.int .i64 a3,.int .i64 a4,.int .i64 a5] 206,.own 69 2 Qb (.slice b1 b2 b3) l0,.own 52 5 Qa (.slice b7 b8 b9) l1,.own 9 1 Q1u (.slice bB bC bD) l2]) ?_ ?_
 refine Q5 (Q1 (wP Z (Q4 (Q3 (Qw (Q1j (σ:=Nat × Nat × Nat) (fun (bN,aZ,bA)=>Q1h (Q4x N aV) bN (aZ,bA) = some cG) (fun (bN,aZ,bA)=>bN) (fun (bN,aZ,bA)=>[(6,.int .i64 ((aZ:Nat):Int)),(5,.int .i64 ((bA:Nat):Int)),(3,.pointer (some ⟨g3,0,none⟩)),(0,.pointer (some ⟨b5,0,none⟩))]) (fun (bN,aZ,bA)=>[.sli 5 Qq aW aX aV]) (fun (bN,aZ,bA)=>[.blk g3 [.int .u8 a6,.string a7,.int .i64 a8,.int .i64 a9,.slice aW aV.length aX] 159,.blk b5 [.slice b1 b2 b3,.slice b7 b8 b9,.slice bB bC bD,.int .i64 a3,.int .i64 a4,.int .i64 a5] 206,.own 69 2 Qb (.slice b1 b2 b3) l0,.own 52 5 Qa (.slice b7 b8 b9) l1,.own 9 1 Q1u (.slice bB bC bD) l2]) (N,0,0) hm [6,5,3,0] Z (asK [0] Z) Z (fun s_ hm=>?_)))))))
 obtain ⟨bN,aZ,bA⟩:=s_
 try dsimp only at hm ⊢
 obtain ⟨dO,dP,cU,hq,hLu2⟩:=QV hm
 clear hm
 subst cU
 replace hm:=hq
 clear hq
 unfold Q4x at hm
 try dsimp only at hm
 refine Q5 (Q5 (Q1 (wP Z (wF Z Q1B (wD 0 4 Z Q28 Q2w Z (wN Z Q1S (wP Z (Qs (d:=38) (v':=.bool (decide (aZ < aV.length))) (S':=V8 ..) Z Z (Q2l (a:=aZ) (b:=aV.length)) (Q4 (Q3 (Q2 [38,6,5,3,0] (S':=V5 ..) Z ?_)))))))))))
 refine Qt Z (fun bU=>?_) (fun bU=>?_)
 replace hm:=QI hm bU
 refine Q2 [6,5,3,0] (S':=V4 ..) Z (Qr (Q3 (Q5 ?_)))
 obtain ⟨cV,hm,hLj_2⟩:=Q6 hm
 refine QM (σ:=Nat) (fun bE=>cV = bE) (fun bE=>[(6,.int .i64 ((aZ:Nat):Int)),(5,.int .i64 ((bE:Nat):Int)),(3,.pointer (some ⟨g3,0,none⟩)),(0,.pointer (some ⟨b5,0,none⟩))]) (fun bE=>[.sli 5 Qq aW aX aV]) (fun bE=>[.blk g3 [.int .u8 a6,.string a7,.int .i64 a8,.int .i64 a9,.slice aW aV.length aX] 159,.blk b5 [.slice b1 b2 b3,.slice b7 b8 b9,.slice bB bC bD,.int .i64 a3,.int .i64 a4,.int .i64 a5] 206,.own 69 2 Qb (.slice b1 b2 b3) l0,.own 52 5 Qa (.slice b7 b8 b9) l1,.own 9 1 Q1u (.slice bB bC bD) l2]) ?_ ?_
 refine Qw (Q5 (Q1 (wF Z Q1B (wD 0 4 Z Q28 Q2w Z (wP Z ?_)))))
 obtain ⟨bV,cW,hm⟩:=Q6 hm
 refine Q1a 0 aZ Z Z Z Zq Z Z Z Z Z cW Q1S Q13 (fun dQ dR dK d9=>(Q1G Q1q 1 Z (fun cX cY _=>?_)))
 subst cY
 refine Q1F 1 0 Z Z Z Zq Z Z Z (cs:=V5 ..) Z Q13 Q1V Z Z ?_
 obtain ⟨dS,cZ,hm⟩:=Q6 hm
 refine wC [] [0,1,2,3,4] Z fn_174 Z (QbU N bV.kind bV.text bV.num bV.at_ cX.1 cX.2 bV.kids _ cZ) (asK [0] Z) Z (H':=V5 ..) Z ?_
 rintro _ _ _ ⟨rfl,rfl,rfl⟩
 refine Q4 (Q3 (Q2 [46,6,5,3,0] (S':=V5 ..) Z ?_))
 refine Qt Z (fun bW=>?_) (fun bW=>?_)
 replace hm:=QI hm bW
 refine Q2 [6,5,3,0] (S':=V4 ..) Z (Q1 (wP Z (wP Z ?_)))
 obtain ⟨d0,hm⟩:=Qd hm
 refine Qs (d:=48) (v':=.int .i64 ((bA + 1:Nat):Int)) (S':=V5 ..) Z Z (Q1r (a:=bA) (b:=1) d0) (QT (S':=V5 ..) Z Z Z Z Z (Q4 (Qf ?_)))
 have hE:=(Zi hm).symm
 refine Qh (bA + 1) hE [6,5,3,0] Z (asK [3] Z) Z
 replace hm:=QH hm bW
 refine Q2 [6,5,3,0] (S':=V4 ..) Z (Qr (Qf ?_))
 have hE:=(Zi hm).symm
 refine Qh bA hE [6,5,3,0] Z (asK [3] Z) Z
 rintro bE hE
 try dsimp only
 have hm:=hLj_2
 try rw [hE] at hm
 refine Q1 (wP Z (wP Z ?_))
 obtain ⟨d1,hm⟩:=Qd hm
 refine Qs (d:=40) (v':=.int .i64 ((aZ + 1:Nat):Int)) (S':=V5 ..) Z Z (Q1r (a:=aZ) (b:=1) d1) (QT (S':=V5 ..) Z Z Z Z Z (Q4 ?_))
 have hE:=(Zi hm).symm
 replace hE:=QF hLu2 hE
 refine QU (_,aZ + 1,bE) (Nat.lt_succ_self _) hE [6,5,3,0] Z (asK [0] Z) Z
 replace hm:=QH hm bU
 refine Q2 [5,3,0] (S':=V3 ..) Z (Q1g (Qj (Qj (QD ?_))))
 have hE:=(Zi hm).symm
 replace hE:=Qx hLu2 hE
 refine Qh bA hE [3,0,5] Z (asK [0] Z) Z
 rintro b4 hE
 try dsimp only
 have hm:=hLj_1
 try rw [hE] at hm
 refine Q5 (Q1 (wP Z (wF Z Q6y (wD 0 2 Z Q1m Q1H Z (wP Z (wP Z ?_))))))
 obtain ⟨cK,hm⟩:=Qd hm
 refine Qs (d:=53) (v':=.bool false) (S':=V7 ..) Z Z (Qy cK) (wF Z Q6y (wD 0 2 Z Q1m Q1H Z (wP Z (wP Z (QO 0 0 Z Z Z Zq Z Z Z (cs:=V5 ..) Z Q13 Q1V Z Z ?_)))))
 obtain ⟨_,d2,hm⟩:=Q6 hm
 try dsimp only at hm
 refine wC [1,2,3,4] [0] Z Qa2 Z (Q1s N b5 b1 b2 b3 l0 b7 b8 b9 l1 bB bC bD l2 a3 a4 a5 (decide (a8 > 1000)) 2 a6 a7 a8 a9 aW aX aV d2) (asK [0] Z) Z (H':=[_]) Z ?_
 rintro _ _ _ ⟨rfl,rfl,rfl⟩
 refine Q4 (Q3 (Q2 [3,0,5] (S':=V3 ..) Z (Q5 ?_)))
 obtain ⟨cL,hm⟩:=Qd hm
 obtain ⟨cM,hm⟩:=Qd hm
 obtain ⟨d3,hm⟩:=Qd hm
 obtain ⟨_,d4,hm⟩:=Q6 hm
 try dsimp only at hm
 refine QW [0,1,2,3,4,5,6,7,8,9,10,11,12,13,14,15,16,17,18,19,20] Z Z (fun hok=>(xP hok 0 Z (xP hok 1 Z (xP hok 2 Z (Q8 hok 3 Z Z Z Zq Z Z Z Q7E (Q8 hok 4 Z Z Z Zq Z Z Z Q6Z (Qn hok 5 0 1 Z Z Z Zq Z Z Z Z (cs:=[_]) Z Qai QaD Z Z (Qbm 2 Z (fun d5 _=>(Q66 hok 6 Z Z Z Zq Z Z Z Q8x (Q1z (d:=66) (v':=.int .i64 ((l1.length:Nat):Int)) (S':=V9 ..) Z Z (Q7a d5) (xP hok 7 Z (Q1z (d:=67) (v':=.bool (decide (64 ≤ l1.length))) (S':=V10 ..) Z Z (natge (a:=l1.length) (b:=64)) (xP hok 8 Z (Q1z (d:=68) (v':=.bool false) (S':=V11 ..) Z Z (Qy cL) ?_)))))))))))))))
 refine xP hok 9 Z (xP hok 10 Z (Q1z (d:=70) (v':=.bool (decide (8 < b4))) (S':=V13 ..) Z Z (natgt (a:=b4) (b:=8)) (xP hok 11 Z (xP hok 12 Z (Q1z (d:=72) (v':=.bool false) (S':=V15 ..) Z Z (Qy cM) (Q8 hok 13 Z Z Z Zq Z Z Z Q1B (Qn hok 14 4 4 Z Z Z Zq Z Z Z Z (cs:=[_]) Z Q28 Q2w Z Z (Q66 hok 15 Z Z Z Zq Z Z Z Q1S (xP hok 16 Z (xP hok 17 Z (Q1z (d:=77) (v':=.int .i64 (((aV.length:Nat):Int) - ((b4:Nat):Int))) (S':=V20 ..) Z Z (i64_in d3) (xP hok 18 Z (xP hok 19 Z ?_)))))))))))))
 refine Qn hok 20 4 0 Z Z Z Zq Z Z Z Z (cs:=V5 ..) Z Q13 Q1V Z Z (xS hok 21 Z (wC [0,1,2,3] [4] Z Qa2 Z (Q1s N b5 b1 b2 b3 l0 b7 b8 b9 l1 bB bC bD l2 a3 a4 a5 (decide ((((aV.length:Nat):Int) - ((b4:Nat):Int)) > 8)) 204 a6 a7 a8 a9 aW aX aV d4) (asK [0] Z) Z (H':=[_]) Z ?_))
 rintro _ _ _ ⟨rfl,rfl,rfl⟩
 refine Q4 (QJ [0] [4,0] Z Z (QS hok Z (Q3 (Q2 [3,0] (S':=[_,_]) Z (Q5 (Q1 (wP Z (wP Z (wF Z Q80 (wS 0 2 Z Q7F (all':=V6 ..) Z (H':=V5 ..) Z (Q4 (Q3 (Q2 [3,0] (S':=[_,_]) Z ?_)))))))))))))
 refine Q5 (Q1 (wP Z (wP Z (wF Z tF_206_2 (wS 0 3 Z Q1m (all':=V6 ..) Z (H':=V5 ..) Z (Q4 (Q3 (Q2 [3,0] (S':=[_,_]) Z (Q5 (Q1 (wF Z Q2x (wD 4 1 Z Q2e Q3O Z (wF Z Q6y ?_)))))))))))))
 refine wD 4 2 Z Q1m Q1H Z (Q1v Z Z Z Zq Z tZ_52 tP_52 Z (out:=V5 ..) Z (QK Z Z Z Zq Z tZ_52 Z (fun g7=>(wS 0 0 Z Q5X (all':=V5 ..) Z (H':=V6 ..) Z (Q4 (Q3 (Q2 [7,3,0] (S':=V3 ..) Z (Q5 ?_))))))))
 obtain ⟨cH,hm,hLj_3⟩:=Q6 hm
 refine QM (σ:=(List QL) × (List Q19) × (List ByteArray) × Int × OA × Nat × Nat × OA × Nat × Nat × OA × Nat × Nat) (fun (s,z,a0,aY,aI,aJ,aT,aK,aL,aU,aP,aQ,aR)=>cH = (s,z,a0,aY)) (fun (s,z,a0,aY,aI,aJ,aT,aK,aL,aU,aP,aQ,aR)=>[(7,.pointer (some ⟨g7,0,none⟩)),(0,.pointer (some ⟨b5,0,none⟩))]) (fun (s,z,a0,aY,aI,aJ,aT,aK,aL,aU,aP,aQ,aR)=>[]) (fun (s,z,a0,aY,aI,aJ,aT,aK,aL,aU,aP,aQ,aR)=>[.blk g7 [.string a7,.int .i64 a8,.int .i64 0,.slice aI aT aJ,.slice aK aU aL] 52,.own 67 10 QR (.slice aI aT aJ) s,.own 81 4 QZ (.slice aK aU aL) z,.blk b5 [.slice b1 b2 b3,.slice b7 b8 b9,.slice aP aR aQ,.int .i64 aY,.int .i64 a4,.int .i64 a5] 206,.own 69 2 Qb (.slice b1 b2 b3) l0,.own 52 5 Qa (.slice b7 b8 b9) l1,.own 9 1 Q1u (.slice aP aR aQ) a0,.own 9 1 Q1u (.slice bB bC bD) l2]) ?_ ?_
 refine Q5 (Q1 (wP Z (Q4 (Q3 (Qw (Q5b 67 10 QR (Q5b 81 4 QZ (Q5b 9 1 Q1u (Q7M [3,2,1,8,4,5,6,0,7] Z (H':=V9 ..) Z (Q1j (σ:=Nat × Nat × (List QL) × (List Q19) × (List ByteArray) × Int × OA × Nat × Nat × OA × Nat × Nat × OA × Nat × Nat) (fun (bO,b0,a1,aA,aM,aS,aB,aC,aN,aD,aE,aO,aF,aG,aH)=>Q1h (Q4y N aV a4 l0 l1 a5 a7 a8) bO (b0,a1,aA,aM,aS) = some cH) (fun (bO,b0,a1,aA,aM,aS,aB,aC,aN,aD,aE,aO,aF,aG,aH)=>bO) (fun (bO,b0,a1,aA,aM,aS,aB,aC,aN,aD,aE,aO,aF,aG,aH)=>[(8,.int .i64 ((b0:Nat):Int)),(7,.pointer (some ⟨g7,0,none⟩)),(3,.pointer (some ⟨g3,0,none⟩)),(0,.pointer (some ⟨b5,0,none⟩))]) (fun (bO,b0,a1,aA,aM,aS,aB,aC,aN,aD,aE,aO,aF,aG,aH)=>[.sli 5 Qq aW aX aV]) (fun (bO,b0,a1,aA,aM,aS,aB,aC,aN,aD,aE,aO,aF,aG,aH)=>[.blk g7 [.string a7,.int .i64 a8,.int .i64 0,.slice aB aN aC,.slice aD aO aE] 52,.own 67 10 QR (.slice aB aN aC) a1,.own 81 4 QZ (.slice aD aO aE) aA,.blk g3 [.int .u8 a6,.string a7,.int .i64 a8,.int .i64 a9,.slice aW aV.length aX] 159,.blk b5 [.slice b1 b2 b3,.slice b7 b8 b9,.slice aF aH aG,.int .i64 aS,.int .i64 a4,.int .i64 a5] 206,.own 69 2 Qb (.slice b1 b2 b3) l0,.own 52 5 Qa (.slice b7 b8 b9) l1,.own 9 1 Q1u (.slice aF aH aG) aM,.own 9 1 Q1u (.slice bB bC bD) l2]) (N,0,[],[],[],0,none,0,0,none,0,0,none,0,0) hm [8,7,3,0] Z (asK [0] Z) Z (fun s_ hm=>?_)))))))))))
 obtain ⟨bO,b0,a1,aA,aM,aS,aB,aC,aN,aD,aE,aO,aF,aG,aH⟩:=s_
 try dsimp only at hm ⊢
 obtain ⟨dT,dU,d6,hq,hLu3⟩:=QV hm
 clear hm
 subst d6
 replace hm:=hq
 clear hq
 unfold Q4y at hm
 try dsimp only at hm
 refine Q5 (Q5 ?_)
 obtain ⟨d7,hm,hLj_4⟩:=Q6 hm
 refine QM (σ:=Bool) (fun b6=>d7 = b6) (fun b6=>[(8,.int .i64 ((b0:Nat):Int)),(7,.pointer (some ⟨g7,0,none⟩)),(3,.pointer (some ⟨g3,0,none⟩)),(0,.pointer (some ⟨b5,0,none⟩)),(105,.bool b6)]) (fun b6=>[.sli 5 Qq aW aX aV]) (fun b6=>[.blk g7 [.string a7,.int .i64 a8,.int .i64 0,.slice aB aN aC,.slice aD aO aE] 52,.own 67 10 QR (.slice aB aN aC) a1,.own 81 4 QZ (.slice aD aO aE) aA,.blk g3 [.int .u8 a6,.string a7,.int .i64 a8,.int .i64 a9,.slice aW aV.length aX] 159,.blk b5 [.slice b1 b2 b3,.slice b7 b8 b9,.slice aF aH aG,.int .i64 aS,.int .i64 a4,.int .i64 a5] 206,.own 69 2 Qb (.slice b1 b2 b3) l0,.own 52 5 Qa (.slice b7 b8 b9) l1,.own 9 1 Q1u (.slice aF aH aG) aM,.own 9 1 Q1u (.slice bB bC bD) l2]) ?_ ?_
 refine Q1 (wP Z (wF Z Q1B (wD 3 4 Z Q28 Q2w Z (wN Z Q1S (wP Z (Qs (d:=97) (v':=.bool (decide (b0 < aV.length))) (S':=V8 ..) Z Z (Q2l (a:=b0) (b:=aV.length)) (wP Z ?_)))))))
 refine QG (d:=98) (S':=V9 ..) Z Z (fun bX=>?_) (fun bX=>?_)
 replace hm:=QI hm bX
 refine wP Z (wP Z (wF Z tF_206_3 (wF Z Qb8 (wD 4 4 Z tS_32 tA_32 Z (wP Z (wP Z (Q4 ?_)))))))
 have hE:=(Zi hm).symm
 refine Qh (a4 == 0) hE [8,7,3,0,105] Z (asK [0] Z) Z
 replace hm:=QH hm bX
 refine wO Z (wO Z (wO Z (wO Z (wO Z (wO Z (wP Z (Q4 ?_)))))))
 have hE:=(Zi hm).symm
 refine Qh false hE [8,7,3,0,105] Z (asK [0] Z) Z
 rintro b6 hE
 try dsimp only
 have hm:=hLj_4
 try rw [hE] at hm
 refine Qt Z (fun bP=>?_) (fun bP=>?_)
 replace hm:=QI hm bP
 refine Q2 [8,7,3,0] (S':=V4 ..) Z (Qr (Q3 (Q5 (Qw ?_))))
 obtain ⟨bM,cN,hm⟩:=Q6 hm
 obtain ⟨⟨c3,c4,c5,c6⟩,cO,hm⟩:=Q6 hm
 try dsimp only at hm
 refine QW [0,1,2,3,4,5,6] Z Z (fun hok=>(xP hok 0 Z (Qn hok 1 0 0 Z Z Z Zq Z Z Z Z (cs:=V5 ..) Z Q5X tA_52 Z Z (Q8 hok 2 Z Z Z Zq Z Z Z Q1B (Qn hok 3 3 4 Z Z Z Zq Z Z Z Z (cs:=[_]) Z Q28 Q2w Z Z (xP hok 4 Z (Q2P hok 5 0 b0 Z Z Z Zq Z Z Z Z Z Z cN Q1S Q13 (fun dL dM dA d8=>(Q3s Q1q 1 Z (fun cI cP _=>?_))))))))))
 subst cP
 refine Q4N hok 6 1 0 Z Z Z Zq Z Z Z Z (cs:=V5 ..) Z Q13 Q1V Z Z (xS hok 7 Z (QQ 1 Z (fun bK _=>?_)))
 subst bK
 refine QQ 2 Z (fun bL _=>?_)
 subst bL
 refine wC [4,5,6,7,1,2] [0,3,8] Z fn_175 Z (Q8J N b5 b1 b2 b3 l0 b7 b8 b9 l1 aF aH aG aM aS a4 a5 a7 a8 0 aB a1.length aC a1 aD aA.length aE aA bM.kind bM.text bM.num bM.at_ cI.1 cI.2 bM.kids _ _ _ _ cO) (asK [0] Z) Z (H':=V3 ..) Z ?_
 rintro _ _ _ ⟨c7,c8,c9,cA,cB,cC,cD,cE,cF,rfl,rfl,rfl⟩
 refine Q4 (QJ [0,1,2,3] [7] Z Z (xS hok 8 Z (wS 6 0 Z Q5X (all':=V5 ..) Z (H':=V9 ..) Z (Q4 (QJ [0,1,2,3] [] Z Z (QS hok Z (Qf (Q3 (Q2 [8,7,3,0] (S':=V4 ..) Z (Q1 (wP Z (wP Z ?_))))))))))))
 obtain ⟨cQ,hm⟩:=Qd hm
 refine Qs (d:=107) (v':=.int .i64 ((b0 + 1:Nat):Int)) (S':=V5 ..) Z Z (Q1r (a:=b0) (b:=1) cQ) (QT (S':=V5 ..) Z Z Z Z Z (Q4 ?_))
 have hE:=(Zi hm).symm
 replace hE:=QF hLu3 hE
 refine QE [6,0,1,7,2,3,4,5,8] Z (H':=V9 ..) Z ?_
 refine QU (_,b0 + 1,c3,c4,c5,c6,c7,c8,c9,cA,cB,cC,cD,cE,cF) (Nat.lt_succ_self _) hE [8,7,3,0] Z (asK [3] Z) Z
 replace hm:=QH hm bP
 refine Q2 [7,0] (S':=[_,_]) Z (Q1g (Qj (Qj (QD ?_))))
 have hE:=(Zi hm).symm
 replace hE:=Qx hLu3 hE
 refine QE [0,1,2,4,5,6,7,8] Z (H':=V8 ..) Z ?_
 refine Qh (a1,aA,aM,aS,aB,aC,aN,aD,aE,aO,aF,aG,aH) hE [7,0] Z (asK [] Z) Z
 rintro ⟨s,z,a0,aY,aI,aJ,aT,aK,aL,aU,aP,aQ,aR⟩ hE
 try dsimp only
 have hm:=hLj_3
 try rw [hE] at hm
 try dsimp only at hm
 refine Q5 (Q1 (wP Z (wP Z (wF Z Q80 (wD 3 2 Z Q7F Qac Z (QQ 6 Z (fun cR _=>(wN Z Q22 (Qs (d:=120) (v':=.int .i64 ((a0.length:Nat):Int)) (S':=V6 ..) Z Z (Q7a cR) (wF Z QbE (wS 0 2 Z Q1m (all':=V5 ..) Z (H':=V8 ..) Z (Q4 (Q3 (Q2 [7,0] (S':=[_,_]) Z ?_))))))))))))))
 obtain ⟨bY,hm⟩:=Qd hm
 refine QW [0,1,2,3,4,5,9,10,11] Z Z (fun hok=>(xP hok 0 Z (xP hok 1 Z (xP hok 2 Z (Q8 hok 3 Z Z Z Zq Z Z Z Q7E (Q8 hok 4 Z Z Z Zq Z Z Z Q6Z (Qn hok 5 3 1 Z Z Z Zq Z Z Z Z (cs:=[_]) Z Qai QaD Z Z (xS hok 6 Z (QO 0 0 Z Z Z Zq Z Z Z (cs:=V5 ..) Z Q5X tA_52 Z Z (Q4 (QJ [] [3] Z Z (xS hok 7 Z (QB Z Z Z Zq Z Q8x Q5X tZ_52 Z (zs:=[.string ((⟨#[]⟩ : ByteArray)),.int .i64 0,.int .i64 0,V1,V1]) (by kernel_rfl) Z (out:=V5 ..) Z (fun dN=>(Q4 ?_)))))))))))))))
 refine QJ [] [4] Z Z (xS hok 8 Z (QQ 2 Z (fun bH _=>?_)))
 subst bH
 refine Q1P 2 Z (H':=V8 ..) Z (Q2n (.sli 10 QR aI aJ s) (fun F w hφ=>Q1A (hφ _ (Q12 (k:=0) Z))) (QQ 2 Z (fun bI _=>?_)))
 subst bI
 refine Q1P 2 Z (H':=V7 ..) Z (Q2n (.sli 4 QZ aK aL z) (fun F w hφ=>Q1A (hφ _ (Q12 (k:=0) Z))) (Q2p ([(⟨a7,a8,(((a0.length:Nat):Int)),s,z⟩ : Qi)]) 4 0 Z Z Z Zq Z Z Z Z Z (fun F w hφ=>⟨[.string a7,.int .i64 a8,.int .i64 ((a0.length:Nat):Int),.slice aI s.length aJ,.slice aK z.length aL],[],Z,Z,⟨((aI,aJ),(aK,aL)),Z,(Q14 (hφ _ (Q12 (k:=2) Z)) (Q14 (hφ _ (Q12 (k:=0) Z)) Qu))⟩,Z⟩) Q8x tR_52 Z Z (Nat.le_trans bY (by decide)) (Nat.le_trans (Nat.mul_le_mul_right _ bY) (by decide)) (H2:=fun bZ c0=>[_,_,_,_,.own 52 5 Qa (.slice bZ ((l1 ++ ([(⟨a7,a8,(((a0.length:Nat):Int)),s,z⟩ : Qi)])).length) c0) (l1 ++ ([(⟨a7,a8,(((a0.length:Nat):Int)),s,z⟩ : Qi)])),_,_]) (fun _ _=>Z) (fun bZ c0=>(Q3R 0 Z (H':=V6 ..) Z (Q4 (QJ [] [] Z Z (xP hok 9 Z (Q8 hok 10 Z Z Z Zq Z Z Z Q7E (Q8 hok 11 Z Z Z Zq Z Z Z Q6Z (xS hok 12 Z (wS 1 1 Z Qai (all':=V6 ..) Z (H':=V6 ..) Z (Q4 (QJ [0,1,2,3] [] Z Z (QS hok Z ?_))))))))))))))
 have hE:=(Zi hm).symm
 obtain ⟨hE0,hF1⟩:=Prod.mk.inj hE
 obtain ⟨hE1,hE2⟩:=Prod.mk.inj hF1
 clear hE hF1
 replace hE0:=hE0.symm
 subst hE0
 replace hE1:=hE1.symm
 subst hE1
 replace hE2:=hE2.symm
 subst hE2
 refine Q6v (Hr:=V5 ..) [1,2,3,4,5] Tryz.results130 ⟨bZ,c0,(l1 ++ ([(⟨a7,a8,(((a0.length:Nat):Int)),s,z⟩ : Qi)])).length,aP,aQ,aR,Z,Z,Z⟩ (asK [] Z) Z Z (.inr Z)
end Go.Proofs.YtbgodclhmgmcgaaGreatDoor
