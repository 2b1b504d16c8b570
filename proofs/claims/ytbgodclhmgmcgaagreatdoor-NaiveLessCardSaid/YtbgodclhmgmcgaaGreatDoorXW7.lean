import Derived.Test.YtbgodclhmgmcgaaGreatDoorXW6
namespace Go.Proofs.YtbgodclhmgmcgaaGreatDoor
open Go.RowKit
set_option maxRecDepth 100000
set_option maxHeartbeats 4000000
theorem Q9H (N:Nat) (qp0:OA) (qc1:Nat) (l0:List Qz) (qg2:Nat) (a1:Int) (a2:Int) (qp3:OA) (qc4:Nat) (l3:List Q4O) (a4:Int) (a5:Int) (a6:Int) (a7:ByteArray) (a8:Int) (a9:Int) (qp5:OA) (qc6:Nat) (l10:List Qm) (qg7:Nat) (qp8:OA) (qc9:Nat) (l11:List Bool) (qp10:OA) (qc11:Nat) (l12:List V) (o0:Bool) (hm:Q3M N l0 a1 a2 l3 a4 a5 a6 a7 a8 a9 l10 l11 l12 = some o0):Q17 Tryz.prog 85 [.slice qp0 l0.length qc1,.func (.func 86) #[] #[.pointer (some ⟨qg2,0,none⟩),.pointer (some ⟨qg7,0,none⟩)]] [.sli 3 QP qp0 qc1 l0,.sli 5 Q2O qp3 qc4 l3,.sli 7 QA qp5 qc6 l10,.sli 1 Q1n qp8 qc9 l11,.sli 3 R_V qp10 qc11 l12] [.blk qg2 [.int .u8 a1,.int .i64 a2,.slice qp3 l3.length qc4,.int .u8 a4,.int .u8 a5,.int .i64 a6,.string a7,.int .i64 a8,.int .u8 a9,.slice qp5 l10.length qc6] 67,.blk qg7 [.slice qp8 l11.length qc9,.slice qp10 l12.length qc11] 100] (fun v Φr Hr=>v = .bool o0 ∧ Φr = [.sli 5 Q2O qp3 qc4 l3,.sli 7 QA qp5 qc6 l10,.sli 1 Q1n qp8 qc9 l11,.sli 3 R_V qp10 qc11 l12] ∧ Hr = [.blk qg2 [.int .u8 a1,.int .i64 a2,.slice qp3 l3.length qc4,.int .u8 a4,.int .u8 a5,.int .i64 a6,.string a7,.int .i64 a8,.int .u8 a9,.slice qp5 l10.length qc6] 67,.blk qg7 [.slice qp8 l11.length qc9,.slice qp10 l12.length qc11] 100]):=by
 unfold Q3M at hm
 refine QC Tryz.func85 Z Tryz.ntmps85 Z (S:=[_,_]) Z (fun C=>(Q5 (Q1 (wP Z (Q4 (Q3 (Q2 [0,1] (S':=[_,_]) Z (Q5 (Q1 (wP Z (wP Z ?_)))))))))))
 obtain ⟨v7,hc7,hm⟩:=Q6 hm
 refine wC [0,1] [] Z fn_120 Z (Qav N qp0 qc1 l0 qg2 a1 a2 qp3 qc4 l3 a4 a5 a6 a7 a8 a9 qp5 qc6 l10 qg7 qp8 qc9 l11 qp10 qc11 l12 _ hc7) (asK [0,1,2,3,4] Z) Z (H':=[]) Z ?_
 rintro _ _ _ ⟨rfl,rfl,rfl⟩
 refine wP Z (wP Z (Q4 (Q3 (Q2 [4] (S':=[_]) Z (Qo ?_)))))
 have hE:=(Zi hm).symm
 replace hE:=hE.symm
 subst hE
 refine Qp (Hr:=[_,_]) [0,1] Tryz.results85 (Qg Z) ⟨Z,Z,Z⟩ (asK [0,1,2,3] Z) Z Z (.inl Z)
theorem Q91 (N:Nat) (a0:Int) (a1:Int) (qp0:OA) (qc1:Nat) (l2:List Q4O) (a3:Int) (a4:Int) (a5:Int) (a6:ByteArray) (a7:Int) (a8:Int) (qp2:OA) (qc3:Nat) (l9:List Qm) (qp4:OA) (qc5:Nat) (l10:List Bool) (qp6:OA) (qc7:Nat) (l11:List V) (qp8:OA) (qc9:Nat) (l12:List Qz) (o0:Bool) (hm:Q5i N a0 a1 l2 a3 a4 a5 a6 a7 a8 l9 l10 l11 l12 = some o0):Q17 Tryz.prog 45 [.agg #[.int .u8 a0,.int .i64 a1,.slice qp0 l2.length qc1,.int .u8 a3,.int .u8 a4,.int .i64 a5,.string a6,.int .i64 a7,.int .u8 a8,.slice qp2 l9.length qc3],.agg #[.slice qp4 l10.length qc5,.slice qp6 l11.length qc7],.slice qp8 l12.length qc9] [.sli 5 Q2O qp0 qc1 l2,.sli 7 QA qp2 qc3 l9,.sli 1 Q1n qp4 qc5 l10,.sli 3 R_V qp6 qc7 l11,.sli 3 QP qp8 qc9 l12] [] (fun v Φr Hr=>v = .bool o0 ∧ Φr = [] ∧ Hr = []):=by
 unfold Q5i at hm
 refine QC Tryz.func45 Z Tryz.ntmps45 Z (S:=V3 ..) Z (fun C=>(Q5 (Q1 (wB Z (fun g3=>(wB Z (fun g4=>(wP Z (Q4 (Q3 (Q2 [4,3,2] (S':=V3 ..) Z (Q5 (Q1 (wP Z (Q2o Z Z Z Zq Z Z ?_)))))))))))))))
 obtain ⟨v9,hc9,hm⟩:=Q6 hm
 refine wC [1,0] [] Z fn_85 Z (Q9H N qp8 qc9 l12 g3 a0 a1 qp0 qc1 l2 a3 a4 a5 a6 a7 a8 qp2 qc3 l9 g4 qp4 qc5 l10 qp6 qc7 l11 _ hc9) (asK [4,0,1,2,3] Z) Z (H':=[]) Z ?_
 rintro _ _ _ ⟨rfl,rfl,rfl⟩
 refine wP Z (Q4 (Q3 (Q2 [6] (S':=[_]) Z (Qo ?_))))
 have hE:=(Zi hm).symm
 replace hE:=hE.symm
 subst hE
 refine Qp (Hr:=[]) [] Tryz.results45 (Qg Z) ⟨Z,Z,Z⟩ (asK [] Z) Z Z (.inl Z)
theorem QbN (N:Nat) (rc:(List Bool) → (List V) → ByteArray → Int → Int → (List QL) → (List Q19) → (List Qz) → (List Int) → Int → (List Qv) → Int → Int → Option ((Int × (List Qv)) ⊕ Unit)) (ih:(∀ (bV:Nat) (bI:OA) (bJ:Nat) (l0:List Bool) (b2:OA) (b3:Nat) (l1:List V) (a2:ByteArray) (a3:Int) (a4:Int) (bK:OA) (bL:Nat) (l5:List QL) (bM:OA) (bN:Nat) (l6:List Q19) (b4:OA) (aG:Nat) (l7:List Qz) (aK:OA) (aL:Nat) (l8:List Int) (a9:Int) (aH:Nat) (aI:Nat) (bF:OA) (bG:Nat) (bH:Nat) (c5:List Qv) (aJ:Nat) (bX:Int) (bZ:Int) (o0:Int) (o3:List Qv),rc l0 l1 a2 a3 a4 l5 l6 l7 l8 a9 c5 bX bZ = some (.inl (o0,o3)) → Q17 Tryz.prog 69 [.pointer (some ⟨bV,0,none⟩),.int .i64 bZ] [.sli 1 Q1n bI bJ l0,.sli 3 R_V b2 b3 l1,.sli 10 QR bK bL l5,.sli 4 QZ bM bN l6,.sli 3 QP b4 aG l7,.sli 1 Q20 aK aL l8] [.blk bV [.slice bI l0.length bJ,.slice b2 l1.length b3,.string a2,.int .i64 a3,.int .i64 a4,.slice bK l5.length bL,.slice bM l6.length bN,.slice b4 l7.length aG,.slice aK l8.length aL,.int .i64 a9,.func (.func 66) #[] #[.pointer (some ⟨aH,0,none⟩),.pointer (some ⟨aJ,0,none⟩)]] 135,.blk aH [.func (.func 33) #[] #[.pointer (some ⟨aI,0,none⟩)]] 88,.blk aI [.slice bF bG bH] 31,Q21 QN 41 2 (.slice bF bG bH) c5,.blk aJ [.int .i64 bX] 3] (fun v Φr Hr=>∃ (o1:OA) (o2:Nat) (o4:Nat),v = .tuple #[] ∧ Φr = [.sli 1 Q1n bI bJ l0,.sli 3 R_V b2 b3 l1,.sli 10 QR bK bL l5,.sli 4 QZ bM bN l6,.sli 3 QP b4 aG l7,.sli 1 Q20 aK aL l8] ∧ Hr = [.blk bV [.slice bI l0.length bJ,.slice b2 l1.length b3,.string a2,.int .i64 a3,.int .i64 a4,.slice bK l5.length bL,.slice bM l6.length bN,.slice b4 l7.length aG,.slice aK l8.length aL,.int .i64 o0,.func (.func 66) #[] #[.pointer (some ⟨aH,0,none⟩),.pointer (some ⟨aJ,0,none⟩)]] 135,.blk aH [.func (.func 33) #[] #[.pointer (some ⟨aI,0,none⟩)]] 88,.blk aI [.slice o1 o4 o2] 31,Q21 QN 41 2 (.slice o1 o4 o2) o3,.blk aJ [.int .i64 bX] 3])) ∧ (∀ (bV:Nat) (bI:OA) (bJ:Nat) (l0:List Bool) (b2:OA) (b3:Nat) (l1:List V) (a2:ByteArray) (a3:Int) (a4:Int) (bK:OA) (bL:Nat) (l5:List QL) (bM:OA) (bN:Nat) (l6:List Q19) (b4:OA) (aG:Nat) (l7:List Qz) (aK:OA) (aL:Nat) (l8:List Int) (a9:Int) (aH:Nat) (aI:Nat) (bF:OA) (bG:Nat) (bH:Nat) (c5:List Qv) (aJ:Nat) (bX:Int) (bZ:Int),rc l0 l1 a2 a3 a4 l5 l6 l7 l8 a9 c5 bX bZ = some (.inr ()) → SpecX Tryz.prog 69 [.pointer (some ⟨bV,0,none⟩),.int .i64 bZ] [.sli 1 Q1n bI bJ l0,.sli 3 R_V b2 b3 l1,.sli 10 QR bK bL l5,.sli 4 QZ bM bN l6,.sli 3 QP b4 aG l7,.sli 1 Q20 aK aL l8] [.blk bV [.slice bI l0.length bJ,.slice b2 l1.length b3,.string a2,.int .i64 a3,.int .i64 a4,.slice bK l5.length bL,.slice bM l6.length bN,.slice b4 l7.length aG,.slice aK l8.length aL,.int .i64 a9,.func (.func 66) #[] #[.pointer (some ⟨aH,0,none⟩),.pointer (some ⟨aJ,0,none⟩)]] 135,.blk aH [.func (.func 33) #[] #[.pointer (some ⟨aI,0,none⟩)]] 88,.blk aI [.slice bF bG bH] 31,Q21 QN 41 2 (.slice bF bG bH) c5,.blk aJ [.int .i64 bX] 3] (.iface 131 (.agg #[])))) (bV:Nat) (bI:OA) (bJ:Nat) (l0:List Bool) (b2:OA) (b3:Nat) (l1:List V) (a2:ByteArray) (a3:Int) (a4:Int) (bK:OA) (bL:Nat) (l5:List QL) (bM:OA) (bN:Nat) (l6:List Q19) (b4:OA) (aG:Nat) (l7:List Qz) (aK:OA) (aL:Nat) (l8:List Int) (a9:Int) (aH:Nat) (aI:Nat) (bF:OA) (bG:Nat) (bH:Nat) (c5:List Qv) (aJ:Nat) (bX:Int) (bZ:Int) (o0:Int) (o3:List Qv) (hm:Q2s N rc l0 l1 a2 a3 a4 l5 l6 l7 l8 a9 c5 bX bZ = some (.inl (o0,o3))):Q17 Tryz.prog 69 [.pointer (some ⟨bV,0,none⟩),.int .i64 bZ] [.sli 1 Q1n bI bJ l0,.sli 3 R_V b2 b3 l1,.sli 10 QR bK bL l5,.sli 4 QZ bM bN l6,.sli 3 QP b4 aG l7,.sli 1 Q20 aK aL l8] [.blk bV [.slice bI l0.length bJ,.slice b2 l1.length b3,.string a2,.int .i64 a3,.int .i64 a4,.slice bK l5.length bL,.slice bM l6.length bN,.slice b4 l7.length aG,.slice aK l8.length aL,.int .i64 a9,.func (.func 66) #[] #[.pointer (some ⟨aH,0,none⟩),.pointer (some ⟨aJ,0,none⟩)]] 135,.blk aH [.func (.func 33) #[] #[.pointer (some ⟨aI,0,none⟩)]] 88,.blk aI [.slice bF bG bH] 31,Q21 QN 41 2 (.slice bF bG bH) c5,.blk aJ [.int .i64 bX] 3] (fun v Φr Hr=>∃ (o1:OA) (o2:Nat) (o4:Nat),v = .tuple #[] ∧ Φr = [.sli 1 Q1n bI bJ l0,.sli 3 R_V b2 b3 l1,.sli 10 QR bK bL l5,.sli 4 QZ bM bN l6,.sli 3 QP b4 aG l7,.sli 1 Q20 aK aL l8] ∧ Hr = [.blk bV [.slice bI l0.length bJ,.slice b2 l1.length b3,.string a2,.int .i64 a3,.int .i64 a4,.slice bK l5.length bL,.slice bM l6.length bN,.slice b4 l7.length aG,.slice aK l8.length aL,.int .i64 o0,.func (.func 66) #[] #[.pointer (some ⟨aH,0,none⟩),.pointer (some ⟨aJ,0,none⟩)]] 135,.blk aH [.func (.func 33) #[] #[.pointer (some ⟨aI,0,none⟩)]] 88,.blk aI [.slice o1 o4 o2] 31,Q21 QN 41 2 (.slice o1 o4 o2) o3,.blk aJ [.int .i64 bX] 3]):=by
 unfold Q2s at hm
 refine QC Tryz.func69 Z Tryz.ntmps69 Z (S:=[_,_]) Z (fun C=>(Q5 ?_))
 obtain ⟨dW,hm,hLj_1⟩:=Q1o hm
 unfold Q5O at hm
 refine QM (σ:=Int) (fun aM=>dW = .inl aM) (fun aM=>[(1,.int .i64 bZ),(0,.pointer (some ⟨bV,0,none⟩))]) (fun aM=>[.sli 1 Q1n bI bJ l0,.sli 3 R_V b2 b3 l1,.sli 10 QR bK bL l5,.sli 4 QZ bM bN l6,.sli 3 QP b4 aG l7,.sli 1 Q20 aK aL l8]) (fun aM=>[.blk bV [.slice bI l0.length bJ,.slice b2 l1.length b3,.string a2,.int .i64 a3,.int .i64 a4,.slice bK l5.length bL,.slice bM l6.length bN,.slice b4 l7.length aG,.slice aK l8.length aL,.int .i64 aM,.func (.func 66) #[] #[.pointer (some ⟨aH,0,none⟩),.pointer (some ⟨aJ,0,none⟩)]] 135,.blk aH [.func (.func 33) #[] #[.pointer (some ⟨aI,0,none⟩)]] 88,.blk aI [.slice bF bG bH] 31,Q21 QN 41 2 (.slice bF bG bH) c5,.blk aJ [.int .i64 bX] 3]) ?_ ?_
 refine Q5 (Q1 (wP Z (wP Z (Q4 (Q3 (Q2 [14,0,1] (S':=V3 ..) Z ?_))))))
 refine Qt Z (fun cR=>?_) (fun cR=>?_)
 replace hm:=QI hm cR
 refine Q2 [0,1] (S':=[_,_]) Z (Q5 (Q1 (wP Z (wP Z (wF Z Q9l (wD 0 9 Z Q1m Q1H Z (wP Z ?_)))))))
 obtain ⟨dX,hm⟩:=Qd hm
 refine Qs (d:=19) (v':=.int .i64 (a9 - 1)) (S':=V6 ..) Z Z (i64_in dX) (wP Z (wF Z Q9l (wS 0 9 Z Q1m (all':=V11 ..) Z (H':=V5 ..) Z (Q4 (Q3 (Q2 [0,1] (S':=[_,_]) Z (Q5 (Q1 (wP Z (wP Z (wF Z Q9l (wD 0 9 Z Q1m Q1H Z (wP Z ?_)))))))))))))
 refine Q4 (Q3 (Q2 [26,0,1] (S':=V3 ..) Z ?_))
 refine Qt Z (fun cS=>?_) (fun cS=>?_)
 ·
  replace hm:=QI hm cS
  refine Q2 [0,1] (S':=[_,_]) Z (Q1 (Q1v Z Z Z Zq Z tZ_131 tP_131 Z (out:=[]) Z (wl_makeIface Z Z Z Zq Z Z (by kernel_rfl) (wl_panic Z Z Z (Q2d ?_)))))
  have hE:=(Zi hm).symm
  replace hE:=Qx hLj_1 hE
  cases hE
 replace hm:=QH hm cS
 refine Q2 [0,1] (S':=[_,_]) Z (Qr ?_)
 have hE:=(Zi hm).symm
 refine Qh (a9 - 1) hE [1,0] Z (asK [0,1,2,3,4,5] Z) Z
 replace hm:=QH hm cR
 refine Q2 [0,1] (S':=[_,_]) Z (Qr ?_)
 have hE:=(Zi hm).symm
 refine Qh a9 hE [1,0] Z (asK [0,1,2,3,4,5] Z) Z
 rintro aM hE
 try dsimp only
 have hm:=QF hLj_1 hE
 refine Q5 (Q5 (Q1 (wP Z (wP Z (wP Z (wF Z tF_135_1 (wF Z Q7o (wD 0 5 Z QaI tA_49 Z (wN Z Q9j (wP Z (Q4 (Q3 (Q2 [36,1,0] (S':=V3 ..) Z ?_)))))))))))))
 refine Qt Z (fun cT=>?_) (fun cT=>?_)
 replace hm:=QI hm cT
 refine Q2 [0] (S':=[_]) Z (Q5 ?_)
 obtain ⟨_,dY,hm⟩:=Q6 hm
 try dsimp only at hm
 refine QW [0,1,2,3,4,5,6,7,8,9,10,11,12] Z Z (fun hok=>(xP hok 0 Z (xP hok 1 Z (Q8 hok 2 Z Z Z Zq Z Z Z tF_135_5 (Qn hok 3 0 10 Z Z Z Zq Z Z Z Z (cs:=[_]) Z tS_133 tA_133 Z Z (xP hok 4 Z (xP hok 5 Z (Q8 hok 6 Z Z Z Zq Z Z Z Q9k (Qn hok 7 0 8 Z Z Z Zq Z Z Z Z (cs:=[_]) Z Q9n tA_39 Z Z (xP hok 8 Z (xP hok 9 Z (Q8 hok 10 Z Z Z Zq Z Z Z Q72 (Q8 hok 11 Z Z Z Zq Z Z Z Q7D (Qn hok 12 0 1 Z Z Z Zq Z Z Z Z (cs:=[_]) Z Q7p Q7n Z Z ?_))))))))))))))
 refine xS hok 13 Z (Q1K [1,2,3,4] [0] Z Z Z Zq Z Z Z fn_66 Z Z (Qc0 N aK aL l8 b2 b3 l1 aH aI bF bG bH c5 aJ bX dY) (asK [5,1] Z) Z (H':=[_]) Z ?_)
 rintro _ _ _ ⟨dJ,dK,rfl,rfl,rfl⟩
 refine Q4 (QJ [0,1,2,3,4,5] [] Z Z (QS hok Z (Q3 (Q2 [] (S':=[]) Z (Qo (Q9 ?_))))))
 have hE:=(Zi hm).symm
 replace hE:=Sum.inl.inj hE
 obtain ⟨hE0,hE1⟩:=Prod.mk.inj hE
 clear hE
 replace hE0:=hE0.symm
 subst hE0
 replace hE1:=hE1.symm
 subst hE1
 refine Q6v (Hr:=V5 ..) [4,0,1,2,3] Tryz.results69 ⟨dJ,dK,(c5 ++ [(⟨bX,l8⟩ : Qv)]).length,Z,Z,Z⟩ (asK [0,1,2,3,4,5] Z) Z Z (.inl Z)
 replace hm:=QH hm cT
 refine Q2 [1,0] (S':=[_,_]) Z (Qr (Q3 (Q5 (Q1 (wP Z (wP Z (wF Z tF_135_1 (wF Z Q7o (wD 0 5 Z QaI tA_49 Z (wP Z ?_))))))))))
 obtain ⟨dZ,hm⟩:=Qd hm
 obtain ⟨aF,e0,hm⟩:=Q6 hm
 refine Q1a 2 bZ.toNat Z Z Z Zq Z Z Z Z (Q1d dZ) e0 Q9j Q6E (fun eP eQ eJ eC=>(Q1G Q3C 1 Z (fun b5 e1 _=>?_)))
 subst e1
 refine Q1F 2 0 Z Z Z Zq Z Z Z (cs:=V10 ..) Z Q6E tA_67 Z Z (QK Z Z Z Zq Z tZ_67 Z (fun g4=>(wS 0 0 Z Q6E (all':=V10 ..) Z (H':=V6 ..) Z (Q4 (Q3 (Q2 [4,1,0] (S':=V3 ..) Z (Q5 (Q1 (wF Z Q9T (wD 0 0 Z tS_53 tA_53 Z (Q4 (Q3 (Q2 [60,4,1,0] (S':=V4 ..) Z (Qw ?_))))))))))))))
 refine Q5 (Q1 (wP Z (wP Z (Q4 (Q3 (Q2 [117,60,4,1,0] (S':=V5 ..) Z ?_))))))
 refine Qt Z (fun cH=>?_) (fun cH=>?_)
 replace hm:=QI hm cH
 refine Q2 [4,1,0] (S':=V3 ..) Z (Q5 ?_)
 obtain ⟨⟨d4,cO,d5,cG⟩,cU,hm⟩:=Q6 hm
 try dsimp only at hm
 refine QM (σ:=Nat) (fun _=>True) (fun c8=>[(6,.int .i64 ((cG:Nat):Int)),(5,.pointer (some ⟨c8,0,none⟩)),(1,.int .i64 bZ),(0,.pointer (some ⟨bV,0,none⟩))]) (fun c8=>[.sli 1 Q1n bI bJ l0,.sli 3 R_V b2 b3 l1,.sli 10 QR bK bL l5,.sli 4 QZ bM bN l6,.sli 3 QP b4 aG l7,.sli 1 Q20 aK aL l8]) (fun c8=>[.blk c8 [.int .u8 d4,.int .i64 cO,.string d5] 57,.blk bV [.slice bI l0.length bJ,.slice b2 l1.length b3,.string a2,.int .i64 a3,.int .i64 a4,.slice bK l5.length bL,.slice bM l6.length bN,.slice b4 l7.length aG,.slice aK l8.length aL,.int .i64 aM,.func (.func 66) #[] #[.pointer (some ⟨aH,0,none⟩),.pointer (some ⟨aJ,0,none⟩)]] 135,.blk aH [.func (.func 33) #[] #[.pointer (some ⟨aI,0,none⟩)]] 88,.blk aI [.slice bF bG bH] 31,Q21 QN 41 2 (.slice bF bG bH) c5,.blk aJ [.int .i64 bX] 3]) ?_ ?_
 ·
  refine QW [0,1,2,3,4,5,6,8,9,10] Z Z (fun hok=>(Q8 hok 0 Z Z Z Zq Z Z Z QbG (Qn hok 1 0 3 Z Z Z Zq Z Z Z Z (cs:=V7 ..) Z Q57 Q7Z Z Z (xP hok 2 Z (xP hok 3 Z (Q8 hok 4 Z Z Z Zq Z Z Z Q72 (Q8 hok 5 Z Z Z Zq Z Z Z Q7D (Qn hok 6 1 1 Z Z Z Zq Z Z Z Z (cs:=[_]) Z Q7p Q7n Z Z ?_))))))))
  refine Q34 hok 7 11 Z Z Z Z Z Z ?_ ?_
  rotate_left
  focus
   refine QK Z Z Z Zq Z Q3A Z (fun g5=>(Q4 (QJ [0,1,2,3,4,5,6,7,8,9] [2,1] Z Z (xS hok 7 Z (wC [] [0,1,2,3,4,5,6] Z fn_44 Z (Q81 N aF.test.kind aF.test.value.k aF.test.value.n aF.test.value.s aF.test.var aF.test.op b5.2.1 b5.2.2 aF.test.kids b2 b3 l1 _ _ _ _ cU) (asK [1,5] Z) Z (H':=V7 ..) Z ?_)))))
   rintro _ _ _ ⟨rfl,rfl,rfl⟩
   refine Q4 (QJ [0,1,2,3,4,5,6,7,8,9] [] Z Z (xP hok 8 Z (xP hok 9 Z (xP hok 10 Z ?_))))
  rotate_right
  focus
   refine wC [] [0,1,2,3,4,5] Z fn_44 Z (Q81 N aF.test.kind aF.test.value.k aF.test.value.n aF.test.value.s aF.test.var aF.test.op b5.2.1 b5.2.2 aF.test.kids b2 b3 l1 _ _ _ _ cU) (asK [1,5] Z) Z (H':=V6 ..) Z ?_
   rintro _ _ _ ⟨rfl,rfl,rfl⟩
   refine Q4 (QJ [0,1,2,3,4,5,6,7,8,9] [] Z Z (xP hok 8 Z (xP hok 9 Z (xP hok 10 Z (xS hok 11 Z (QK Z Z Z Zq Z Q3A Z (fun g5=>(Q4 (QJ [0,1,2,3,4,5,6,7,8,9] [2,1] Z Z ?_)))))))))
  all_goals
   refine xS hok 12 Z (wS 0 0 Z Q1C (all':=V3 ..) Z (H':=V7 ..) Z (Q4 (QJ [0,1,2,3,4,5,6,7,8,9] [] Z Z (xS hok 13 Z (wP Z (Q4 (QJ [0,1,2,3,4,5,6,7,8,9] [] Z Z (QS hok Z (QE [0,2,3,4,5,6] Z (H':=V6 ..) Z ?_)))))))))
   refine Qh g5 trivial [6,5,1,0] Z (asK [4,5,6,7,8,9] Z) Z
 rintro c8 _
 try dsimp only
 refine Q5 ?_
 obtain ⟨e2,hm,hLj_3⟩:=Q6 hm
 refine QM (σ:=Bool) (fun c2=>e2 = c2) (fun c2=>[(1,.int .i64 bZ),(0,.pointer (some ⟨bV,0,none⟩)),(141,.bool c2)]) (fun c2=>[.sli 1 Q1n bI bJ l0,.sli 3 R_V b2 b3 l1,.sli 10 QR bK bL l5,.sli 4 QZ bM bN l6,.sli 3 QP b4 aG l7,.sli 1 Q20 aK aL l8]) (fun c2=>[.blk bV [.slice bI l0.length bJ,.slice b2 l1.length b3,.string a2,.int .i64 a3,.int .i64 a4,.slice bK l5.length bL,.slice bM l6.length bN,.slice b4 l7.length aG,.slice aK l8.length aL,.int .i64 aM,.func (.func 66) #[] #[.pointer (some ⟨aH,0,none⟩),.pointer (some ⟨aJ,0,none⟩)]] 135,.blk aH [.func (.func 33) #[] #[.pointer (some ⟨aI,0,none⟩)]] 88,.blk aI [.slice bF bG bH] 31,Q21 QN 41 2 (.slice bF bG bH) c5,.blk aJ [.int .i64 bX] 3]) ?_ ?_
 refine Q1 (wP Z (wP Z (Qs (d:=131) (v':=.bool (cG == 0)) (S':=V5 ..) Z Z (Q4J (a:=cG) (b:=0)) (wP Z ?_))))
 refine QG (d:=132) (S':=V6 ..) Z Z (fun cI=>?_) (fun cI=>?_)
 replace hm:=QI hm cI
 refine wF Z tF_57_0 (wD 0 0 Z tS_55 tA_55 Z (wP Z (wP Z (wP Z ?_))))
 refine QG (d:=137) (S':=V11 ..) Z Z (fun cJ=>?_) (fun cJ=>?_)
 replace hm:=QI hm cJ
 refine wF Z Q3y (wD 0 1 Z tS_2 tA_2 Z (wP Z (wP Z (Q4 ?_))))
 have hE:=(Zi hm).symm
 refine QE [1,2,3,4,5] Z (H':=V5 ..) Z ?_
 refine Qh (cO != 0) hE [1,0,141] Z (asK [0,1,2,3,4,5] Z) Z
 replace hm:=QH hm cJ
 refine wO Z (wO Z (wO Z (wP Z (Q4 ?_))))
 have hE:=(Zi hm).symm
 refine QE [1,2,3,4,5] Z (H':=V5 ..) Z ?_
 refine Qh false hE [1,0,141] Z (asK [0,1,2,3,4,5] Z) Z
 replace hm:=QH hm cI
 refine wO Z (wO Z (wO Z (wP Z (wP Z (wO Z (wO Z (wO Z (wP Z (Q4 ?_)))))))))
 have hE:=(Zi hm).symm
 refine QE [1,2,3,4,5] Z (H':=V5 ..) Z ?_
 refine Qh false hE [1,0,141] Z (asK [0,1,2,3,4,5] Z) Z
 rintro c2 hE
 try dsimp only
 have hm:=hLj_3
 try rw [hE] at hm
 refine Qt Z (fun cK=>?_) (fun cK=>?_)
 replace hm:=QI hm cK
 refine Q2 [1,0] (S':=[_,_]) Z (Q1 (wP Z (wP Z (wP Z ?_))))
 obtain ⟨dL,hm⟩:=Qd hm
 refine Qs (d:=144) (v':=.int .i64 (bZ + 1)) (S':=V4 ..) Z Z (i64_in dL) ?_
 obtain ⟨⟨eL,eA⟩ | _,cV,hm⟩:=Q6 hm
 try dsimp only at hm
 refine wC [0,1,2,3,4] [] Z Q9K Z (ih.1 bV bI bJ l0 b2 b3 l1 a2 a3 a4 bK bL l5 bM bN l6 b4 aG l7 aK aL l8 aM aH aI bF bG bH c5 aJ bX (bZ + 1) _ _ cV) (asK [0,1,2,3,4,5] Z) Z (H':=[]) Z ?_
 rintro _ _ _ ⟨d6,d7,d8,rfl,rfl,rfl⟩
 refine Q4 (Qf ?_)
 have hE:=(Zi hm).symm
 replace hE:=Sum.inl.inj hE
 obtain ⟨hE0,hE1⟩:=Prod.mk.inj hE
 clear hE
 replace hE0:=hE0.symm
 subst hE0
 replace hE1:=hE1.symm
 subst hE1
 refine Q6v (Hr:=V5 ..) [0,1,2,3,4] Tryz.results69 ⟨d6,d7,d8,Z,Z,Z⟩ (asK [0,1,2,3,4,5] Z) Z Z (.inr Z)
 ·
  try dsimp only at hm
  refine Q9x [0,1,2,3,4] [] Z Z Z Q9K Z (ih.2 bV bI bJ l0 b2 b3 l1 a2 a3 a4 bK bL l5 bM bN l6 b4 aG l7 aK aL l8 aM aH aI bF bG bH c5 aJ bX (bZ + 1) cV) (asK [0,1,2,3,4,5] Z) Z (H':=[]) Z (Q2m ?_)
  have hE:=(Zi hm).symm
  cases hE
 replace hm:=QH hm cK
 refine Q2 [] (S':=[]) Z (Qr (Qf ?_))
 have hE:=(Zi hm).symm
 replace hE:=Sum.inl.inj hE
 obtain ⟨hE0,hE1⟩:=Prod.mk.inj hE
 clear hE
 replace hE0:=hE0.symm
 subst hE0
 replace hE1:=hE1.symm
 subst hE1
 refine Q6v (Hr:=V5 ..) [0,1,2,3,4] Tryz.results69 ⟨bF,bH,bG,Z,Z,Z⟩ (asK [0,1,2,3,4,5] Z) Z Z (.inr Z)
 replace hm:=QH hm cH
 refine Q2 [60,4,1,0] (S':=V4 ..) Z (Q5 (Q1 (wP Z (wP Z (Q4 (Q3 (Q2 [146,4,1,0] (S':=V4 ..) Z ?_)))))))
 refine Qt Z (fun cL=>?_) (fun cL=>?_)
 replace hm:=QI hm cL
 refine Q2 [4,1,0] (S':=V3 ..) Z (Q5 ?_)
 obtain ⟨eM,dM,hm⟩:=Q6 hm
 refine QW [0,1,2,3,4,5,6,7,8,10] Z Z (fun hok=>(Qn hok 0 0 0 Z Z Z Zq Z Z Z Z (cs:=V10 ..) Z Q6E tA_67 Z Z (xP hok 1 Z (xP hok 2 Z (Q8 hok 3 Z Z Z Zq Z Z Z Q72 (Qn hok 4 1 0 Z Z Z Zq Z Z Z Z (cs:=[_,_]) Z Q2B Q65 Z Z (xP hok 5 Z (xP hok 6 Z (Q8 hok 7 Z Z Z Zq Z Z Z tF_135_2 (Qn hok 8 1 7 Z Z Z Zq Z Z Z Z (cs:=[_]) Z tS_26 tA_26 Z Z (xS hok 9 Z (wC [] [0,1,2,3,4,5] Z fn_45 Z (Q91 N aF.kind aF.type b5.1.1 b5.1.2 aF.args aF.test.kind aF.test.value.k aF.test.value.n aF.test.value.s aF.test.var aF.test.op b5.2.1 b5.2.2 aF.test.kids bI bJ l0 b2 b3 l1 b4 aG l7 _ dM) (asK [0,1,4,5,8] Z) Z (H':=V6 ..) Z ?_))))))))))))
 rintro _ _ _ ⟨rfl,rfl,rfl⟩
 refine Q4 (QJ [0,1,2,3,4,5,6,7,8,9] [] Z Z (xP hok 10 Z (QS hok Z (Q3 (Q2 [158,1,0] (S':=V3 ..) Z ?_)))))
 refine Qt Z (fun cM=>?_) (fun cM=>?_)
 replace hm:=QI hm cM
 refine Q2 [1,0] (S':=[_,_]) Z (Q1 (wP Z (wP Z (wP Z ?_))))
 obtain ⟨dN,hm⟩:=Qd hm
 refine Qs (d:=161) (v':=.int .i64 (bZ + 1)) (S':=V4 ..) Z Z (i64_in dN) ?_
 obtain ⟨⟨eN,eB⟩ | _,cW,hm⟩:=Q6 hm
 try dsimp only at hm
 refine wC [1,2,3,4,5] [0] Z Q9K Z (ih.1 bV bI bJ l0 b2 b3 l1 a2 a3 a4 bK bL l5 bM bN l6 b4 aG l7 aK aL l8 aM aH aI bF bG bH c5 aJ bX (bZ + 1) _ _ cW) (asK [4,5,6,7,8,9] Z) Z (H':=[_]) Z ?_
 rintro _ _ _ ⟨d9,dA,dB,rfl,rfl,rfl⟩
 refine Q4 (Qf ?_)
 have hE:=(Zi hm).symm
 replace hE:=Sum.inl.inj hE
 obtain ⟨hE0,hE1⟩:=Prod.mk.inj hE
 clear hE
 replace hE0:=hE0.symm
 subst hE0
 replace hE1:=hE1.symm
 subst hE1
 refine Q6v (Hr:=V5 ..) [0,1,2,3,4] Tryz.results69 ⟨d9,dA,dB,Z,Z,Z⟩ (asK [0,1,2,3,4,5] Z) Z Z (.inr Z)
 ·
  try dsimp only at hm
  refine Q9x [1,2,3,4,5] [0] Z Z Z Q9K Z (ih.2 bV bI bJ l0 b2 b3 l1 a2 a3 a4 bK bL l5 bM bN l6 b4 aG l7 aK aL l8 aM aH aI bF bG bH c5 aJ bX (bZ + 1) cW) (asK [4,5,6,7,8,9] Z) Z (H':=[_]) Z (Q2m ?_)
  have hE:=(Zi hm).symm
  cases hE
 replace hm:=QH hm cM
 refine Q2 [] (S':=[]) Z (Qr (Qf ?_))
 have hE:=(Zi hm).symm
 replace hE:=Sum.inl.inj hE
 obtain ⟨hE0,hE1⟩:=Prod.mk.inj hE
 clear hE
 replace hE0:=hE0.symm
 subst hE0
 replace hE1:=hE1.symm
 subst hE1
 refine Q6v (Hr:=V5 ..) [1,2,3,4,5] Tryz.results69 ⟨bF,bH,bG,Z,Z,Z⟩ (asK [4,5,6,7,8,9] Z) Z Z (.inr Z)
 replace hm:=QH hm cL
 refine Q2 [4,1,0] (S':=V3 ..) Z (Q5 (QW [0,1,2,3,4,5,6,7] Z Z (fun hok=>(xP hok 0 Z (xP hok 1 Z (Q8 hok 2 Z Z Z Zq Z Z Z Q72 (Qn hok 3 1 0 Z Z Z Zq Z Z Z Z (cs:=[_,_]) Z Q2B Q65 Z Z (xP hok 4 Z (xP hok 5 Z (Q8 hok 6 Z Z Z Zq Z Z Z Q9k (Qn hok 7 1 8 Z Z Z Zq Z Z Z Z (cs:=[_]) Z Q9n tA_39 Z Z (xS hok 8 Z (QK Z Z Z Zq Z Q8z Z (fun g7=>(Q4 ?_)))))))))))))))
 refine QJ [0,1,2,3,4,5,6,7,8,9] [2,2] Z Z (xS hok 9 Z (wS 0 0 Z Q2B (all':=[_,_]) Z (H':=V7 ..) Z (Q4 (QJ [0,1,2,3,4,5,6,7,8,9] [2] Z Z (xS hok 10 Z (wP Z (Q4 (QJ [0,1,2,3,4,5,6,7,8,9] [] Z Z (QS hok Z (Q3 (Q2 [8,7,4,1,0] (S':=V5 ..) Z (Q5 ?_))))))))))))
 obtain ⟨dH,hm,hLj_4⟩:=Q1o hm
 refine QM (σ:=(List Bool) × (List V) × (List Int) × Int × (List Qv) × OA × Nat × OA × Nat × OA × Nat × OA × Nat × Nat) (fun (b6,b7,b8,c0,aE,bP,bQ,bR,bS,bT,bU,a6,a7,a8)=>dH = .inl (b6,b7,b8,c0,aE)) (fun (b6,b7,b8,c0,aE,bP,bQ,bR,bS,bT,bU,a6,a7,a8)=>[(8,.slice aK l8.length aL),(7,.pointer (some ⟨g7,0,none⟩)),(0,.pointer (some ⟨bV,0,none⟩))]) (fun (b6,b7,b8,c0,aE,bP,bQ,bR,bS,bT,bU,a6,a7,a8)=>[.sli 1 Q20 aK aL l8,.sli 1 Q1n bI bJ l0,.sli 3 R_V b2 b3 l1,.sli 1 Q1n bP bQ b6,.sli 3 R_V bR bS b7,.sli 10 QR bK bL l5,.sli 4 QZ bM bN l6,.sli 3 QP b4 aG l7,.sli 1 Q20 bT bU b8]) (fun (b6,b7,b8,c0,aE,bP,bQ,bR,bS,bT,bU,a6,a7,a8)=>[.blk g7 [.slice bI l0.length bJ,.slice b2 l1.length b3] 100,.blk bV [.slice bP b6.length bQ,.slice bR b7.length bS,.string a2,.int .i64 a3,.int .i64 a4,.slice bK l5.length bL,.slice bM l6.length bN,.slice b4 l7.length aG,.slice bT b8.length bU,.int .i64 c0,.func (.func 66) #[] #[.pointer (some ⟨aH,0,none⟩),.pointer (some ⟨aJ,0,none⟩)]] 135,.blk aH [.func (.func 33) #[] #[.pointer (some ⟨aI,0,none⟩)]] 88,.blk aI [.slice a6 a8 a7] 31,Q21 QN 41 2 (.slice a6 a8 a7) aE,.blk aJ [.int .i64 bX] 3]) ?_ ?_
 refine Q5 (Q1 (wP Z (wP Z (wF Z tF_135_2 (wD 2 7 Z tS_26 tA_26 Z (wN Z Q2y (wP Z (Q4 (Q3 (Q2 [74,73,72,8,7,4,1,0] (S':=V8 ..) Z (Qw (Q1j (σ:=Nat × Nat × (List Bool) × (List V) × (List Int) × Int × (List Qv) × OA × Nat × OA × Nat × OA × Nat × OA × Nat × Nat) (fun (cN,bO,aP,aQ,aR,b1,a5,aV,aW,aX,aY,aZ,b0,z,a0,a1)=>Q1h (Q24 N l7 aF l0 l1 l8 bZ rc a2 a3 a4 l5 l6 bX) cN (bO,aP,aQ,aR,b1,a5) = some dH) (fun (cN,bO,aP,aQ,aR,b1,a5,aV,aW,aX,aY,aZ,b0,z,a0,a1)=>cN) (fun (cN,bO,aP,aQ,aR,b1,a5,aV,aW,aX,aY,aZ,b0,z,a0,a1)=>[(74,.int .i64 ((bO:Nat):Int)),(73,.int .i64 ((l7.length:Nat):Int)),(72,.slice b4 l7.length aG),(8,.slice aK l8.length aL),(7,.pointer (some ⟨g7,0,none⟩)),(4,.pointer (some ⟨g4,0,none⟩)),(1,.int .i64 bZ),(0,.pointer (some ⟨bV,0,none⟩))]) (fun (cN,bO,aP,aQ,aR,b1,a5,aV,aW,aX,aY,aZ,b0,z,a0,a1)=>[.sli 3 QP b4 aG l7,.sli 1 Q20 aK aL l8,.sli 1 Q1n bI bJ l0,.sli 3 R_V b2 b3 l1,.sli 5 Q2O b5.1.1 b5.1.2 aF.args,.sli 7 QA b5.2.1 b5.2.2 aF.test.kids,.sli 1 Q1n aV aW aP,.sli 3 R_V aX aY aQ,.sli 10 QR bK bL l5,.sli 4 QZ bM bN l6,.sli 1 Q20 aZ b0 aR]) (fun (cN,bO,aP,aQ,aR,b1,a5,aV,aW,aX,aY,aZ,b0,z,a0,a1)=>[.blk g7 [.slice bI l0.length bJ,.slice b2 l1.length b3] 100,.blk g4 [.int .u8 (aF.kind),.int .i64 (aF.type),.slice b5.1.1 aF.args.length b5.1.2,.int .u8 (aF.test.kind),.int .u8 (aF.test.value.k),.int .i64 (aF.test.value.n),.string aF.test.value.s,.int .i64 (aF.test.var),.int .u8 (aF.test.op),.slice b5.2.1 aF.test.kids.length b5.2.2] 67,.blk bV [.slice aV aP.length aW,.slice aX aQ.length aY,.string a2,.int .i64 a3,.int .i64 a4,.slice bK l5.length bL,.slice bM l6.length bN,.slice b4 l7.length aG,.slice aZ aR.length b0,.int .i64 b1,.func (.func 66) #[] #[.pointer (some ⟨aH,0,none⟩),.pointer (some ⟨aJ,0,none⟩)]] 135,.blk aH [.func (.func 33) #[] #[.pointer (some ⟨aI,0,none⟩)]] 88,.blk aI [.slice z a1 a0] 31,Q21 QN 41 2 (.slice z a1 a0) a5,.blk aJ [.int .i64 bX] 3]) (N,0,l0,l1,l8,aM,c5,bI,bJ,b2,b3,aK,aL,bF,bH,bG) hm [74,73,72,8,7,4,1,0] Z (asK [8,9,4,5,0,1,4,5,6,7,9] Z) Z (fun s_ hm=>?_)))))))))))))
 obtain ⟨cN,bO,aP,aQ,aR,b1,a5,aV,aW,aX,aY,aZ,b0,z,a0,a1⟩:=s_
 try dsimp only at hm ⊢
 obtain ⟨eR,eS,e3,hq,hLu1⟩:=QV hm
 clear hm
 subst e3
 replace hm:=hq
 clear hq
 unfold Q24 at hm
 try dsimp only at hm
 refine Q5 (Q1 (wP Z (Qs (d:=75) (v':=.bool (decide (bO < l7.length))) (S':=V8 ..) Z Z (Q2l (a:=bO) (b:=l7.length)) (Q4 (Q3 (Q5 ?_))))))
 refine Qt Z (fun cX=>?_) (fun cX=>?_)
 replace hm:=QI hm cX
 refine Q2 [74,73,72,8,7,4,1,0] (S':=V8 ..) Z (Qr (Q3 (Q5 ?_)))
 obtain ⟨e4,hm,hLj_5⟩:=Q1o hm
 unfold Q4q at hm
 refine QM (σ:=(List Bool) × (List V) × (List Int) × Int × (List Qv) × OA × Nat × OA × Nat × OA × Nat × OA × Nat × Nat) (fun (aS,aT,aU,bW,aA,b9,bA,bB,bC,bD,bE,aB,aC,aD)=>e4 = .inl (aS,aT,aU,bW,aA)) (fun (aS,aT,aU,bW,aA,b9,bA,bB,bC,bD,bE,aB,aC,aD)=>[(74,.int .i64 ((bO:Nat):Int)),(73,.int .i64 ((l7.length:Nat):Int)),(72,.slice b4 l7.length aG),(8,.slice aK l8.length aL),(7,.pointer (some ⟨g7,0,none⟩)),(4,.pointer (some ⟨g4,0,none⟩)),(1,.int .i64 bZ),(0,.pointer (some ⟨bV,0,none⟩))]) (fun (aS,aT,aU,bW,aA,b9,bA,bB,bC,bD,bE,aB,aC,aD)=>[.sli 3 QP b4 aG l7,.sli 1 Q20 aK aL l8,.sli 1 Q1n bI bJ l0,.sli 3 R_V b2 b3 l1,.sli 5 Q2O b5.1.1 b5.1.2 aF.args,.sli 7 QA b5.2.1 b5.2.2 aF.test.kids,.sli 1 Q1n b9 bA aS,.sli 3 R_V bB bC aT,.sli 10 QR bK bL l5,.sli 4 QZ bM bN l6,.sli 1 Q20 bD bE aU]) (fun (aS,aT,aU,bW,aA,b9,bA,bB,bC,bD,bE,aB,aC,aD)=>[.blk g7 [.slice bI l0.length bJ,.slice b2 l1.length b3] 100,.blk g4 [.int .u8 (aF.kind),.int .i64 (aF.type),.slice b5.1.1 aF.args.length b5.1.2,.int .u8 (aF.test.kind),.int .u8 (aF.test.value.k),.int .i64 (aF.test.value.n),.string aF.test.value.s,.int .i64 (aF.test.var),.int .u8 (aF.test.op),.slice b5.2.1 aF.test.kids.length b5.2.2] 67,.blk bV [.slice b9 aS.length bA,.slice bB aT.length bC,.string a2,.int .i64 a3,.int .i64 a4,.slice bK l5.length bL,.slice bM l6.length bN,.slice b4 l7.length aG,.slice bD aU.length bE,.int .i64 bW,.func (.func 66) #[] #[.pointer (some ⟨aH,0,none⟩),.pointer (some ⟨aJ,0,none⟩)]] 135,.blk aH [.func (.func 33) #[] #[.pointer (some ⟨aI,0,none⟩)]] 88,.blk aI [.slice aB aD aC] 31,Q21 QN 41 2 (.slice aB aD aC) aA,.blk aJ [.int .i64 bX] 3]) ?_ ?_
 refine Qw (Q5 (Q1 ?_))
 obtain ⟨cD,e5,hm⟩:=Q6 hm
 refine Q1a 0 bO Z Z Z Zq Z Z Z Z Z e5 Q2y Q2N (fun eT eU eO eD=>(Q1G Q3c 1 Z (fun e6 e7 _=>?_)))
 subst e7
 refine Q1F 1 0 Z Z Z Zq Z Z Z (cs:=V3 ..) Z Q2N tA_71 Z Z (QK Z Z Z Zq Z Q9N Z (fun eV=>(wS 0 0 Z Q2N (all':=V3 ..) Z (H':=V8 ..) Z (Q4 (Q3 (Q2 [10,74,73,72,8,7,4,1,0] (S':=V9 ..) Z (Q5 (Q1 (QO 2 0 Z Z Z Zq Z Z Z (cs:=V10 ..) Z Q6E tA_67 Z Z (QO 0 0 Z Z Z Zq Z Z Z (cs:=V3 ..) Z Q2N tA_71 Z Z (QO 1 0 Z Z Z Zq Z Z Z (cs:=[_,_]) Z Q2B Q65 Z Z ?_)))))))))))
 obtain ⟨⟨cE,cF,eE⟩,e8,hm⟩:=Q6 hm
 try dsimp only at hm
 refine wC [] [0,1,2,3,4,5,6,7] Z fn_49 Z (Q7q N aF.kind aF.type b5.1.1 b5.1.2 aF.args aF.test.kind aF.test.value.k aF.test.value.n aF.test.value.s aF.test.var aF.test.op b5.2.1 b5.2.2 aF.test.kids cD.id cD.ty e6.1 e6.2 cD.args bI bJ l0 b2 b3 l1 _ _ _ e8) (asK [7,8,0,5,6] Z) Z (H':=V8 ..) Z ?_
 rintro _ _ _ ⟨c9,cA,cY,cB,cC,cZ,rfl,rfl,rfl⟩
 refine wP Z (wP Z (wP Z (QK Z Z Z Zq Z Q8z Z (fun eW=>(wS 0 0 Z Q2B (all':=[_,_]) Z (H':=V11 ..) Z (wP Z (Q4 (Q3 (Q2 [12,11,10,74,73,72,8,7,4,1,0] (S':=V11 ..) Z (Q5 (Q5 (Q1 (wP Z (wP Z ?_))))))))))))))
 refine Q4 (Q3 (Q2 [86,11,10,74,73,72,8,7,4,1,0] (S':=V11 ..) Z ?_))
 refine Qt Z (fun d0=>?_) (fun d0=>?_)
 replace hm:=QI hm d0
 refine Q2 [74,73,72,8,7,4,1,0] (S':=V8 ..) Z (Q1g (Qj (QD ?_)))
 have hE:=(Zi hm).symm
 refine QE [4,5,6,7,8,9,10] Z (H':=V7 ..) Z ?_
 refine Qh (aP,aQ,aR,b1,a5,aV,aW,aX,aY,aZ,b0,z,a0,a1) hE [74,73,72,8,7,4,1,0] Z (asK [3,4,5,6,7,8,9,10,11,12,13] Z) Z
 replace hm:=QH hm d0
 refine Q2 [11,10,74,73,72,8,7,4,1,0] (S':=V10 ..) Z (Qr (Q3 (Q5 ?_)))
 obtain ⟨cP,hm⟩:=Qd hm
 obtain ⟨dI,hm⟩:=Qd hm
 refine QM (σ:=OA × Nat) (fun _=>True) (fun (aN,aO)=>[(74,.int .i64 ((bO:Nat):Int)),(73,.int .i64 ((l7.length:Nat):Int)),(72,.slice b4 l7.length aG),(8,.slice aK l8.length aL),(7,.pointer (some ⟨g7,0,none⟩)),(4,.pointer (some ⟨g4,0,none⟩)),(1,.int .i64 bZ),(0,.pointer (some ⟨bV,0,none⟩))]) (fun (aN,aO)=>[.sli 3 QP b4 aG l7,.sli 1 Q20 aK aL l8,.sli 1 Q1n bI bJ l0,.sli 3 R_V b2 b3 l1,.sli 5 Q2O b5.1.1 b5.1.2 aF.args,.sli 7 QA b5.2.1 b5.2.2 aF.test.kids,.sli 10 QR bK bL l5,.sli 4 QZ bM bN l6]) (fun (aN,aO)=>[.blk g7 [.slice bI l0.length bJ,.slice b2 l1.length b3] 100,.blk g4 [.int .u8 (aF.kind),.int .i64 (aF.type),.slice b5.1.1 aF.args.length b5.1.2,.int .u8 (aF.test.kind),.int .u8 (aF.test.value.k),.int .i64 (aF.test.value.n),.string aF.test.value.s,.int .i64 (aF.test.var),.int .u8 (aF.test.op),.slice b5.2.1 aF.test.kids.length b5.2.2] 67,.blk bV [.slice c9 cY cA,.slice cB cZ cC,.string a2,.int .i64 a3,.int .i64 a4,.slice bK l5.length bL,.slice bM l6.length bN,.slice b4 l7.length aG,.slice aN (((l8.take l8.length) ++ [cD.id]).length) aO,.int .i64 b1,.func (.func 66) #[] #[.pointer (some ⟨aH,0,none⟩),.pointer (some ⟨aJ,0,none⟩)]] 135,.own 4 1 Q1n (.slice c9 cY cA) cE,.own 57 3 R_V (.slice cB cZ cC) cF,.own 3 1 Q20 (.slice aN (((l8.take l8.length) ++ [cD.id]).length) aO) ((l8.take l8.length) ++ [cD.id]),.blk aH [.func (.func 33) #[] #[.pointer (some ⟨aI,0,none⟩)]] 88,.blk aI [.slice z a1 a0] 31,Q21 QN 41 2 (.slice z a1 a0) a5,.blk aJ [.int .i64 bX] 3]) ?_ ?_
 ·
  refine QW [0,1,2,3,4,5,6,7,9,10,13,14,16,17] Z Z (fun hok=>(xP hok 0 Z (xP hok 1 Z (Qn hok 2 0 0 Z Z Z Zq Z Z Z Z (cs:=[_,_]) Z Q2B Q65 Z Z (xP hok 3 Z (xP hok 4 Z (Q66 hok 5 Z Z Z Zq Z Z Z Q5V (xP hok 6 Z (Q66 hok 7 Z Z Z Zq Z Z Z Q5V (Q8 hok 9 Z Z Z Zq Z Z Z Q6d (Qn hok 10 3 0 Z Z Z Zq Z Z Z Z (cs:=[_]) Z Q1m Q1H Z Z ?_)))))))))))
  refine Q34 hok 8 11 Z Z Z Z Z Z ?_ ?_
  rotate_left
  focus
   refine QB Z Z Z Zq Z Q5V Q1m tZ_3 Z (zs:=[.int .i64 0]) (by kernel_rfl) Z (out:=[_]) Z (fun eF=>(Q4 (QJ [0,1,2,3,4,5,6,7,8,9,10,11,12,13] [1] Z Z (xS hok 8 Z (Qcp 4 Z Z Z Zq Z Z Z Z Z Z Z Q5V Q1m cP.1 cP.2 (fun eG=>(Q4 (QJ [1,2,3,4,5,6,7,8,9,10,11,12,13,14] [4,1] Z Z ?_))))))))
  rotate_right
  focus
   refine Qcp 4 Z Z Z Zq Z Z Z Z Z Z Z Q5V Q1m cP.1 cP.2 (fun eG=>(Q4 (QJ [1,2,3,4,5,6,7,8,9,10,11,12,13,14] [3,0] Z Z (xS hok 11 Z (QB Z Z Z Zq Z Q5V Q1m tZ_3 Z (zs:=[.int .i64 0]) (by kernel_rfl) Z (out:=[_]) Z (fun eF=>(Q4 (QJ [0,1,2,3,4,5,6,7,8,9,10,11,12,13,14] [1] Z Z ?_))))))))
  all_goals
   refine xS hok 12 Z (wl_appendF [cD.id] 0 0 Z Z Z Zq Z Z Z (by simp) Z Z (fun F w hφ=>⟨[.int .i64 (cD.id)],[],Z,Z,⟨(),Z,Qu⟩,Z⟩) (by simp) Q5V tR_3 Z Z (Nat.le_trans dI (by decide)) (Nat.le_trans (Nat.mul_le_mul_right _ dI) (by decide)) (fun eH eI=>(Q3R 1 Z (H':=V12 ..) Z (Q4 (QJ [0,1,2,3,4,5,6,7,8,9,10,11,12,13,14] [4,1] Z Z (xP hok 13 Z (Q8 hok 14 Z Z Z Zq Z Z Z Q72 (xS hok 15 Z (wS 7 0 Z Q2B (all':=V11 ..) Z (H':=V12 ..) Z (Q4 (QJ [0,1,2,3,4,5,6,7,8,9,10,11,12,13,14] [4] Z Z (xP hok 16 Z (Q8 hok 17 Z Z Z Zq Z Z Z Q9k (xS hok 18 Z ?_))))))))))))))
   refine wS 7 8 Z Q9n (all':=V11 ..) Z (H':=V12 ..) Z (Q4 (QJ [0,1,2,3,4,5,6,7,8,9,10,11,12,13,14] [] Z Z (QS hok Z (QE [5,6,7,2,3,0,8,9,10,11] Z (H':=V10 ..) Z ?_))))
   refine Qh (eH,eI) trivial [74,73,72,8,7,4,1,0] Z (asK [4,5,6,7,8,9,12,13] Z) Z
 rintro ⟨aN,aO⟩ _
 try dsimp only
 refine Q1 (wP Z (wP Z (wP Z ?_)))
 obtain ⟨dO,hm⟩:=Qd hm
 refine Qs (d:=106) (v':=.int .i64 (bZ + 1)) (S':=V10 ..) Z Z (i64_in dO) (QQ 3 Z (fun d1 _=>?_))
 subst d1
 refine Q1P 3 Z (H':=V9 ..) Z (Q2n (.sli 1 Q1n c9 cA cE) (fun F w hφ=>Q1A (hφ _ (Q12 (k:=0) Z))) (QQ 3 Z (fun d2 _=>?_)))
 subst d2
 refine Q1P 3 Z (H':=V8 ..) Z (Q2n (.sli 3 R_V cB cC cF) (fun F w hφ=>Q1A (hφ _ (Q12 (k:=0) Z))) (Q1P 3 Z (H':=V7 ..) Z (Q2n (.sli 1 Q20 aN aO ((l8.take l8.length) ++ [cD.id])) (fun F w hφ=>Q1A (hφ _ (Q12 (k:=0) Z))) ?_)))
 obtain ⟨⟨e9,dC⟩ | _,d3,hm⟩:=Q6 hm
 try dsimp only at hm
 refine wC [2,3,4,5,6] [0,1] Z Q9K Z (ih.1 bV c9 cA cE cB cC cF a2 a3 a4 bK bL l5 bM bN l6 b4 aG l7 aN aO ((l8.take l8.length) ++ [cD.id]) b1 aH aI z a1 a0 a5 aJ bX (bZ + 1) _ _ d3) (asK [4,2,12,13,6,0] Z) Z (H':=[_,_]) Z ?_
 rintro _ _ _ ⟨dD,dE,dF,rfl,rfl,rfl⟩
 refine Q4 (Qf ?_)
 have hE:=(Zi hm).symm
 refine QE [5,6,0,1,2,3,4] Z (H':=V7 ..) Z ?_
 refine Qh (cE,cF,(l8.take l8.length) ++ [cD.id],e9,dC,c9,cA,cB,cC,aN,aO,dD,dE,dF) hE [74,73,72,8,7,4,1,0] Z (asK [4,13,14,15,16,17,0,1,2,3,5] Z) Z
 ·
  try dsimp only at hm
  refine Q9x [2,3,4,5,6] [0,1] Z Z Z Q9K Z (ih.2 bV c9 cA cE cB cC cF a2 a3 a4 bK bL l5 bM bN l6 b4 aG l7 aN aO ((l8.take l8.length) ++ [cD.id]) b1 aH aI z a1 a0 a5 aJ bX (bZ + 1) d3) (asK [4,2,12,13,6,0] Z) Z (H':=[_,_]) Z (Q2m (Q2d (Q2d (Q2m (Q2d (Q2m ?_))))))
  have hE:=(Zi hm).symm
  replace hE:=Qx hLj_5 hE
  replace hE:=Qx hLu1 hE
  replace hE:=Qx hLj_4 hE
  cases hE
 rintro ⟨aS,aT,aU,bW,aA,b9,bA,bB,bC,bD,bE,aB,aC,aD⟩ hE
 try dsimp only
 have hm:=QF hLj_5 hE
 try dsimp only at hm
 refine Q1 (wP Z ?_)
 obtain ⟨dP,hm⟩:=Qd hm
 refine Qs (d:=108) (v':=.int .i64 ((bO + 1:Nat):Int)) (S':=V8 ..) Z Z (Q1r (a:=bO) (b:=1) dP) (QT (S':=V8 ..) Z Z Z Z Z (Q4 ?_))
 have hE:=(Zi hm).symm
 replace hE:=QF hLu1 hE
 refine QU (_,bO + 1,aS,aT,aU,bW,aA,b9,bA,bB,bC,bD,bE,aB,aC,aD) (Nat.lt_succ_self _) hE [74,73,72,8,7,4,1,0] Z (asK [0,1,2,3,4,5,6,7,8,9,10] Z) Z
 replace hm:=QH hm cX
 refine Q2 [8,7,0] (S':=V3 ..) Z (Q1g (Qj (Qj (QD ?_))))
 have hE:=(Zi hm).symm
 replace hE:=Qx hLu1 hE
 refine QE [0,2,3,4,5,6] Z (H':=V6 ..) Z ?_
 refine Qh (aP,aQ,aR,b1,a5,aV,aW,aX,aY,aZ,b0,z,a0,a1) hE [8,7,0] Z (asK [1,2,3,6,7,8,9,0,10] Z) Z
 rintro ⟨b6,b7,b8,c0,aE,bP,bQ,bR,bS,bT,bU,a6,a7,a8⟩ hE
 try dsimp only
 have hm:=QF hLj_4 hE
 try dsimp only at hm
 refine Q1 (wP Z (wP Z (QO 0 0 Z Z Z Zq Z Z Z (cs:=[_,_]) Z Q2B Q65 Z Z (wP Z (wP Z (wF Z Q72 (wS 1 0 Z Q2B (all':=V11 ..) Z (H':=V6 ..) Z (wP Z (wF Z Q9k (wS 1 8 Z Q9n (all':=V11 ..) Z (H':=V6 ..) Z (Q4 (Qf ?_))))))))))))
 have hE:=(Zi hm).symm
 replace hE:=Sum.inl.inj hE
 obtain ⟨hE0,hE1⟩:=Prod.mk.inj hE
 clear hE
 replace hE0:=hE0.symm
 subst hE0
 replace hE1:=hE1.symm
 subst hE1
 refine Q6v (Hr:=V5 ..) [1,2,3,4,5] Tryz.results69 ⟨a6,a7,a8,Z,Z,Z⟩ (asK [1,2,5,6,7,0] Z) Z Z (.inr Z)
theorem QbO (N:Nat) (rc:(List Bool) → (List V) → ByteArray → Int → Int → (List QL) → (List Q19) → (List Qz) → (List Int) → Int → (List Qv) → Int → Int → Option ((Int × (List Qv)) ⊕ Unit)) (ih:(∀ (bV:Nat) (bF:OA) (bG:Nat) (l0:List Bool) (bC:OA) (bD:Nat) (l1:List V) (a2:ByteArray) (a3:Int) (a4:Int) (bR:OA) (bS:Nat) (l5:List QL) (bT:OA) (bU:Nat) (l6:List Q19) (bE:OA) (aG:Nat) (l7:List Qz) (aL:OA) (aM:Nat) (l8:List Int) (a9:Int) (aI:Nat) (aJ:Nat) (bI:OA) (bJ:Nat) (bK:Nat) (c5:List Qv) (aK:Nat) (bY:Int) (bX:Int) (o0:Int) (o3:List Qv),rc l0 l1 a2 a3 a4 l5 l6 l7 l8 a9 c5 bY bX = some (.inl (o0,o3)) → Q17 Tryz.prog 69 [.pointer (some ⟨bV,0,none⟩),.int .i64 bX] [.sli 1 Q1n bF bG l0,.sli 3 R_V bC bD l1,.sli 10 QR bR bS l5,.sli 4 QZ bT bU l6,.sli 3 QP bE aG l7,.sli 1 Q20 aL aM l8] [.blk bV [.slice bF l0.length bG,.slice bC l1.length bD,.string a2,.int .i64 a3,.int .i64 a4,.slice bR l5.length bS,.slice bT l6.length bU,.slice bE l7.length aG,.slice aL l8.length aM,.int .i64 a9,.func (.func 66) #[] #[.pointer (some ⟨aI,0,none⟩),.pointer (some ⟨aK,0,none⟩)]] 135,.blk aI [.func (.func 33) #[] #[.pointer (some ⟨aJ,0,none⟩)]] 88,.blk aJ [.slice bI bJ bK] 31,Q21 QN 41 2 (.slice bI bJ bK) c5,.blk aK [.int .i64 bY] 3] (fun v Φr Hr=>∃ (o1:OA) (o2:Nat) (o4:Nat),v = .tuple #[] ∧ Φr = [.sli 1 Q1n bF bG l0,.sli 3 R_V bC bD l1,.sli 10 QR bR bS l5,.sli 4 QZ bT bU l6,.sli 3 QP bE aG l7,.sli 1 Q20 aL aM l8] ∧ Hr = [.blk bV [.slice bF l0.length bG,.slice bC l1.length bD,.string a2,.int .i64 a3,.int .i64 a4,.slice bR l5.length bS,.slice bT l6.length bU,.slice bE l7.length aG,.slice aL l8.length aM,.int .i64 o0,.func (.func 66) #[] #[.pointer (some ⟨aI,0,none⟩),.pointer (some ⟨aK,0,none⟩)]] 135,.blk aI [.func (.func 33) #[] #[.pointer (some ⟨aJ,0,none⟩)]] 88,.blk aJ [.slice o1 o4 o2] 31,Q21 QN 41 2 (.slice o1 o4 o2) o3,.blk aK [.int .i64 bY] 3])) ∧ (∀ (bV:Nat) (bF:OA) (bG:Nat) (l0:List Bool) (bC:OA) (bD:Nat) (l1:List V) (a2:ByteArray) (a3:Int) (a4:Int) (bR:OA) (bS:Nat) (l5:List QL) (bT:OA) (bU:Nat) (l6:List Q19) (bE:OA) (aG:Nat) (l7:List Qz) (aL:OA) (aM:Nat) (l8:List Int) (a9:Int) (aI:Nat) (aJ:Nat) (bI:OA) (bJ:Nat) (bK:Nat) (c5:List Qv) (aK:Nat) (bY:Int) (bX:Int),rc l0 l1 a2 a3 a4 l5 l6 l7 l8 a9 c5 bY bX = some (.inr ()) → SpecX Tryz.prog 69 [.pointer (some ⟨bV,0,none⟩),.int .i64 bX] [.sli 1 Q1n bF bG l0,.sli 3 R_V bC bD l1,.sli 10 QR bR bS l5,.sli 4 QZ bT bU l6,.sli 3 QP bE aG l7,.sli 1 Q20 aL aM l8] [.blk bV [.slice bF l0.length bG,.slice bC l1.length bD,.string a2,.int .i64 a3,.int .i64 a4,.slice bR l5.length bS,.slice bT l6.length bU,.slice bE l7.length aG,.slice aL l8.length aM,.int .i64 a9,.func (.func 66) #[] #[.pointer (some ⟨aI,0,none⟩),.pointer (some ⟨aK,0,none⟩)]] 135,.blk aI [.func (.func 33) #[] #[.pointer (some ⟨aJ,0,none⟩)]] 88,.blk aJ [.slice bI bJ bK] 31,Q21 QN 41 2 (.slice bI bJ bK) c5,.blk aK [.int .i64 bY] 3] (.iface 131 (.agg #[])))) (bV:Nat) (bF:OA) (bG:Nat) (l0:List Bool) (bC:OA) (bD:Nat) (l1:List V) (a2:ByteArray) (a3:Int) (a4:Int) (bR:OA) (bS:Nat) (l5:List QL) (bT:OA) (bU:Nat) (l6:List Q19) (bE:OA) (aG:Nat) (l7:List Qz) (aL:OA) (aM:Nat) (l8:List Int) (a9:Int) (aI:Nat) (aJ:Nat) (bI:OA) (bJ:Nat) (bK:Nat) (c5:List Qv) (aK:Nat) (bY:Int) (bX:Int) (hm:Q2s N rc l0 l1 a2 a3 a4 l5 l6 l7 l8 a9 c5 bY bX = some (.inr ())):SpecX Tryz.prog 69 [.pointer (some ⟨bV,0,none⟩),.int .i64 bX] [.sli 1 Q1n bF bG l0,.sli 3 R_V bC bD l1,.sli 10 QR bR bS l5,.sli 4 QZ bT bU l6,.sli 3 QP bE aG l7,.sli 1 Q20 aL aM l8] [.blk bV [.slice bF l0.length bG,.slice bC l1.length bD,.string a2,.int .i64 a3,.int .i64 a4,.slice bR l5.length bS,.slice bT l6.length bU,.slice bE l7.length aG,.slice aL l8.length aM,.int .i64 a9,.func (.func 66) #[] #[.pointer (some ⟨aI,0,none⟩),.pointer (some ⟨aK,0,none⟩)]] 135,.blk aI [.func (.func 33) #[] #[.pointer (some ⟨aJ,0,none⟩)]] 88,.blk aJ [.slice bI bJ bK] 31,Q21 QN 41 2 (.slice bI bJ bK) c5,.blk aK [.int .i64 bY] 3] (.iface 131 (.agg #[])):=by
 unfold Q2s at hm
 refine spec_ofX Tryz.func69 Z Tryz.ntmps69 Z (S:=[_,_]) Z (fun C=>(Q5 ?_))
 obtain ⟨dJ,hm,hLj_1⟩:=Q1o hm
 refine QM (σ:=Int) (fun aH=>dJ = .inl aH) (fun aH=>[(1,.int .i64 bX),(0,.pointer (some ⟨bV,0,none⟩))]) (fun aH=>[.sli 1 Q1n bF bG l0,.sli 3 R_V bC bD l1,.sli 10 QR bR bS l5,.sli 4 QZ bT bU l6,.sli 3 QP bE aG l7,.sli 1 Q20 aL aM l8]) (fun aH=>[.blk bV [.slice bF l0.length bG,.slice bC l1.length bD,.string a2,.int .i64 a3,.int .i64 a4,.slice bR l5.length bS,.slice bT l6.length bU,.slice bE l7.length aG,.slice aL l8.length aM,.int .i64 aH,.func (.func 66) #[] #[.pointer (some ⟨aI,0,none⟩),.pointer (some ⟨aK,0,none⟩)]] 135,.blk aI [.func (.func 33) #[] #[.pointer (some ⟨aJ,0,none⟩)]] 88,.blk aJ [.slice bI bJ bK] 31,Q21 QN 41 2 (.slice bI bJ bK) c5,.blk aK [.int .i64 bY] 3]) ?_ ?_
 refine Q5 (Q1 (wP Z (wP Z (Q4 (Q3 (Q2 [14,0,1] (S':=V3 ..) Z ?_))))))
 refine Qt Z (fun cR=>?_) (fun cR=>?_)
 replace hm:=QI hm cR
 refine Q2 [0,1] (S':=[_,_]) Z (Q5 (Q1 (wP Z (wP Z (wF Z Q9l (wD 0 9 Z Q1m Q1H Z (wP Z ?_)))))))
 obtain ⟨dK,hm⟩:=Qd hm
 refine Qs (d:=19) (v':=.int .i64 (a9 - 1)) (S':=V6 ..) Z Z (i64_in dK) (wP Z (wF Z Q9l (wS 0 9 Z Q1m (all':=V11 ..) Z (H':=V5 ..) Z (Q4 (Q3 (Q2 [0,1] (S':=[_,_]) Z (Q5 (Q1 (wP Z (wP Z (wF Z Q9l (wD 0 9 Z Q1m Q1H Z (wP Z ?_)))))))))))))
 refine Q4 (Q3 (Q2 [26,0,1] (S':=V3 ..) Z ?_))
 refine Qt Z (fun cS=>?_) (fun cS=>?_)
 replace hm:=QI hm cS
 refine Q2 [0,1] (S':=[_,_]) Z (Q1 (Q1v Z Z Z Zq Z tZ_131 tP_131 Z (out:=[]) Z (wl_makeIface Z Z Z Zq Z Z (by kernel_rfl) (wl_panic Z Z Z (Q2d ?_)))))
 have hE:=(Zi hm).symm
 replace hE:=Qx hLj_1 hE
 exact Qco
 replace hm:=QH hm cS
 refine Q2 [0,1] (S':=[_,_]) Z (Qr ?_)
 have hE:=(Zi hm).symm
 refine Qh (a9 - 1) hE [1,0] Z (asK [0,1,2,3,4,5] Z) Z
 replace hm:=QH hm cR
 refine Q2 [0,1] (S':=[_,_]) Z (Qr ?_)
 have hE:=(Zi hm).symm
 refine Qh a9 hE [1,0] Z (asK [0,1,2,3,4,5] Z) Z
 rintro aH hE
 try dsimp only
 have hm:=QF hLj_1 hE
 refine Q5 (Q5 (Q1 (wP Z (wP Z (wP Z (wF Z tF_135_1 (wF Z Q7o (wD 0 5 Z QaI tA_49 Z (wN Z Q9j (wP Z (Q4 (Q3 (Q2 [36,1,0] (S':=V3 ..) Z ?_)))))))))))))
 refine Qt Z (fun cT=>?_) (fun cT=>?_)
 ·
  replace hm:=QI hm cT
  refine Q2 [0] (S':=[_]) Z (Q5 ?_)
  obtain ⟨_,dL,hm⟩:=Q6 hm
  try dsimp only at hm
  refine QW [0,1,2,3,4,5,6,7,8,9,10,11,12] Z Z (fun hok=>(xP hok 0 Z (xP hok 1 Z (Q8 hok 2 Z Z Z Zq Z Z Z tF_135_5 (Qn hok 3 0 10 Z Z Z Zq Z Z Z Z (cs:=[_]) Z tS_133 tA_133 Z Z (xP hok 4 Z (xP hok 5 Z (Q8 hok 6 Z Z Z Zq Z Z Z Q9k (Qn hok 7 0 8 Z Z Z Zq Z Z Z Z (cs:=[_]) Z Q9n tA_39 Z Z (xP hok 8 Z (xP hok 9 Z (Q8 hok 10 Z Z Z Zq Z Z Z Q72 (Q8 hok 11 Z Z Z Zq Z Z Z Q7D (Qn hok 12 0 1 Z Z Z Zq Z Z Z Z (cs:=[_]) Z Q7p Q7n Z Z ?_))))))))))))))
  refine xS hok 13 Z (Q1K [1,2,3,4] [0] Z Z Z Zq Z Z Z fn_66 Z Z (Qc0 N aL aM l8 bC bD l1 aI aJ bI bJ bK c5 aK bY dL) (asK [5,1] Z) Z (H':=[_]) Z ?_)
  rintro _ _ _ ⟨e5,e6,rfl,rfl,rfl⟩
  refine Q4 (QJ [0,1,2,3,4,5] [] Z Z (QS hok Z (Q3 (Q2 [] (S':=[]) Z (Qo (Q9 ?_))))))
  have hE:=(Zi hm).symm
  cases hE
 replace hm:=QH hm cT
 refine Q2 [1,0] (S':=[_,_]) Z (Qr (Q3 (Q5 (Q1 (wP Z (wP Z (wF Z tF_135_1 (wF Z Q7o (wD 0 5 Z QaI tA_49 Z (wP Z ?_))))))))))
 obtain ⟨dM,hm⟩:=Qd hm
 obtain ⟨aF,dN,hm⟩:=Q6 hm
 refine Q1a 2 bX.toNat Z Z Z Zq Z Z Z Z (Q1d dM) dN Q9j Q6E (fun eP eQ eJ e7=>(Q1G Q3C 1 Z (fun b2 dO _=>?_)))
 subst dO
 refine Q1F 2 0 Z Z Z Zq Z Z Z (cs:=V10 ..) Z Q6E tA_67 Z Z (QK Z Z Z Zq Z tZ_67 Z (fun g4=>(wS 0 0 Z Q6E (all':=V10 ..) Z (H':=V6 ..) Z (Q4 (Q3 (Q2 [4,1,0] (S':=V3 ..) Z (Q5 (Q1 (wF Z Q9T (wD 0 0 Z tS_53 tA_53 Z (Q4 (Q3 (Q2 [60,4,1,0] (S':=V4 ..) Z (Qw ?_))))))))))))))
 refine Q5 (Q1 (wP Z (wP Z (Q4 (Q3 (Q2 [117,60,4,1,0] (S':=V5 ..) Z ?_))))))
 refine Qt Z (fun cH=>?_) (fun cH=>?_)
 replace hm:=QI hm cH
 refine Q2 [4,1,0] (S':=V3 ..) Z (Q5 ?_)
 obtain ⟨⟨d4,cO,d5,cG⟩,cU,hm⟩:=Q6 hm
 try dsimp only at hm
 refine QM (σ:=Nat) (fun _=>True) (fun c6=>[(6,.int .i64 ((cG:Nat):Int)),(5,.pointer (some ⟨c6,0,none⟩)),(1,.int .i64 bX),(0,.pointer (some ⟨bV,0,none⟩))]) (fun c6=>[.sli 1 Q1n bF bG l0,.sli 3 R_V bC bD l1,.sli 10 QR bR bS l5,.sli 4 QZ bT bU l6,.sli 3 QP bE aG l7,.sli 1 Q20 aL aM l8]) (fun c6=>[.blk c6 [.int .u8 d4,.int .i64 cO,.string d5] 57,.blk bV [.slice bF l0.length bG,.slice bC l1.length bD,.string a2,.int .i64 a3,.int .i64 a4,.slice bR l5.length bS,.slice bT l6.length bU,.slice bE l7.length aG,.slice aL l8.length aM,.int .i64 aH,.func (.func 66) #[] #[.pointer (some ⟨aI,0,none⟩),.pointer (some ⟨aK,0,none⟩)]] 135,.blk aI [.func (.func 33) #[] #[.pointer (some ⟨aJ,0,none⟩)]] 88,.blk aJ [.slice bI bJ bK] 31,Q21 QN 41 2 (.slice bI bJ bK) c5,.blk aK [.int .i64 bY] 3]) ?_ ?_
 ·
  refine QW [0,1,2,3,4,5,6,8,9,10] Z Z (fun hok=>(Q8 hok 0 Z Z Z Zq Z Z Z QbG (Qn hok 1 0 3 Z Z Z Zq Z Z Z Z (cs:=V7 ..) Z Q57 Q7Z Z Z (xP hok 2 Z (xP hok 3 Z (Q8 hok 4 Z Z Z Zq Z Z Z Q72 (Q8 hok 5 Z Z Z Zq Z Z Z Q7D (Qn hok 6 1 1 Z Z Z Zq Z Z Z Z (cs:=[_]) Z Q7p Q7n Z Z ?_))))))))
  refine Q34 hok 7 11 Z Z Z Z Z Z ?_ ?_
  rotate_left
  focus
   refine QK Z Z Z Zq Z Q3A Z (fun g5=>(Q4 (QJ [0,1,2,3,4,5,6,7,8,9] [2,1] Z Z (xS hok 7 Z (wC [] [0,1,2,3,4,5,6] Z fn_44 Z (Q81 N aF.test.kind aF.test.value.k aF.test.value.n aF.test.value.s aF.test.var aF.test.op b2.2.1 b2.2.2 aF.test.kids bC bD l1 _ _ _ _ cU) (asK [1,5] Z) Z (H':=V7 ..) Z ?_)))))
   rintro _ _ _ ⟨rfl,rfl,rfl⟩
   refine Q4 (QJ [0,1,2,3,4,5,6,7,8,9] [] Z Z (xP hok 8 Z (xP hok 9 Z (xP hok 10 Z ?_))))
  rotate_right
  focus
   refine wC [] [0,1,2,3,4,5] Z fn_44 Z (Q81 N aF.test.kind aF.test.value.k aF.test.value.n aF.test.value.s aF.test.var aF.test.op b2.2.1 b2.2.2 aF.test.kids bC bD l1 _ _ _ _ cU) (asK [1,5] Z) Z (H':=V6 ..) Z ?_
   rintro _ _ _ ⟨rfl,rfl,rfl⟩
   refine Q4 (QJ [0,1,2,3,4,5,6,7,8,9] [] Z Z (xP hok 8 Z (xP hok 9 Z (xP hok 10 Z (xS hok 11 Z (QK Z Z Z Zq Z Q3A Z (fun g5=>(Q4 (QJ [0,1,2,3,4,5,6,7,8,9] [2,1] Z Z ?_)))))))))
  all_goals
   refine xS hok 12 Z (wS 0 0 Z Q1C (all':=V3 ..) Z (H':=V7 ..) Z (Q4 (QJ [0,1,2,3,4,5,6,7,8,9] [] Z Z (xS hok 13 Z (wP Z (Q4 (QJ [0,1,2,3,4,5,6,7,8,9] [] Z Z (QS hok Z (QE [0,2,3,4,5,6] Z (H':=V6 ..) Z ?_)))))))))
   refine Qh g5 trivial [6,5,1,0] Z (asK [4,5,6,7,8,9] Z) Z
 rintro c6 _
 try dsimp only
 refine Q5 ?_
 obtain ⟨dP,hm,hLj_3⟩:=Q6 hm
 refine QM (σ:=Bool) (fun c2=>dP = c2) (fun c2=>[(1,.int .i64 bX),(0,.pointer (some ⟨bV,0,none⟩)),(141,.bool c2)]) (fun c2=>[.sli 1 Q1n bF bG l0,.sli 3 R_V bC bD l1,.sli 10 QR bR bS l5,.sli 4 QZ bT bU l6,.sli 3 QP bE aG l7,.sli 1 Q20 aL aM l8]) (fun c2=>[.blk bV [.slice bF l0.length bG,.slice bC l1.length bD,.string a2,.int .i64 a3,.int .i64 a4,.slice bR l5.length bS,.slice bT l6.length bU,.slice bE l7.length aG,.slice aL l8.length aM,.int .i64 aH,.func (.func 66) #[] #[.pointer (some ⟨aI,0,none⟩),.pointer (some ⟨aK,0,none⟩)]] 135,.blk aI [.func (.func 33) #[] #[.pointer (some ⟨aJ,0,none⟩)]] 88,.blk aJ [.slice bI bJ bK] 31,Q21 QN 41 2 (.slice bI bJ bK) c5,.blk aK [.int .i64 bY] 3]) ?_ ?_
 refine Q1 (wP Z (wP Z (Qs (d:=131) (v':=.bool (cG == 0)) (S':=V5 ..) Z Z (Q4J (a:=cG) (b:=0)) (wP Z ?_))))
 refine QG (d:=132) (S':=V6 ..) Z Z (fun cI=>?_) (fun cI=>?_)
 replace hm:=QI hm cI
 refine wF Z tF_57_0 (wD 0 0 Z tS_55 tA_55 Z (wP Z (wP Z (wP Z ?_))))
 refine QG (d:=137) (S':=V11 ..) Z Z (fun cJ=>?_) (fun cJ=>?_)
 replace hm:=QI hm cJ
 refine wF Z Q3y (wD 0 1 Z tS_2 tA_2 Z (wP Z (wP Z (Q4 ?_))))
 have hE:=(Zi hm).symm
 refine QE [1,2,3,4,5] Z (H':=V5 ..) Z ?_
 refine Qh (cO != 0) hE [1,0,141] Z (asK [0,1,2,3,4,5] Z) Z
 replace hm:=QH hm cJ
 refine wO Z (wO Z (wO Z (wP Z (Q4 ?_))))
 have hE:=(Zi hm).symm
 refine QE [1,2,3,4,5] Z (H':=V5 ..) Z ?_
 refine Qh false hE [1,0,141] Z (asK [0,1,2,3,4,5] Z) Z
 replace hm:=QH hm cI
 refine wO Z (wO Z (wO Z (wP Z (wP Z (wO Z (wO Z (wO Z (wP Z (Q4 ?_)))))))))
 have hE:=(Zi hm).symm
 refine QE [1,2,3,4,5] Z (H':=V5 ..) Z ?_
 refine Qh false hE [1,0,141] Z (asK [0,1,2,3,4,5] Z) Z
 rintro c2 hE
 try dsimp only
 have hm:=hLj_3
 try rw [hE] at hm
 refine Qt Z (fun cK=>?_) (fun cK=>?_)
 replace hm:=QI hm cK
 refine Q2 [1,0] (S':=[_,_]) Z (Q1 (wP Z (wP Z (wP Z ?_))))
 obtain ⟨dD,hm⟩:=Qd hm
 refine Qs (d:=144) (v':=.int .i64 (bX + 1)) (S':=V4 ..) Z Z (i64_in dD) ?_
 obtain ⟨⟨eL,dX⟩ | _,cV,hm⟩:=Q6 hm
 ·
  try dsimp only at hm
  refine wC [0,1,2,3,4] [] Z Q9K Z (ih.1 bV bF bG l0 bC bD l1 a2 a3 a4 bR bS l5 bT bU l6 bE aG l7 aL aM l8 aH aI aJ bI bJ bK c5 aK bY (bX + 1) _ _ cV) (asK [0,1,2,3,4,5] Z) Z (H':=[]) Z ?_
  rintro _ _ _ ⟨dY,dZ,e0,rfl,rfl,rfl⟩
  refine Q4 (Qf ?_)
  have hE:=(Zi hm).symm
  cases hE
 try dsimp only at hm
 refine Q9x [0,1,2,3,4] [] Z Z Z Q9K Z (ih.2 bV bF bG l0 bC bD l1 a2 a3 a4 bR bS l5 bT bU l6 bE aG l7 aL aM l8 aH aI aJ bI bJ bK c5 aK bY (bX + 1) cV) (asK [0,1,2,3,4,5] Z) Z (H':=[]) Z (Q2m ?_)
 have hE:=(Zi hm).symm
 exact Qco
 ·
  replace hm:=QH hm cK
  refine Q2 [] (S':=[]) Z (Qr (Qf ?_))
  have hE:=(Zi hm).symm
  cases hE
 replace hm:=QH hm cH
 refine Q2 [60,4,1,0] (S':=V4 ..) Z (Q5 (Q1 (wP Z (wP Z (Q4 (Q3 (Q2 [146,4,1,0] (S':=V4 ..) Z ?_)))))))
 refine Qt Z (fun cL=>?_) (fun cL=>?_)
 replace hm:=QI hm cL
 refine Q2 [4,1,0] (S':=V3 ..) Z (Q5 ?_)
 obtain ⟨eM,dE,hm⟩:=Q6 hm
 refine QW [0,1,2,3,4,5,6,7,8,10] Z Z (fun hok=>(Qn hok 0 0 0 Z Z Z Zq Z Z Z Z (cs:=V10 ..) Z Q6E tA_67 Z Z (xP hok 1 Z (xP hok 2 Z (Q8 hok 3 Z Z Z Zq Z Z Z Q72 (Qn hok 4 1 0 Z Z Z Zq Z Z Z Z (cs:=[_,_]) Z Q2B Q65 Z Z (xP hok 5 Z (xP hok 6 Z (Q8 hok 7 Z Z Z Zq Z Z Z tF_135_2 (Qn hok 8 1 7 Z Z Z Zq Z Z Z Z (cs:=[_]) Z tS_26 tA_26 Z Z (xS hok 9 Z (wC [] [0,1,2,3,4,5] Z fn_45 Z (Q91 N aF.kind aF.type b2.1.1 b2.1.2 aF.args aF.test.kind aF.test.value.k aF.test.value.n aF.test.value.s aF.test.var aF.test.op b2.2.1 b2.2.2 aF.test.kids bF bG l0 bC bD l1 bE aG l7 _ dE) (asK [0,1,4,5,8] Z) Z (H':=V6 ..) Z ?_))))))))))))
 rintro _ _ _ ⟨rfl,rfl,rfl⟩
 refine Q4 (QJ [0,1,2,3,4,5,6,7,8,9] [] Z Z (xP hok 10 Z (QS hok Z (Q3 (Q2 [158,1,0] (S':=V3 ..) Z ?_)))))
 refine Qt Z (fun cM=>?_) (fun cM=>?_)
 replace hm:=QI hm cM
 refine Q2 [1,0] (S':=[_,_]) Z (Q1 (wP Z (wP Z (wP Z ?_))))
 obtain ⟨dF,hm⟩:=Qd hm
 refine Qs (d:=161) (v':=.int .i64 (bX + 1)) (S':=V4 ..) Z Z (i64_in dF) ?_
 obtain ⟨⟨eN,e1⟩ | _,cW,hm⟩:=Q6 hm
 ·
  try dsimp only at hm
  refine wC [1,2,3,4,5] [0] Z Q9K Z (ih.1 bV bF bG l0 bC bD l1 a2 a3 a4 bR bS l5 bT bU l6 bE aG l7 aL aM l8 aH aI aJ bI bJ bK c5 aK bY (bX + 1) _ _ cW) (asK [4,5,6,7,8,9] Z) Z (H':=[_]) Z ?_
  rintro _ _ _ ⟨e2,e3,e4,rfl,rfl,rfl⟩
  refine Q4 (Qf ?_)
  have hE:=(Zi hm).symm
  cases hE
 try dsimp only at hm
 refine Q9x [1,2,3,4,5] [0] Z Z Z Q9K Z (ih.2 bV bF bG l0 bC bD l1 a2 a3 a4 bR bS l5 bT bU l6 bE aG l7 aL aM l8 aH aI aJ bI bJ bK c5 aK bY (bX + 1) cW) (asK [4,5,6,7,8,9] Z) Z (H':=[_]) Z (Q2m ?_)
 have hE:=(Zi hm).symm
 exact Qco
 ·
  replace hm:=QH hm cM
  refine Q2 [] (S':=[]) Z (Qr (Qf ?_))
  have hE:=(Zi hm).symm
  cases hE
 replace hm:=QH hm cL
 refine Q2 [4,1,0] (S':=V3 ..) Z (Q5 (QW [0,1,2,3,4,5,6,7] Z Z (fun hok=>(xP hok 0 Z (xP hok 1 Z (Q8 hok 2 Z Z Z Zq Z Z Z Q72 (Qn hok 3 1 0 Z Z Z Zq Z Z Z Z (cs:=[_,_]) Z Q2B Q65 Z Z (xP hok 4 Z (xP hok 5 Z (Q8 hok 6 Z Z Z Zq Z Z Z Q9k (Qn hok 7 1 8 Z Z Z Zq Z Z Z Z (cs:=[_]) Z Q9n tA_39 Z Z (xS hok 8 Z (QK Z Z Z Zq Z Q8z Z (fun g7=>(Q4 ?_)))))))))))))))
 refine QJ [0,1,2,3,4,5,6,7,8,9] [2,2] Z Z (xS hok 9 Z (wS 0 0 Z Q2B (all':=[_,_]) Z (H':=V7 ..) Z (Q4 (QJ [0,1,2,3,4,5,6,7,8,9] [2] Z Z (xS hok 10 Z (wP Z (Q4 (QJ [0,1,2,3,4,5,6,7,8,9] [] Z Z (QS hok Z (Q3 (Q2 [8,7,4,1,0] (S':=V5 ..) Z (Q5 ?_))))))))))))
 obtain ⟨dB,hm,hLj_4⟩:=Q1o hm
 refine QM (σ:=(List Bool) × (List V) × (List Int) × Int × (List Qv) × OA × Nat × OA × Nat × OA × Nat × OA × Nat × Nat) (fun (b3,b4,b5,c0,aB,bL,bM,bN,bO,bP,bQ,aC,aD,aE)=>dB = .inl (b3,b4,b5,c0,aB)) (fun (b3,b4,b5,c0,aB,bL,bM,bN,bO,bP,bQ,aC,aD,aE)=>[(8,.slice aL l8.length aM),(7,.pointer (some ⟨g7,0,none⟩)),(0,.pointer (some ⟨bV,0,none⟩))]) (fun (b3,b4,b5,c0,aB,bL,bM,bN,bO,bP,bQ,aC,aD,aE)=>[.sli 1 Q20 aL aM l8,.sli 1 Q1n bF bG l0,.sli 3 R_V bC bD l1,.sli 1 Q1n bL bM b3,.sli 3 R_V bN bO b4,.sli 10 QR bR bS l5,.sli 4 QZ bT bU l6,.sli 3 QP bE aG l7,.sli 1 Q20 bP bQ b5]) (fun (b3,b4,b5,c0,aB,bL,bM,bN,bO,bP,bQ,aC,aD,aE)=>[.blk g7 [.slice bF l0.length bG,.slice bC l1.length bD] 100,.blk bV [.slice bL b3.length bM,.slice bN b4.length bO,.string a2,.int .i64 a3,.int .i64 a4,.slice bR l5.length bS,.slice bT l6.length bU,.slice bE l7.length aG,.slice bP b5.length bQ,.int .i64 c0,.func (.func 66) #[] #[.pointer (some ⟨aI,0,none⟩),.pointer (some ⟨aK,0,none⟩)]] 135,.blk aI [.func (.func 33) #[] #[.pointer (some ⟨aJ,0,none⟩)]] 88,.blk aJ [.slice aC aE aD] 31,Q21 QN 41 2 (.slice aC aE aD) aB,.blk aK [.int .i64 bY] 3]) ?_ ?_
 refine Q5 (Q1 (wP Z (wP Z (wF Z tF_135_2 (wD 2 7 Z tS_26 tA_26 Z (wN Z Q2y (wP Z (Q4 (Q3 (Q2 [74,73,72,8,7,4,1,0] (S':=V8 ..) Z (Qw (Q1j (σ:=Nat × Nat × (List Bool) × (List V) × (List Int) × Int × (List Qv) × OA × Nat × OA × Nat × OA × Nat × OA × Nat × Nat) (fun (cN,bH,aP,aQ,aR,b1,a5,aV,aW,aX,aY,aZ,b0,z,a0,a1)=>Q1h (Q24 N l7 aF l0 l1 l8 bX rc a2 a3 a4 l5 l6 bY) cN (bH,aP,aQ,aR,b1,a5) = some dB) (fun (cN,bH,aP,aQ,aR,b1,a5,aV,aW,aX,aY,aZ,b0,z,a0,a1)=>cN) (fun (cN,bH,aP,aQ,aR,b1,a5,aV,aW,aX,aY,aZ,b0,z,a0,a1)=>[(74,.int .i64 ((bH:Nat):Int)),(73,.int .i64 ((l7.length:Nat):Int)),(72,.slice bE l7.length aG),(8,.slice aL l8.length aM),(7,.pointer (some ⟨g7,0,none⟩)),(4,.pointer (some ⟨g4,0,none⟩)),(1,.int .i64 bX),(0,.pointer (some ⟨bV,0,none⟩))]) (fun (cN,bH,aP,aQ,aR,b1,a5,aV,aW,aX,aY,aZ,b0,z,a0,a1)=>[.sli 3 QP bE aG l7,.sli 1 Q20 aL aM l8,.sli 1 Q1n bF bG l0,.sli 3 R_V bC bD l1,.sli 5 Q2O b2.1.1 b2.1.2 aF.args,.sli 7 QA b2.2.1 b2.2.2 aF.test.kids,.sli 1 Q1n aV aW aP,.sli 3 R_V aX aY aQ,.sli 10 QR bR bS l5,.sli 4 QZ bT bU l6,.sli 1 Q20 aZ b0 aR]) (fun (cN,bH,aP,aQ,aR,b1,a5,aV,aW,aX,aY,aZ,b0,z,a0,a1)=>[.blk g7 [.slice bF l0.length bG,.slice bC l1.length bD] 100,.blk g4 [.int .u8 (aF.kind),.int .i64 (aF.type),.slice b2.1.1 aF.args.length b2.1.2,.int .u8 (aF.test.kind),.int .u8 (aF.test.value.k),.int .i64 (aF.test.value.n),.string aF.test.value.s,.int .i64 (aF.test.var),.int .u8 (aF.test.op),.slice b2.2.1 aF.test.kids.length b2.2.2] 67,.blk bV [.slice aV aP.length aW,.slice aX aQ.length aY,.string a2,.int .i64 a3,.int .i64 a4,.slice bR l5.length bS,.slice bT l6.length bU,.slice bE l7.length aG,.slice aZ aR.length b0,.int .i64 b1,.func (.func 66) #[] #[.pointer (some ⟨aI,0,none⟩),.pointer (some ⟨aK,0,none⟩)]] 135,.blk aI [.func (.func 33) #[] #[.pointer (some ⟨aJ,0,none⟩)]] 88,.blk aJ [.slice z a1 a0] 31,Q21 QN 41 2 (.slice z a1 a0) a5,.blk aK [.int .i64 bY] 3]) (N,0,l0,l1,l8,aH,c5,bF,bG,bC,bD,aL,aM,bI,bK,bJ) hm [74,73,72,8,7,4,1,0] Z (asK [8,9,4,5,0,1,4,5,6,7,9] Z) Z (fun s_ hm=>?_)))))))))))))
 obtain ⟨cN,bH,aP,aQ,aR,b1,a5,aV,aW,aX,aY,aZ,b0,z,a0,a1⟩:=s_
 try dsimp only at hm ⊢
 obtain ⟨eR,eS,dQ,hq,hLu1⟩:=QV hm
 clear hm
 subst dQ
 replace hm:=hq
 clear hq
 unfold Q24 at hm
 try dsimp only at hm
 refine Q5 (Q1 (wP Z (Qs (d:=75) (v':=.bool (decide (bH < l7.length))) (S':=V8 ..) Z Z (Q2l (a:=bH) (b:=l7.length)) (Q4 (Q3 (Q5 ?_))))))
 refine Qt Z (fun cX=>?_) (fun cX=>?_)
 replace hm:=QI hm cX
 refine Q2 [74,73,72,8,7,4,1,0] (S':=V8 ..) Z (Qr (Q3 (Q5 ?_)))
 obtain ⟨dR,hm,hLj_5⟩:=Q1o hm
 refine QM (σ:=(List Bool) × (List V) × (List Int) × Int × (List Qv) × OA × Nat × OA × Nat × OA × Nat × OA × Nat × Nat) (fun (aS,aT,aU,bW,a6,b6,b7,b8,b9,bA,bB,a7,a8,aA)=>dR = .inl (aS,aT,aU,bW,a6)) (fun (aS,aT,aU,bW,a6,b6,b7,b8,b9,bA,bB,a7,a8,aA)=>[(74,.int .i64 ((bH:Nat):Int)),(73,.int .i64 ((l7.length:Nat):Int)),(72,.slice bE l7.length aG),(8,.slice aL l8.length aM),(7,.pointer (some ⟨g7,0,none⟩)),(4,.pointer (some ⟨g4,0,none⟩)),(1,.int .i64 bX),(0,.pointer (some ⟨bV,0,none⟩))]) (fun (aS,aT,aU,bW,a6,b6,b7,b8,b9,bA,bB,a7,a8,aA)=>[.sli 3 QP bE aG l7,.sli 1 Q20 aL aM l8,.sli 1 Q1n bF bG l0,.sli 3 R_V bC bD l1,.sli 5 Q2O b2.1.1 b2.1.2 aF.args,.sli 7 QA b2.2.1 b2.2.2 aF.test.kids,.sli 1 Q1n b6 b7 aS,.sli 3 R_V b8 b9 aT,.sli 10 QR bR bS l5,.sli 4 QZ bT bU l6,.sli 1 Q20 bA bB aU]) (fun (aS,aT,aU,bW,a6,b6,b7,b8,b9,bA,bB,a7,a8,aA)=>[.blk g7 [.slice bF l0.length bG,.slice bC l1.length bD] 100,.blk g4 [.int .u8 (aF.kind),.int .i64 (aF.type),.slice b2.1.1 aF.args.length b2.1.2,.int .u8 (aF.test.kind),.int .u8 (aF.test.value.k),.int .i64 (aF.test.value.n),.string aF.test.value.s,.int .i64 (aF.test.var),.int .u8 (aF.test.op),.slice b2.2.1 aF.test.kids.length b2.2.2] 67,.blk bV [.slice b6 aS.length b7,.slice b8 aT.length b9,.string a2,.int .i64 a3,.int .i64 a4,.slice bR l5.length bS,.slice bT l6.length bU,.slice bE l7.length aG,.slice bA aU.length bB,.int .i64 bW,.func (.func 66) #[] #[.pointer (some ⟨aI,0,none⟩),.pointer (some ⟨aK,0,none⟩)]] 135,.blk aI [.func (.func 33) #[] #[.pointer (some ⟨aJ,0,none⟩)]] 88,.blk aJ [.slice a7 aA a8] 31,Q21 QN 41 2 (.slice a7 aA a8) a6,.blk aK [.int .i64 bY] 3]) ?_ ?_
 refine Qw (Q5 (Q1 ?_))
 obtain ⟨cD,dS,hm⟩:=Q6 hm
 refine Q1a 0 bH Z Z Z Zq Z Z Z Z Z dS Q2y Q2N (fun eT eU eO e8=>(Q1G Q3c 1 Z (fun dT dU _=>?_)))
 subst dU
 refine Q1F 1 0 Z Z Z Zq Z Z Z (cs:=V3 ..) Z Q2N tA_71 Z Z (QK Z Z Z Zq Z Q9N Z (fun eV=>(wS 0 0 Z Q2N (all':=V3 ..) Z (H':=V8 ..) Z (Q4 (Q3 (Q2 [10,74,73,72,8,7,4,1,0] (S':=V9 ..) Z (Q5 (Q1 (QO 2 0 Z Z Z Zq Z Z Z (cs:=V10 ..) Z Q6E tA_67 Z Z (QO 0 0 Z Z Z Zq Z Z Z (cs:=V3 ..) Z Q2N tA_71 Z Z (QO 1 0 Z Z Z Zq Z Z Z (cs:=[_,_]) Z Q2B Q65 Z Z ?_)))))))))))
 obtain ⟨⟨cE,cF,e9⟩,dV,hm⟩:=Q6 hm
 try dsimp only at hm
 refine wC [] [0,1,2,3,4,5,6,7] Z fn_49 Z (Q7q N aF.kind aF.type b2.1.1 b2.1.2 aF.args aF.test.kind aF.test.value.k aF.test.value.n aF.test.value.s aF.test.var aF.test.op b2.2.1 b2.2.2 aF.test.kids cD.id cD.ty dT.1 dT.2 cD.args bF bG l0 bC bD l1 _ _ _ dV) (asK [7,8,0,5,6] Z) Z (H':=V8 ..) Z ?_
 rintro _ _ _ ⟨c9,cA,cY,cB,cC,cZ,rfl,rfl,rfl⟩
 refine wP Z (wP Z (wP Z (QK Z Z Z Zq Z Q8z Z (fun eW=>(wS 0 0 Z Q2B (all':=[_,_]) Z (H':=V11 ..) Z (wP Z (Q4 (Q3 (Q2 [12,11,10,74,73,72,8,7,4,1,0] (S':=V11 ..) Z (Q5 (Q5 (Q1 (wP Z (wP Z ?_))))))))))))))
 refine Q4 (Q3 (Q2 [86,11,10,74,73,72,8,7,4,1,0] (S':=V11 ..) Z ?_))
 refine Qt Z (fun d0=>?_) (fun d0=>?_)
 replace hm:=QI hm d0
 refine Q2 [74,73,72,8,7,4,1,0] (S':=V8 ..) Z (Q1g (Qj (QD ?_)))
 have hE:=(Zi hm).symm
 refine QE [4,5,6,7,8,9,10] Z (H':=V7 ..) Z ?_
 refine Qh (aP,aQ,aR,b1,a5,aV,aW,aX,aY,aZ,b0,z,a0,a1) hE [74,73,72,8,7,4,1,0] Z (asK [3,4,5,6,7,8,9,10,11,12,13] Z) Z
 replace hm:=QH hm d0
 refine Q2 [11,10,74,73,72,8,7,4,1,0] (S':=V10 ..) Z (Qr (Q3 (Q5 ?_)))
 obtain ⟨cP,hm⟩:=Qd hm
 obtain ⟨dC,hm⟩:=Qd hm
 refine QM (σ:=OA × Nat) (fun _=>True) (fun (aN,aO)=>[(74,.int .i64 ((bH:Nat):Int)),(73,.int .i64 ((l7.length:Nat):Int)),(72,.slice bE l7.length aG),(8,.slice aL l8.length aM),(7,.pointer (some ⟨g7,0,none⟩)),(4,.pointer (some ⟨g4,0,none⟩)),(1,.int .i64 bX),(0,.pointer (some ⟨bV,0,none⟩))]) (fun (aN,aO)=>[.sli 3 QP bE aG l7,.sli 1 Q20 aL aM l8,.sli 1 Q1n bF bG l0,.sli 3 R_V bC bD l1,.sli 5 Q2O b2.1.1 b2.1.2 aF.args,.sli 7 QA b2.2.1 b2.2.2 aF.test.kids,.sli 10 QR bR bS l5,.sli 4 QZ bT bU l6]) (fun (aN,aO)=>[.blk g7 [.slice bF l0.length bG,.slice bC l1.length bD] 100,.blk g4 [.int .u8 (aF.kind),.int .i64 (aF.type),.slice b2.1.1 aF.args.length b2.1.2,.int .u8 (aF.test.kind),.int .u8 (aF.test.value.k),.int .i64 (aF.test.value.n),.string aF.test.value.s,.int .i64 (aF.test.var),.int .u8 (aF.test.op),.slice b2.2.1 aF.test.kids.length b2.2.2] 67,.blk bV [.slice c9 cY cA,.slice cB cZ cC,.string a2,.int .i64 a3,.int .i64 a4,.slice bR l5.length bS,.slice bT l6.length bU,.slice bE l7.length aG,.slice aN (((l8.take l8.length) ++ [cD.id]).length) aO,.int .i64 b1,.func (.func 66) #[] #[.pointer (some ⟨aI,0,none⟩),.pointer (some ⟨aK,0,none⟩)]] 135,.own 4 1 Q1n (.slice c9 cY cA) cE,.own 57 3 R_V (.slice cB cZ cC) cF,.own 3 1 Q20 (.slice aN (((l8.take l8.length) ++ [cD.id]).length) aO) ((l8.take l8.length) ++ [cD.id]),.blk aI [.func (.func 33) #[] #[.pointer (some ⟨aJ,0,none⟩)]] 88,.blk aJ [.slice z a1 a0] 31,Q21 QN 41 2 (.slice z a1 a0) a5,.blk aK [.int .i64 bY] 3]) ?_ ?_
 ·
  refine QW [0,1,2,3,4,5,6,7,9,10,13,14,16,17] Z Z (fun hok=>(xP hok 0 Z (xP hok 1 Z (Qn hok 2 0 0 Z Z Z Zq Z Z Z Z (cs:=[_,_]) Z Q2B Q65 Z Z (xP hok 3 Z (xP hok 4 Z (Q66 hok 5 Z Z Z Zq Z Z Z Q5V (xP hok 6 Z (Q66 hok 7 Z Z Z Zq Z Z Z Q5V (Q8 hok 9 Z Z Z Zq Z Z Z Q6d (Qn hok 10 3 0 Z Z Z Zq Z Z Z Z (cs:=[_]) Z Q1m Q1H Z Z ?_)))))))))))
  refine Q34 hok 8 11 Z Z Z Z Z Z ?_ ?_
  rotate_left
  focus
   refine QB Z Z Z Zq Z Q5V Q1m tZ_3 Z (zs:=[.int .i64 0]) (by kernel_rfl) Z (out:=[_]) Z (fun eA=>(Q4 (QJ [0,1,2,3,4,5,6,7,8,9,10,11,12,13] [1] Z Z (xS hok 8 Z (Qcp 4 Z Z Z Zq Z Z Z Z Z Z Z Q5V Q1m cP.1 cP.2 (fun eB=>(Q4 (QJ [1,2,3,4,5,6,7,8,9,10,11,12,13,14] [4,1] Z Z ?_))))))))
  rotate_right
  focus
   refine Qcp 4 Z Z Z Zq Z Z Z Z Z Z Z Q5V Q1m cP.1 cP.2 (fun eB=>(Q4 (QJ [1,2,3,4,5,6,7,8,9,10,11,12,13,14] [3,0] Z Z (xS hok 11 Z (QB Z Z Z Zq Z Q5V Q1m tZ_3 Z (zs:=[.int .i64 0]) (by kernel_rfl) Z (out:=[_]) Z (fun eA=>(Q4 (QJ [0,1,2,3,4,5,6,7,8,9,10,11,12,13,14] [1] Z Z ?_))))))))
  all_goals
   refine xS hok 12 Z (wl_appendF [cD.id] 0 0 Z Z Z Zq Z Z Z (by simp) Z Z (fun F w hφ=>⟨[.int .i64 (cD.id)],[],Z,Z,⟨(),Z,Qu⟩,Z⟩) (by simp) Q5V tR_3 Z Z (Nat.le_trans dC (by decide)) (Nat.le_trans (Nat.mul_le_mul_right _ dC) (by decide)) (fun eC eD=>(Q3R 1 Z (H':=V12 ..) Z (Q4 (QJ [0,1,2,3,4,5,6,7,8,9,10,11,12,13,14] [4,1] Z Z (xP hok 13 Z (Q8 hok 14 Z Z Z Zq Z Z Z Q72 (xS hok 15 Z (wS 7 0 Z Q2B (all':=V11 ..) Z (H':=V12 ..) Z (Q4 (QJ [0,1,2,3,4,5,6,7,8,9,10,11,12,13,14] [4] Z Z (xP hok 16 Z (Q8 hok 17 Z Z Z Zq Z Z Z Q9k (xS hok 18 Z ?_))))))))))))))
   refine wS 7 8 Z Q9n (all':=V11 ..) Z (H':=V12 ..) Z (Q4 (QJ [0,1,2,3,4,5,6,7,8,9,10,11,12,13,14] [] Z Z (QS hok Z (QE [5,6,7,2,3,0,8,9,10,11] Z (H':=V10 ..) Z ?_))))
   refine Qh (eC,eD) trivial [74,73,72,8,7,4,1,0] Z (asK [4,5,6,7,8,9,12,13] Z) Z
 rintro ⟨aN,aO⟩ _
 try dsimp only
 refine Q1 (wP Z (wP Z (wP Z ?_)))
 obtain ⟨dG,hm⟩:=Qd hm
 refine Qs (d:=106) (v':=.int .i64 (bX + 1)) (S':=V10 ..) Z Z (i64_in dG) (QQ 3 Z (fun d1 _=>?_))
 subst d1
 refine Q1P 3 Z (H':=V9 ..) Z (Q2n (.sli 1 Q1n c9 cA cE) (fun F w hφ=>Q1A (hφ _ (Q12 (k:=0) Z))) (QQ 3 Z (fun d2 _=>?_)))
 subst d2
 refine Q1P 3 Z (H':=V8 ..) Z (Q2n (.sli 3 R_V cB cC cF) (fun F w hφ=>Q1A (hφ _ (Q12 (k:=0) Z))) (Q1P 3 Z (H':=V7 ..) Z (Q2n (.sli 1 Q20 aN aO ((l8.take l8.length) ++ [cD.id])) (fun F w hφ=>Q1A (hφ _ (Q12 (k:=0) Z))) ?_)))
 obtain ⟨⟨dW,d6⟩ | _,d3,hm⟩:=Q6 hm
 try dsimp only at hm
 refine wC [2,3,4,5,6] [0,1] Z Q9K Z (ih.1 bV c9 cA cE cB cC cF a2 a3 a4 bR bS l5 bT bU l6 bE aG l7 aN aO ((l8.take l8.length) ++ [cD.id]) b1 aI aJ z a1 a0 a5 aK bY (bX + 1) _ _ d3) (asK [4,2,12,13,6,0] Z) Z (H':=[_,_]) Z ?_
 rintro _ _ _ ⟨d7,d8,d9,rfl,rfl,rfl⟩
 refine Q4 (Qf ?_)
 have hE:=(Zi hm).symm
 refine QE [5,6,0,1,2,3,4] Z (H':=V7 ..) Z ?_
 refine Qh (cE,cF,(l8.take l8.length) ++ [cD.id],dW,d6,c9,cA,cB,cC,aN,aO,d7,d8,d9) hE [74,73,72,8,7,4,1,0] Z (asK [4,13,14,15,16,17,0,1,2,3,5] Z) Z
 try dsimp only at hm
 refine Q9x [2,3,4,5,6] [0,1] Z Z Z Q9K Z (ih.2 bV c9 cA cE cB cC cF a2 a3 a4 bR bS l5 bT bU l6 bE aG l7 aN aO ((l8.take l8.length) ++ [cD.id]) b1 aI aJ z a1 a0 a5 aK bY (bX + 1) d3) (asK [4,2,12,13,6,0] Z) Z (H':=[_,_]) Z (Q2m (Q2d (Q2d (Q2m (Q2d (Q2m ?_))))))
 have hE:=(Zi hm).symm
 replace hE:=Qx hLj_5 hE
 replace hE:=Qx hLu1 hE
 replace hE:=Qx hLj_4 hE
 exact Qco
 rintro ⟨aS,aT,aU,bW,a6,b6,b7,b8,b9,bA,bB,a7,a8,aA⟩ hE
 try dsimp only
 have hm:=QF hLj_5 hE
 try dsimp only at hm
 refine Q1 (wP Z ?_)
 obtain ⟨dH,hm⟩:=Qd hm
 refine Qs (d:=108) (v':=.int .i64 ((bH + 1:Nat):Int)) (S':=V8 ..) Z Z (Q1r (a:=bH) (b:=1) dH) (QT (S':=V8 ..) Z Z Z Z Z (Q4 ?_))
 have hE:=(Zi hm).symm
 replace hE:=QF hLu1 hE
 refine QU (_,bH + 1,aS,aT,aU,bW,a6,b6,b7,b8,b9,bA,bB,a7,a8,aA) (Nat.lt_succ_self _) hE [74,73,72,8,7,4,1,0] Z (asK [0,1,2,3,4,5,6,7,8,9,10] Z) Z
 replace hm:=QH hm cX
 refine Q2 [8,7,0] (S':=V3 ..) Z (Q1g (Qj (Qj (QD ?_))))
 have hE:=(Zi hm).symm
 replace hE:=Qx hLu1 hE
 refine QE [0,2,3,4,5,6] Z (H':=V6 ..) Z ?_
 refine Qh (aP,aQ,aR,b1,a5,aV,aW,aX,aY,aZ,b0,z,a0,a1) hE [8,7,0] Z (asK [1,2,3,6,7,8,9,0,10] Z) Z
 ·
  rintro ⟨b3,b4,b5,c0,aB,bL,bM,bN,bO,bP,bQ,aC,aD,aE⟩ hE
  try dsimp only
  have hm:=QF hLj_4 hE
  try dsimp only at hm
  refine Q1 (wP Z (wP Z (QO 0 0 Z Z Z Zq Z Z Z (cs:=[_,_]) Z Q2B Q65 Z Z (wP Z (wP Z (wF Z Q72 (wS 1 0 Z Q2B (all':=V11 ..) Z (H':=V6 ..) Z (wP Z (wF Z Q9k (wS 1 8 Z Q9n (all':=V11 ..) Z (H':=V6 ..) Z (Q4 (Qf ?_))))))))))))
  have hE:=(Zi hm).symm
  cases hE
theorem Q6e : ∀ (N:Nat),(∀ (aK:Nat) (aB:OA) (aC:Nat) (l0:List Bool) (aD:OA) (aE:Nat) (l1:List V) (a2:ByteArray) (a3:Int) (a4:Int) (aF:OA) (aG:Nat) (l5:List QL) (aH:OA) (aI:Nat) (l6:List Q19) (aJ:OA) (s:Nat) (l7:List Qz) (z:OA) (a0:Nat) (l8:List Int) (a9:Int) (a1:Nat) (a5:Nat) (a7:OA) (a8:Nat) (aA:Nat) (aM:List Qv) (a6:Nat) (aL:Int) (aN:Int) (o0:Int) (o3:List Qv),Q2k N l0 l1 a2 a3 a4 l5 l6 l7 l8 a9 aM aL aN = some (.inl (o0,o3)) → Q17 Tryz.prog 69 [.pointer (some ⟨aK,0,none⟩),.int .i64 aN] [.sli 1 Q1n aB aC l0,.sli 3 R_V aD aE l1,.sli 10 QR aF aG l5,.sli 4 QZ aH aI l6,.sli 3 QP aJ s l7,.sli 1 Q20 z a0 l8] [.blk aK [.slice aB l0.length aC,.slice aD l1.length aE,.string a2,.int .i64 a3,.int .i64 a4,.slice aF l5.length aG,.slice aH l6.length aI,.slice aJ l7.length s,.slice z l8.length a0,.int .i64 a9,.func (.func 66) #[] #[.pointer (some ⟨a1,0,none⟩),.pointer (some ⟨a6,0,none⟩)]] 135,.blk a1 [.func (.func 33) #[] #[.pointer (some ⟨a5,0,none⟩)]] 88,.blk a5 [.slice a7 a8 aA] 31,Q21 QN 41 2 (.slice a7 a8 aA) aM,.blk a6 [.int .i64 aL] 3] (fun v Φr Hr=>∃ (o1:OA) (o2:Nat) (o4:Nat),v = .tuple #[] ∧ Φr = [.sli 1 Q1n aB aC l0,.sli 3 R_V aD aE l1,.sli 10 QR aF aG l5,.sli 4 QZ aH aI l6,.sli 3 QP aJ s l7,.sli 1 Q20 z a0 l8] ∧ Hr = [.blk aK [.slice aB l0.length aC,.slice aD l1.length aE,.string a2,.int .i64 a3,.int .i64 a4,.slice aF l5.length aG,.slice aH l6.length aI,.slice aJ l7.length s,.slice z l8.length a0,.int .i64 o0,.func (.func 66) #[] #[.pointer (some ⟨a1,0,none⟩),.pointer (some ⟨a6,0,none⟩)]] 135,.blk a1 [.func (.func 33) #[] #[.pointer (some ⟨a5,0,none⟩)]] 88,.blk a5 [.slice o1 o4 o2] 31,Q21 QN 41 2 (.slice o1 o4 o2) o3,.blk a6 [.int .i64 aL] 3])) ∧ (∀ (aK:Nat) (aB:OA) (aC:Nat) (l0:List Bool) (aD:OA) (aE:Nat) (l1:List V) (a2:ByteArray) (a3:Int) (a4:Int) (aF:OA) (aG:Nat) (l5:List QL) (aH:OA) (aI:Nat) (l6:List Q19) (aJ:OA) (s:Nat) (l7:List Qz) (z:OA) (a0:Nat) (l8:List Int) (a9:Int) (a1:Nat) (a5:Nat) (a7:OA) (a8:Nat) (aA:Nat) (aM:List Qv) (a6:Nat) (aL:Int) (aN:Int),Q2k N l0 l1 a2 a3 a4 l5 l6 l7 l8 a9 aM aL aN = some (.inr ()) → SpecX Tryz.prog 69 [.pointer (some ⟨aK,0,none⟩),.int .i64 aN] [.sli 1 Q1n aB aC l0,.sli 3 R_V aD aE l1,.sli 10 QR aF aG l5,.sli 4 QZ aH aI l6,.sli 3 QP aJ s l7,.sli 1 Q20 z a0 l8] [.blk aK [.slice aB l0.length aC,.slice aD l1.length aE,.string a2,.int .i64 a3,.int .i64 a4,.slice aF l5.length aG,.slice aH l6.length aI,.slice aJ l7.length s,.slice z l8.length a0,.int .i64 a9,.func (.func 66) #[] #[.pointer (some ⟨a1,0,none⟩),.pointer (some ⟨a6,0,none⟩)]] 135,.blk a1 [.func (.func 33) #[] #[.pointer (some ⟨a5,0,none⟩)]] 88,.blk a5 [.slice a7 a8 aA] 31,Q21 QN 41 2 (.slice a7 a8 aA) aM,.blk a6 [.int .i64 aL] 3] (.iface 131 (.agg #[]))):=by
 intro N
 induction N with
 | zero=>exact ⟨(by intro aK aB aC l0 aD aE l1 a2 a3 a4 aF aG l5 aH aI l6 aJ s l7 z a0 l8 a9 a1 a5 a7 a8 aA aM a6 aL aN o0 o3 hm; cases hm),(by intro aK aB aC l0 aD aE l1 a2 a3 a4 aF aG l5 aH aI l6 aJ s l7 z a0 l8 a9 a1 a5 a7 a8 aA aM a6 aL aN hm; cases hm)⟩
 | succ N ih=>exact ⟨fun aK aB aC l0 aD aE l1 a2 a3 a4 aF aG l5 aH aI l6 aJ s l7 z a0 l8 a9 a1 a5 a7 a8 aA aM a6 aL aN o0 o3 hm=>QbN N (Q2k N) ih aK aB aC l0 aD aE l1 a2 a3 a4 aF aG l5 aH aI l6 aJ s l7 z a0 l8 a9 a1 a5 a7 a8 aA aM a6 aL aN o0 o3 hm,fun aK aB aC l0 aD aE l1 a2 a3 a4 aF aG l5 aH aI l6 aJ s l7 z a0 l8 a9 a1 a5 a7 a8 aA aM a6 aL aN hm=>QbO N (Q2k N) ih aK aB aC l0 aD aE l1 a2 a3 a4 aF aG l5 aH aI l6 aJ s l7 z a0 l8 a9 a1 a5 a7 a8 aA aM a6 aL aN hm⟩
theorem w_naive_all_s0 (N:Nat) (b3:OA) (b4:Nat) (l0:List Ql) (aQ:OA) (aR:Nat) (l1:List Qi) (aL:OA) (aM:Nat) (l2:List Qz) (aD:Nat) (aW:OA) (aX:Nat) (aY:Nat) (l3:List Qv)  (hm:Q7t N l0 l1 l2 l3 = some (.inl ())):Q17 Tryz.prog 32 [.agg #[.slice b3 l0.length b4,.slice aQ l1.length aR],.slice aL l2.length aM,.func (.func 33) #[] #[.pointer (some ⟨aD,0,none⟩)]] [.sli 2 Qb b3 b4 l0,.sli 5 Qa aQ aR l1,.sli 3 QP aL aM l2] [.blk aD [.slice aW aX aY] 31,Q21 QN 41 2 (.slice aW aX aY) l3] (fun v Φr Hr=>v = .int .i64 204 ∧ Φr = [] ∧ Hr = []):=by
 unfold Q7t at hm
 refine spec_ofD Tryz.func32 Z Tryz.ntmps32 Z (S:=V3 ..) Z (fun C=>(Q5 (Q1 (wB Z (fun g3=>(wB Z (fun g5=>(QK Z Z Z Zq Z tZ_32 Z (fun g6=>(Q4 (Q3 (Q2 [6,5,3,1] (S':=V4 ..) Z (Q5 (Q1 (Q2o Z Z Z Zq Z Z (wl_defer Z Z Z Z (Q4 ?_)))))))))))))))))
 refine Q3 (Q2 [6,5,3,1] (S':=V4 ..) Z (Q5 (Q1 (wP Z (Q4 (Q3 (Q5 ?_)))))))
 obtain ⟨aU,hm,hLj_1⟩:=Q1o hm
 refine QM (σ:=(List Qv) × OA × Nat × Nat) (fun (a5,a6,a7,a8)=>aU = .inl a5) (fun (a5,a6,a7,a8)=>[(6,.pointer (some ⟨g6,0,none⟩))]) (fun (a5,a6,a7,a8)=>[]) (fun (a5,a6,a7,a8)=>[.blk g6 [.int .i64 0] 32,.blk aD [.slice a6 a8 a7] 31,Q21 QN 41 2 (.slice a6 a8 a7) a5]) ?_ ?_
 refine Q5 (Q1 (wF Z Q6Z (wD 2 1 Z Qai QaD Z (wN Z Q8x (wP Z (Q4 (Q3 (Q2 [15,14,13,7,6,5,1] (S':=V7 ..) Z (Qw (Q7M [0,1,3,4] Z (H':=V4 ..) Z (Q1j (σ:=Nat × Nat × Int × (List Qv) × OA × Nat × Nat) (fun (aE,a9,aA,s,z,a0,a1)=>Q1h (Q3H N l1 l2) aE (a9,aA,s) = some aU) (fun (aE,a9,aA,s,z,a0,a1)=>aE) (fun (aE,a9,aA,s,z,a0,a1)=>[(15,.int .i64 ((a9:Nat):Int)),(14,.int .i64 ((l1.length:Nat):Int)),(13,.slice aQ l1.length aR),(7,.int .i64 aA),(6,.pointer (some ⟨g6,0,none⟩)),(5,.pointer (some ⟨g5,0,none⟩)),(1,.slice aL l2.length aM)]) (fun (aE,a9,aA,s,z,a0,a1)=>[.sli 5 Qa aQ aR l1,.sli 3 QP aL aM l2]) (fun (aE,a9,aA,s,z,a0,a1)=>[.blk g6 [.int .i64 0] 32,.blk g5 [.func (.func 33) #[] #[.pointer (some ⟨aD,0,none⟩)]] 88,.blk aD [.slice z a1 a0] 31,Q21 QN 41 2 (.slice z a1 a0) s]) (N,0,4096,l3,aW,aY,aX) hm [15,14,13,7,6,5,1] Z (asK [1,2] Z) Z (fun s_ hm=>?_))))))))))))
 obtain ⟨aE,a9,aA,s,z,a0,a1⟩:=s_
 try dsimp only at hm ⊢
 obtain ⟨bL,bM,b5,hq,hLu1⟩:=QV hm
 clear hm
 subst b5
 replace hm:=hq
 clear hq
 unfold Q3H at hm
 try dsimp only at hm
 refine Q5 (Q1 (wP Z (Qs (d:=16) (v':=.bool (decide (a9 < l1.length))) (S':=V7 ..) Z Z (Q2l (a:=a9) (b:=l1.length)) (Q4 (Q3 (Q5 ?_))))))
 refine Qt Z (fun aN=>?_) (fun aN=>?_)
 replace hm:=QI hm aN
 refine Q2 [15,14,13,7,6,5,1] (S':=V7 ..) Z (Qr (Q3 (Q5 (Qw (Q5 (Q1 (wP Z ?_)))))))
 obtain ⟨aB,b6,hm⟩:=Q6 hm
 refine Q1a 0 a9 Z Z Z Zq Z Z Z Z Z b6 Q8x Q5X (fun bN bO bJ bF=>(Q1G Q3D 1 Z (fun aC b7 _=>?_)))
 subst b7
 refine Q1F 2 0 Z Z Z Zq Z Z Z (cs:=V5 ..) Z Q5X tA_52 Z Z (QK Z Z Z Zq Z tZ_3 Z (fun g8=>(QK Z Z Z Zq Z tZ_52 Z (fun g9=>(wS 1 0 Z Q1m (all':=[_]) Z (H':=V6 ..) Z (wS 0 0 Z Q5X (all':=V5 ..) Z (H':=V6 ..) Z (Q4 (Q3 (Q2 [9,8,15,14,13,7,6,5,1] (S':=V9 ..) Z (Q5 ?_))))))))))
 obtain ⟨⟨aF,aG⟩,b8,hm⟩:=Q6 hm
 try dsimp only at hm
 refine QW [0,1,3,4,5,6] Z Z (fun hok=>(Q8 hok 0 Z Z Z Zq Z Z Z QbE (Qn hok 1 0 2 Z Z Z Zq Z Z Z Z (cs:=[_]) Z Q1m Q1H Z Z (Qn hok 3 0 0 Z Z Z Zq Z Z Z Z (cs:=V5 ..) Z Q5X tA_52 Z Z (xP hok 4 Z (xP hok 5 Z (xS hok 2 Z (wC [] [0,1,2,3,4,5] Z fn_43 Z (Q9B N aB.vars _ _ b8) (asK [] Z) Z (H':=V6 ..) Z ?_))))))))
 rintro _ _ _ ⟨aH,aI,bG,aJ,aK,bH,rfl,rfl,rfl⟩
 refine Q4 (QJ [0,1,2,3,4,5] [2] Z Z (Q9y hok 6 Z Z Z Zq Z Z tZ_135 tP_135 Z (out:=V11 ..) Z (xS hok 7 Z (wB Z (fun b9=>(Q4 (QJ [0,1,2,3,4,5] [3,3] Z Z (xS hok 8 Z (wP Z (Q4 (QJ [0,1,2,3,4,5] [] Z Z (QS hok Z (Q3 (Q2 [10,8,15,14,13,6,5,1] (S':=V8 ..) Z ?_))))))))))))))
 refine Q5 (Q1 (wP Z (Q2o Z Z Z Zq Z Z (wP Z (wF Z tF_135_5 (wS 0 10 Z tS_133 (all':=V11 ..) Z (H':=V9 ..) Z (Q4 (Q3 (Q2 [10,15,14,13,6,5,1] (S':=V7 ..) Z (Q5 (Q1 (wP Z (QQ 1 Z (fun aO _=>?_))))))))))))))
 subst aO
 refine Q1P 1 Z (H':=V8 ..) Z (Q2n (.sli 1 Q1n aH aI aF) (fun F w hφ=>Q1A (hφ _ (Q12 (k:=0) Z))) (QQ 1 Z (fun aP _=>?_)))
 subst aP
 refine Q1P 1 Z (H':=V7 ..) Z (Q2n (.sli 3 R_V aJ aK aG) (fun F w hφ=>Q1A (hφ _ (Q12 (k:=0) Z))) (Q2n (.sli 1 Q20 none 0 ([] : List Int)) (fun _ _ _=>Qaa) ?_))
 obtain ⟨⟨bI,aZ⟩ | _,aV,hm⟩:=Q6 hm
 try dsimp only at hm
 refine wC [0,4,5,6,2] [1,3] Z Q9K Z ((Q6e N).1 b9 aH aI aF aJ aK aG aB.name aB.salience aB.vars aC.1.1 aC.1.2 aB.conds aC.2.1 aC.2.2 aB.acts aL aM l2 none 0 ([] : List Int) aA g5 aD z a1 a0 s g8 ((a9:Nat):Int) 0 _ _ aV) (asK [3,1,5,6,10,0] Z) Z (H':=[_,_]) Z ?_
 rintro _ _ _ ⟨b0,b1,b2,rfl,rfl,rfl⟩
 refine Q4 (Q3 (Q2 [10,15,14,13,6,5,1] (S':=V7 ..) Z (Q1 (wP Z (wP Z (wF Z Q9l (wD 0 9 Z Q1m Q1H Z (wP Z (Q4 (Qf (Q3 (Q2 [7,15,14,13,6,5,1] (S':=V7 ..) Z (Q1 ?_)))))))))))))
 refine wP Z ?_
 obtain ⟨bA,hm⟩:=Qd hm
 refine Qs (d:=38) (v':=.int .i64 ((a9 + 1:Nat):Int)) (S':=V7 ..) Z Z (Q1r (a:=a9) (b:=1) bA) (QT (S':=V7 ..) Z Z Z Z Z (Q4 ?_))
 have hE:=(Zi hm).symm
 replace hE:=QF hLu1 hE
 refine QE [6,1,2,3] Z (H':=V4 ..) Z ?_
 refine QU (_,a9 + 1,bI,aZ,b0,b1,b2) (Nat.lt_succ_self _) hE [15,14,13,7,6,5,1] Z (asK [15,4] Z) Z
 try dsimp only at hm
 refine Q9x [0,4,5,6,2] [1,3] Z Z Z Q9K Z ((Q6e N).2 b9 aH aI aF aJ aK aG aB.name aB.salience aB.vars aC.1.1 aC.1.2 aB.conds aC.2.1 aC.2.2 aB.acts aL aM l2 none 0 ([] : List Int) aA g5 aD z a1 a0 s g8 ((a9:Nat):Int) 0 aV) (asK [3,1,5,6,10,0] Z) Z (H':=[_,_]) Z (Q2d (Q2m (Q2d (Q2d (Q2m (Q2d (we_recover fn_65 (recovers_65 _) (H':=[_,_]) (fun w hw=>⟨_,⟨hw.blk1 1 Z,Z⟩,hw.store (k:=1) 0 Z (by decide) Z Z⟩) ?_)))))))
 have hE:=(Zi hm).symm
 replace hE:=Qx hLu1 hE
 replace hE:=Qx hLj_1 hE
 replace hE:=Sum.inl.inj hE
 refine Qp (Hr:=[]) [] Tryz.results32 (Q1e 1 Z Z tS_32 tA_32 Z Z) ⟨Z,Z,Z⟩ (asK [] Z) Z Z (.inl Z)
 replace hm:=QH hm aN
 refine Q2 [6] (S':=[_]) Z (Q1g (Qj (Qj (QD ?_))))
 have hE:=(Zi hm).symm
 replace hE:=Qx hLu1 hE
 refine QE [0,2,3] Z (H':=V3 ..) Z ?_
 refine Qh (s,z,a0,a1) hE [6] Z (asK [] Z) Z
 ·
  rintro ⟨a5,a6,a7,a8⟩ hE
  try dsimp only
  have hm:=QF hLj_1 hE
  refine Q5 (Q1 (wS 0 0 Z tS_32 (all':=[_]) Z (H':=V3 ..) Z (Q4 (Q3 (Qo (we_idle fn_65 (idle_65 _) (.inl Z) ?_))))))
  have hE:=(Zi hm).symm
  cases hE
theorem w_naive_all_s1 (N:Nat) (b3:OA) (b4:Nat) (l0:List Ql) (aQ:OA) (aR:Nat) (l1:List Qi) (aL:OA) (aM:Nat) (l2:List Qz) (aC:Nat) (aW:OA) (aX:Nat) (aY:Nat) (l3:List Qv) (o2:List Qv) (hm:Q7t N l0 l1 l2 l3 = some (.inr o2)):Q17 Tryz.prog 32 [.agg #[.slice b3 l0.length b4,.slice aQ l1.length aR],.slice aL l2.length aM,.func (.func 33) #[] #[.pointer (some ⟨aC,0,none⟩)]] [.sli 2 Qb b3 b4 l0,.sli 5 Qa aQ aR l1,.sli 3 QP aL aM l2] [.blk aC [.slice aW aX aY] 31,Q21 QN 41 2 (.slice aW aX aY) l3] (fun v Φr Hr=>∃ (o0:OA) (o1:Nat) (o3:Nat),v = .int .i64 0 ∧ Φr = [] ∧ Hr = [.blk aC [.slice o0 o3 o1] 31,Q21 QN 41 2 (.slice o0 o3 o1) o2]):=by
 unfold Q7t at hm
 refine spec_ofD Tryz.func32 Z Tryz.ntmps32 Z (S:=V3 ..) Z (fun C=>(Q5 (Q1 (wB Z (fun g3=>(wB Z (fun g5=>(QK Z Z Z Zq Z tZ_32 Z (fun g6=>(Q4 (Q3 (Q2 [6,5,3,1] (S':=V4 ..) Z (Q5 (Q1 (Q2o Z Z Z Zq Z Z (wl_defer Z Z Z Z (Q4 ?_)))))))))))))))))
 refine Q3 (Q2 [6,5,3,1] (S':=V4 ..) Z (Q5 (Q1 (wP Z (Q4 (Q3 (Q5 ?_)))))))
 obtain ⟨aU,hm,hLj_1⟩:=Q1o hm
 refine QM (σ:=(List Qv) × OA × Nat × Nat) (fun (a8,a5,a6,a7)=>aU = .inl a8) (fun (a8,a5,a6,a7)=>[(6,.pointer (some ⟨g6,0,none⟩))]) (fun (a8,a5,a6,a7)=>[]) (fun (a8,a5,a6,a7)=>[.blk g6 [.int .i64 0] 32,.blk aC [.slice a5 a7 a6] 31,Q21 QN 41 2 (.slice a5 a7 a6) a8]) ?_ ?_
 refine Q5 (Q1 (wF Z Q6Z (wD 2 1 Z Qai QaD Z (wN Z Q8x (wP Z (Q4 (Q3 (Q2 [15,14,13,7,6,5,1] (S':=V7 ..) Z (Qw (Q7M [0,1,3,4] Z (H':=V4 ..) Z (Q1j (σ:=Nat × Nat × Int × (List Qv) × OA × Nat × Nat) (fun (aE,a9,aA,s,z,a0,a1)=>Q1h (Q3H N l1 l2) aE (a9,aA,s) = some aU) (fun (aE,a9,aA,s,z,a0,a1)=>aE) (fun (aE,a9,aA,s,z,a0,a1)=>[(15,.int .i64 ((a9:Nat):Int)),(14,.int .i64 ((l1.length:Nat):Int)),(13,.slice aQ l1.length aR),(7,.int .i64 aA),(6,.pointer (some ⟨g6,0,none⟩)),(5,.pointer (some ⟨g5,0,none⟩)),(1,.slice aL l2.length aM)]) (fun (aE,a9,aA,s,z,a0,a1)=>[.sli 5 Qa aQ aR l1,.sli 3 QP aL aM l2]) (fun (aE,a9,aA,s,z,a0,a1)=>[.blk g6 [.int .i64 0] 32,.blk g5 [.func (.func 33) #[] #[.pointer (some ⟨aC,0,none⟩)]] 88,.blk aC [.slice z a1 a0] 31,Q21 QN 41 2 (.slice z a1 a0) s]) (N,0,4096,l3,aW,aY,aX) hm [15,14,13,7,6,5,1] Z (asK [1,2] Z) Z (fun s_ hm=>?_))))))))))))
 obtain ⟨aE,a9,aA,s,z,a0,a1⟩:=s_
 try dsimp only at hm ⊢
 obtain ⟨bP,bQ,b5,hq,hLu1⟩:=QV hm
 clear hm
 subst b5
 replace hm:=hq
 clear hq
 unfold Q3H at hm
 try dsimp only at hm
 refine Q5 (Q1 (wP Z (Qs (d:=16) (v':=.bool (decide (a9 < l1.length))) (S':=V7 ..) Z Z (Q2l (a:=a9) (b:=l1.length)) (Q4 (Q3 (Q5 ?_))))))
 refine Qt Z (fun aN=>?_) (fun aN=>?_)
 replace hm:=QI hm aN
 refine Q2 [15,14,13,7,6,5,1] (S':=V7 ..) Z (Qr (Q3 (Q5 (Qw (Q5 (Q1 (wP Z ?_)))))))
 obtain ⟨aB,b6,hm⟩:=Q6 hm
 refine Q1a 0 a9 Z Z Z Zq Z Z Z Z Z b6 Q8x Q5X (fun bR bS bN bF=>(Q1G Q3D 1 Z (fun aD b7 _=>?_)))
 subst b7
 refine Q1F 2 0 Z Z Z Zq Z Z Z (cs:=V5 ..) Z Q5X tA_52 Z Z (QK Z Z Z Zq Z tZ_3 Z (fun g8=>(QK Z Z Z Zq Z tZ_52 Z (fun g9=>(wS 1 0 Z Q1m (all':=[_]) Z (H':=V6 ..) Z (wS 0 0 Z Q5X (all':=V5 ..) Z (H':=V6 ..) Z (Q4 (Q3 (Q2 [9,8,15,14,13,7,6,5,1] (S':=V9 ..) Z (Q5 ?_))))))))))
 obtain ⟨⟨aF,aG⟩,b8,hm⟩:=Q6 hm
 try dsimp only at hm
 refine QW [0,1,3,4,5,6] Z Z (fun hok=>(Q8 hok 0 Z Z Z Zq Z Z Z QbE (Qn hok 1 0 2 Z Z Z Zq Z Z Z Z (cs:=[_]) Z Q1m Q1H Z Z (Qn hok 3 0 0 Z Z Z Zq Z Z Z Z (cs:=V5 ..) Z Q5X tA_52 Z Z (xP hok 4 Z (xP hok 5 Z (xS hok 2 Z (wC [] [0,1,2,3,4,5] Z fn_43 Z (Q9B N aB.vars _ _ b8) (asK [] Z) Z (H':=V6 ..) Z ?_))))))))
 rintro _ _ _ ⟨aH,aI,bG,aJ,aK,bH,rfl,rfl,rfl⟩
 refine Q4 (QJ [0,1,2,3,4,5] [2] Z Z (Q9y hok 6 Z Z Z Zq Z Z tZ_135 tP_135 Z (out:=V11 ..) Z (xS hok 7 Z (wB Z (fun b9=>(Q4 (QJ [0,1,2,3,4,5] [3,3] Z Z (xS hok 8 Z (wP Z (Q4 (QJ [0,1,2,3,4,5] [] Z Z (QS hok Z (Q3 (Q2 [10,8,15,14,13,6,5,1] (S':=V8 ..) Z ?_))))))))))))))
 refine Q5 (Q1 (wP Z (Q2o Z Z Z Zq Z Z (wP Z (wF Z tF_135_5 (wS 0 10 Z tS_133 (all':=V11 ..) Z (H':=V9 ..) Z (Q4 (Q3 (Q2 [10,15,14,13,6,5,1] (S':=V7 ..) Z (Q5 (Q1 (wP Z (QQ 1 Z (fun aO _=>?_))))))))))))))
 subst aO
 refine Q1P 1 Z (H':=V8 ..) Z (Q2n (.sli 1 Q1n aH aI aF) (fun F w hφ=>Q1A (hφ _ (Q12 (k:=0) Z))) (QQ 1 Z (fun aP _=>?_)))
 subst aP
 refine Q1P 1 Z (H':=V7 ..) Z (Q2n (.sli 3 R_V aJ aK aG) (fun F w hφ=>Q1A (hφ _ (Q12 (k:=0) Z))) (Q2n (.sli 1 Q20 none 0 ([] : List Int)) (fun _ _ _=>Qaa) ?_))
 obtain ⟨⟨bI,aZ⟩ | _,aV,hm⟩:=Q6 hm
 try dsimp only at hm
 refine wC [0,4,5,6,2] [1,3] Z Q9K Z ((Q6e N).1 b9 aH aI aF aJ aK aG aB.name aB.salience aB.vars aD.1.1 aD.1.2 aB.conds aD.2.1 aD.2.2 aB.acts aL aM l2 none 0 ([] : List Int) aA g5 aC z a1 a0 s g8 ((a9:Nat):Int) 0 _ _ aV) (asK [3,1,5,6,10,0] Z) Z (H':=[_,_]) Z ?_
 rintro _ _ _ ⟨b0,b1,b2,rfl,rfl,rfl⟩
 refine Q4 (Q3 (Q2 [10,15,14,13,6,5,1] (S':=V7 ..) Z (Q1 (wP Z (wP Z (wF Z Q9l (wD 0 9 Z Q1m Q1H Z (wP Z (Q4 (Qf (Q3 (Q2 [7,15,14,13,6,5,1] (S':=V7 ..) Z (Q1 ?_)))))))))))))
 refine wP Z ?_
 obtain ⟨bA,hm⟩:=Qd hm
 refine Qs (d:=38) (v':=.int .i64 ((a9 + 1:Nat):Int)) (S':=V7 ..) Z Z (Q1r (a:=a9) (b:=1) bA) (QT (S':=V7 ..) Z Z Z Z Z (Q4 ?_))
 have hE:=(Zi hm).symm
 replace hE:=QF hLu1 hE
 refine QE [6,1,2,3] Z (H':=V4 ..) Z ?_
 refine QU (_,a9 + 1,bI,aZ,b0,b1,b2) (Nat.lt_succ_self _) hE [15,14,13,7,6,5,1] Z (asK [15,4] Z) Z
 ·
  try dsimp only at hm
  refine Q9x [0,4,5,6,2] [1,3] Z Z Z Q9K Z ((Q6e N).2 b9 aH aI aF aJ aK aG aB.name aB.salience aB.vars aD.1.1 aD.1.2 aB.conds aD.2.1 aD.2.2 aB.acts aL aM l2 none 0 ([] : List Int) aA g5 aC z a1 a0 s g8 ((a9:Nat):Int) 0 aV) (asK [3,1,5,6,10,0] Z) Z (H':=[_,_]) Z (Q2d (Q2m (Q2d (Q2d (Q2m (Q2d (we_recover fn_65 (recovers_65 _) (H':=[_,_]) (fun w hw=>⟨_,⟨hw.blk1 1 Z,Z⟩,hw.store (k:=1) 0 Z (by decide) Z Z⟩) ?_)))))))
  have hE:=(Zi hm).symm
  replace hE:=Qx hLu1 hE
  replace hE:=Qx hLj_1 hE
  cases hE
 replace hm:=QH hm aN
 refine Q2 [6] (S':=[_]) Z (Q1g (Qj (Qj (QD ?_))))
 have hE:=(Zi hm).symm
 replace hE:=Qx hLu1 hE
 refine QE [0,2,3] Z (H':=V3 ..) Z ?_
 refine Qh (s,z,a0,a1) hE [6] Z (asK [] Z) Z
 rintro ⟨a8,a5,a6,a7⟩ hE
 try dsimp only
 have hm:=QF hLj_1 hE
 refine Q5 (Q1 (wS 0 0 Z tS_32 (all':=[_]) Z (H':=V3 ..) Z (Q4 (Q3 (Qo (we_idle fn_65 (idle_65 _) (.inl Z) ?_))))))
 have hE:=(Zi hm).symm
 replace hE:=Sum.inr.inj hE
 replace hE:=hE.symm
 subst hE
 refine Qp (Hr:=[_,_]) [1,2] Tryz.results32 (Q1e 0 Z Z tS_32 tA_32 Z Z) ⟨a5,a6,a7,Z,Z,Z⟩ (asK [] Z) Z Z (.inl Z)
theorem Q90 (N:Nat) (z:OA) (a0:Nat) (l0:List Ql) (a1:OA) (a5:Nat) (l1:List Qi) (a6:OA) (a7:Nat) (l2:List Qz) (o2:List Qv) (o4:Nat) (hm:Q5g N l0 l1 l2 = some (o2,o4)):Q17 Tryz.prog 12 [.agg #[.slice z l0.length a0,.slice a1 l1.length a5],.slice a6 l2.length a7] [.sli 2 Qb z a0 l0,.sli 5 Qa a1 a5 l1,.sli 3 QP a6 a7 l2] [] (fun v Φr Hr=>∃ (o0:OA) (o1:Nat) (o3:Nat),v = .tuple #[.slice o0 o3 o1,.int .i64 ((o4:Nat):Int)] ∧ Φr = [] ∧ Hr = [Q21 QN 41 2 (.slice o0 o3 o1) o2]):=by
 unfold Q5g at hm
 refine QC Tryz.func12 Z Tryz.ntmps12 Z (S:=[_,_]) Z (fun C=>(Q5 (Q1 (wB Z (fun g2=>(wP Z (wP Z (Q4 (Q3 (Q2 [2,1] (S':=[_,_]) Z (Q5 (Q5 ?_))))))))))))
 obtain ⟨aH,hm,hLj_1⟩:=Q6 hm
 refine QM (σ:=Bool) (fun s=>aH = s) (fun s=>[(2,.pointer (some ⟨g2,0,none⟩)),(1,.slice a6 l2.length a7),(16,.bool s)]) (fun s=>[.sli 2 Qb z a0 l0,.sli 5 Qa a1 a5 l1,.sli 3 QP a6 a7 l2]) (fun s=>[.blk g2 [.slice z l0.length a0,.slice a1 l1.length a5] 25]) ?_ ?_
 refine Q1 (QO 0 0 Z Z Z Zq Z Z Z (cs:=[_,_]) Z Q8M QaE Z Z ?_)
 obtain ⟨v9,aJ,hm⟩:=Q6 hm
 refine wC [] [0] Z fn_30 Z (QbZ N z a0 l0 a1 a5 l1 _ aJ) (asK [0,1] Z) Z (H':=[_]) Z ?_
 rintro _ _ _ ⟨rfl,rfl,rfl⟩
 refine wP Z (wP Z ?_)
 refine QG (d:=11) (S':=V5 ..) Z Z (fun a8=>?_) (fun a8=>?_)
 replace hm:=QI hm a8
 refine wO Z (wO Z (wO Z (wO Z (wP Z (Q4 ?_)))))
 have hE:=(Zi hm).symm
 refine Qh true hE [2,1,16] Z (asK [0,1,2] Z) Z
 replace hm:=QH hm a8
 refine QO 0 0 Z Z Z Zq Z Z Z (cs:=[_,_]) Z Q8M QaE Z Z (wP Z ?_)
 obtain ⟨aK,aI,hm⟩:=Q6 hm
 refine wC [] [0] Z fn_31 Z (Qc1 N z a0 l0 a1 a5 l1 a6 a7 l2 _ aI) (asK [0,1,2] Z) Z (H':=[_]) Z ?_
 rintro _ _ _ ⟨rfl,rfl,rfl⟩
 refine wP Z (wP Z (Q4 ?_))
 have hE:=(Zi hm).symm
 refine Qh (!aK) hE [2,1,16] Z (asK [0,1,2] Z) Z
 rintro s hE
 try dsimp only
 have hm:=hLj_1
 try rw [hE] at hm
 refine Qt Z (fun a9=>?_) (fun a9=>?_)
 replace hm:=QI hm a9
 refine Q2 [] (S':=[]) Z (Q5 (Q1 (wP Z (wP Z (Q4 (Q3 (Qo (Q9 ?_))))))))
 have hE:=(Zi hm).symm
 obtain ⟨hE0,hE1⟩:=Prod.mk.inj hE
 clear hE
 replace hE0:=hE0.symm
 subst hE0
 replace hE1:=hE1.symm
 subst hE1
 refine we_sh [Q21 QN 41 2 (V1) [],_] (fun _ h=>h.treeNil QN 41 2) ?_
 refine Q1D (Hr:=[_]) [0] Tryz.results12 (Qg Z) (Qg Z) ⟨none,0,0,Z,Z,Z⟩ (asK [] Z) Z Z (.inl Z)
 replace hm:=QH hm a9
 refine Q2 [2,1] (S':=[_,_]) Z (Qr (Q3 (Q5 (Q1 (QK Z Z Z Zq Z tZ_31 Z (fun g6=>(Q4 (Q3 (Q5 (Q5 (Q1 (QO 1 0 Z Z Z Zq Z Z Z (cs:=[_,_]) Z Q8M QaE Z Z (wP Z (Q2o Z Z Z Zq Z Z ?_))))))))))))))
 refine Q27 [Q21 QN 41 2 (V1) [],_,_] (fun _ h=>h.treeNil QN 41 2) ?_
 obtain ⟨_ | aS,aD,hm⟩:=Q6 hm
 try dsimp only at hm
 refine wC [1,0] [2] Z fn_32 Z (w_naive_all_s0 N z a0 l0 a1 a5 l1 a6 a7 l2 g6 none 0 0 [] aD) (asK [0,1,2] Z) Z (H':=[_]) Z ?_
 rintro _ _ _ ⟨rfl,rfl,rfl⟩
 refine wP Z (Q4 (Q3 (Q2 [7,6] (S':=[_,_]) Z (Q5 (Q1 (wP Z (wP Z (Qs (d:=22) (v':=.bool true) (S':=V3 ..) Z Z Z (Q4 (Q3 (Q2 [22,7,6] (S':=V3 ..) Z (Q8D Z (Q2 [7] (S':=[_]) Z ?_)))))))))))))
 refine Q5 (Q1 (wP Z (wP Z (wP Z (Q4 (Q3 (Q2 [5,4] (S':=[_,_]) Z (Qo (Q9 ?_)))))))))
 have hE:=(Zi hm).symm
 obtain ⟨hE0,hE1⟩:=Prod.mk.inj hE
 clear hE
 replace hE0:=hE0.symm
 subst hE0
 replace hE1:=hE1.symm
 subst hE1
 refine we_sh [Q21 QN 41 2 (V1) [],_] (fun _ h=>h.treeNil QN 41 2) ?_
 refine Q1D (Hr:=[_]) [0] Tryz.results12 (Qg Z) (Qg Z) ⟨none,0,0,Z,Z,Z⟩ (asK [] Z) Z Z (.inl Z)
 try dsimp only at hm
 refine wC [1,0] [2] Z fn_32 Z (w_naive_all_s1 N z a0 l0 a1 a5 l1 a6 a7 l2 g6 none 0 0 [] _ aD) (asK [0,1,2] Z) Z (H':=[_]) Z ?_
 rintro _ _ _ ⟨aE,aF,aG,rfl,rfl,rfl⟩
 refine wP Z (Q4 (Q3 (Q2 [7,6] (S':=[_,_]) Z (Q5 (Q1 (wP Z (wP Z (Qs (d:=22) (v':=.bool false) (S':=V3 ..) Z Z Z (Q4 (Q3 (Q2 [22,7,6] (S':=V3 ..) Z (Q1l Z (Q2 [6] (S':=[_]) Z ?_)))))))))))))
 refine Qr (Q3 (Q5 (Q1 (wD 0 0 Z tS_31 tA_31 Z (wP Z (wP Z (Q4 (Q3 (Q2 [5,4] (S':=[_,_]) Z (Qo ?_))))))))))
 have hE:=(Zi hm).symm
 obtain ⟨hE0,hE1⟩:=Prod.mk.inj hE
 clear hE
 replace hE0:=hE0.symm
 subst hE0
 replace hE1:=hE1.symm
 subst hE1
 refine Q1D (Hr:=[_]) [1] Tryz.results12 (Qg Z) (Qg Z) ⟨aE,aF,aG,Z,Z,Z⟩ (asK [] Z) Z Z (.inl Z)
theorem QaK (N:Nat) (a0:Int)  (hm:Q82 N a0 = some ()):Q17 Tryz.prog 87 [.int .i64 a0] [] [] (fun v Φr Hr=>v = .bool (a0 != a0) ∧ Φr = [] ∧ Hr = []):=by
 unfold Q82 at hm
 refine QC Tryz.func87 Z Tryz.ntmps87 Z (S:=[_]) Z (fun C=>(Q5 (Q1 (wP Z (Q4 (Q3 (Q2 [0] (S':=[_]) Z (Q5 (Q1 (wP Z (wP Z (wP Z (wP Z (Q4 ?_))))))))))))))
 refine Q3 (Q2 [2] (S':=[_]) Z (Qo ?_))
 have hE:=(Zi hm).symm
 refine Qp (Hr:=[]) [] Tryz.results87 (Qg Z) ⟨Z,Z,Z⟩ (asK [] Z) Z Z (.inl Z)
theorem Qcr (N:Nat) (a0:Int) (a1:Int) (o0:Int) (hm:Q8p N a0 a1 = some o0):Q17 Tryz.prog 48 [.int .i64 a0,.int .i64 a1] [] [] (fun v Φr Hr=>v = .int .i64 o0 ∧ Φr = [] ∧ Hr = []):=by
 unfold Q8p at hm
 refine QC Tryz.func48 Z Tryz.ntmps48 Z (S:=[_,_]) Z (fun C=>(Q5 (Q1 (wP Z (Q4 (Q3 (Q2 [0,1] (S':=[_,_]) Z (Q5 (Q1 (wP Z ?_))))))))))
 obtain ⟨_,aB,hm⟩:=Q6 hm
 try dsimp only at hm
 refine wC [] [] Z fn_87 Z (QaK N a0 aB) (asK [] Z) Z (H':=[]) Z ?_
 rintro _ _ _ ⟨rfl,rfl,rfl⟩
 refine wP Z (Q4 (Q3 (Q2 [5,0,1] (S':=V3 ..) Z (Q5 (Q1 (wP Z ?_))))))
 obtain ⟨_,a8,hm⟩:=Q6 hm
 try dsimp only at hm
 refine wC [] [] Z fn_87 Z (QaK N a1 a8) (asK [] Z) Z (H':=[]) Z ?_
 rintro _ _ _ ⟨rfl,rfl,rfl⟩
 refine wP Z (Q4 (Q3 (Q2 [6,5,0,1] (S':=V4 ..) Z (Q5 (Q5 (Q1 (wP Z (Q4 (Q3 (Q2 [11,6,0,1] (S':=V4 ..) Z ?_))))))))))
 refine Qt Z (fun s=>?_) (fun s=>?_)
 replace hm:=QI hm s
 refine Q2 [6] (S':=[_]) Z (Q5 (Q5 (Q1 (wP Z (Q4 (Q3 (Q2 [12] (S':=[_]) Z ?_)))))))
 refine Qt Z (fun z=>?_) (fun z=>?_)
 replace hm:=QI hm z
 refine Q2 [] (S':=[]) Z (Q5 (Q1 (wP Z (Q4 (Q3 (Qo (Q9 (Q9 ?_))))))))
 have hE:=(Zi hm).symm
 replace hE:=hE.symm
 subst hE
 refine Qp (Hr:=[]) [] Tryz.results48 (Qg Z) ⟨Z,Z,Z⟩ (asK [] Z) Z Z (.inl Z)
 replace hm:=QH hm z
 refine Q2 [] (S':=[]) Z (Qr (Q3 (Q5 (Q1 (wP Z (Q4 (Q3 (Qo (Q9 ?_)))))))))
 have hE:=(Zi hm).symm
 replace hE:=hE.symm
 subst hE
 refine Qp (Hr:=[]) [] Tryz.results48 (Qg Z) ⟨Z,Z,Z⟩ (asK [] Z) Z Z (.inl Z)
 replace hm:=QH hm s
 refine Q2 [6,0,1] (S':=V3 ..) Z (Qr (Q3 (Q5 (Q5 (Q1 (wP Z (Q4 (Q3 (Q2 [13,0,1] (S':=V3 ..) Z ?_)))))))))
 refine Qt Z (fun a5=>?_) (fun a5=>?_)
 replace hm:=QI hm a5
 refine Q2 [] (S':=[]) Z (Q5 (Q1 (wP Z (Q4 (Q3 (Qo (Q9 ?_)))))))
 have hE:=(Zi hm).symm
 replace hE:=hE.symm
 subst hE
 refine Qp (Hr:=[]) [] Tryz.results48 (Qg Z) ⟨Z,Z,Z⟩ (asK [] Z) Z Z (.inl Z)
 replace hm:=QH hm a5
 refine Q2 [0,1] (S':=[_,_]) Z (Qr (Q3 (Q5 (Q5 (Q1 (wP Z (wP Z (wP Z (Q4 (Q3 (Q2 [16,0,1] (S':=V3 ..) Z ?_)))))))))))
 refine Qt Z (fun a6=>?_) (fun a6=>?_)
 replace hm:=QI hm a6
 refine Q2 [] (S':=[]) Z (Q5 (Q1 (wP Z (Q4 (Q3 (Qo (Q9 ?_)))))))
 have hE:=(Zi hm).symm
 replace hE:=hE.symm
 subst hE
 refine Qp (Hr:=[]) [] Tryz.results48 (Qg Z) ⟨Z,Z,Z⟩ (asK [] Z) Z Z (.inl Z)
 replace hm:=QH hm a6
 refine Q2 [0,1] (S':=[_,_]) Z (Qr (Q3 (Q5 (Q5 (Q1 (wP Z (wP Z (wP Z (Q4 (Q3 (Q2 [19] (S':=[_]) Z ?_)))))))))))
 refine Qt Z (fun a7=>?_) (fun a7=>?_)
 replace hm:=QI hm a7
 refine Q2 [] (S':=[]) Z (Q5 (Q1 (wP Z (Q4 (Q3 (Qo (Q9 ?_)))))))
 have hE:=(Zi hm).symm
 replace hE:=hE.symm
 subst hE
 refine Qp (Hr:=[]) [] Tryz.results48 (Qg Z) ⟨Z,Z,Z⟩ (asK [] Z) Z Z (.inl Z)
 replace hm:=QH hm a7
 refine Q2 [] (S':=[]) Z (Qr (Q3 (Q5 (Q1 (wP Z (Q4 (Q3 (Qo ?_))))))))
 have hE:=(Zi hm).symm
 replace hE:=hE.symm
 subst hE
 refine Qp (Hr:=[]) [] Tryz.results48 (Qg Z) ⟨Z,Z,Z⟩ (asK [] Z) Z Z (.inl Z)
theorem Qbb (N:Nat) (a0:Int) (a1:Int) (qp0:OA) (qc1:Nat) (l2:List V) (a3:Int) (o0:Int) (hm:Q8q N a0 a1 l2 a3 = some o0):Q17 Tryz.prog 47 [.agg #[.int .i64 a0,.int .i64 a1,.slice qp0 l2.length qc1],.int .i64 a3] [.sli 3 R_V qp0 qc1 l2] [] (fun v Φr Hr=>v = .int .i64 o0 ∧ Φr = [] ∧ Hr = []):=by
 unfold Q8q at hm
 refine QC Tryz.func47 Z Tryz.ntmps47 Z (S:=[_,_]) Z (fun C=>(Q5 (Q1 (wB Z (fun g2=>(wP Z (Q4 (Q3 (Q2 [2,1] (S':=[_,_]) Z (Q5 (Q1 (wF Z Q6d (wD 0 0 Z Q1m Q1H Z (wP Z ?_))))))))))))))
 obtain ⟨v8,hc8,hm⟩:=Q6 hm
 refine wC [] [0] Z fn_48 Z (Qcr N a0 a3 _ hc8) (asK [] Z) Z (H':=[_]) Z ?_
 rintro _ _ _ ⟨rfl,rfl,rfl⟩
 refine wP Z (Q4 (Q3 (Q2 [4] (S':=[_]) Z (Qo ?_))))
 have hE:=(Zi hm).symm
 replace hE:=hE.symm
 subst hE
 refine Qp (Hr:=[]) [] Tryz.results47 (Qg Z) ⟨Z,Z,Z⟩ (asK [] Z) Z Z (.inl Z)
theorem Q8K (N:Nat) (a6:OA) (a7:Nat) (l0:List Qz) (a1:Int) (o0:Int) (o1:Bool) (hm:Q4z N l0 a1 = some (o0,o1)):Q17 Tryz.prog 46 [.slice a6 l0.length a7,.int .i64 a1,.func (.func 47) #[] #[]] [.sli 3 QP a6 a7 l0] [] (fun v Φr Hr=>v = .tuple #[.int .i64 o0,.bool o1] ∧ Φr = [] ∧ Hr = []):=by
 unfold Q4z at hm
 refine QC Tryz.func46 Z Tryz.ntmps46 Z (S:=V3 ..) Z (fun C=>(Q5 (Q1 (wP Z (wP Z (Q4 (Q3 (Q2 [0,1,2] (S':=V3 ..) Z (Q5 (Q1 (wP Z (wN Z Q2y (wP Z (Q4 ?_))))))))))))))
 refine Q3 (Q2 [8,0,1,2] (S':=V4 ..) Z (Q5 (Q1 (wP Z (wP Z (wP Z (Q4 (Q3 (Q2 [10,9,8,0,1,2] (S':=V6 ..) Z (Q5 ?_))))))))))
 obtain ⟨aC,hm,hLj_1⟩:=Q6 hm
 refine QM (σ:=Int) (fun a0=>aC = a0) (fun a0=>[(9,.int .i64 a0),(8,.int .i64 ((l0.length:Nat):Int)),(0,.slice a6 l0.length a7),(1,.int .i64 a1),(2,.func (.func 47) #[] #[])]) (fun a0=>[.sli 3 QP a6 a7 l0]) (fun a0=>[]) ?_ ?_
 refine Qw (Q1j (σ:=Nat × Int × Int) (fun (a5,s,z)=>Q1h (Q3K N l0 a1) a5 (s,z) = some aC) (fun (a5,s,z)=>a5) (fun (a5,s,z)=>[(10,.int .i64 s),(9,.int .i64 z),(8,.int .i64 ((l0.length:Nat):Int)),(0,.slice a6 l0.length a7),(1,.int .i64 a1),(2,.func (.func 47) #[] #[])]) (fun (a5,s,z)=>[.sli 3 QP a6 a7 l0]) (fun (a5,s,z)=>[]) (N,((l0.length:Nat):Int),0) hm [10,9,8,0,1,2] Z (asK [0] Z) Z (fun s_ hm=>?_))
 obtain ⟨a5,s,z⟩:=s_
 try dsimp only at hm ⊢
 obtain ⟨aZ,b0,aG,hq,hLu1⟩:=QV hm
 clear hm
 subst aG
 replace hm:=hq
 clear hq
 unfold Q3K at hm
 try dsimp only at hm
 refine Q5 (Q5 (Q1 (wP Z (wP Z (wP Z (Q4 (Q3 (Q2 [17,10,9,8,0,1,2] (S':=V7 ..) Z ?_))))))))
 refine Qt Z (fun a9=>?_) (fun a9=>?_)
 replace hm:=QI hm a9
 refine Q2 [10,9,8,0,1,2] (S':=V6 ..) Z (Qr (Q3 (Qw (Q5 (Q1 (wP Z (wP Z (wP Z ?_))))))))
 obtain ⟨aH,hm⟩:=Qd hm
 refine Qs (d:=20) (v':=.int .i64 (z + s)) (S':=V8 ..) Z Z (i64_in aH) (Q1w Z Z Z Zq (Qbz Z Z tI_3 tI_149) (Q8E Z Z Z Zq Z Z Z (run_shr (by decide)) (Q1w Z Z Z Zq (Qbz Z Z tI_149 tI_3) (wP Z (Q4 (Q3 (Q2 [11,10,9,8,0,1,2] (S':=V7 ..) Z (Q5 (Q1 (wP Z (wP Z (wP Z ?_))))))))))))
 obtain ⟨aI,hm⟩:=Qd hm
 obtain ⟨aE,aJ,hm⟩:=Q6 hm
 refine Q1a 0 ((IntKind.wrap .i64 (Int.fdiv (IntKind.wrap .u64 (z + s)) (2 ^ (1)))).toNat) Z Z Z Zq Z Z Z Z (Q1d aI) aJ Q2y Q2N (fun b1 b2 aX aT=>(Q1G Q3c 1 Z (fun aK aL _=>?_)))
 subst aL
 refine Q1F 1 0 Z Z Z Zq Z Z Z (cs:=V3 ..) Z Q2N tA_71 Z Z (wP Z ?_)
 obtain ⟨b3,aM,hm⟩:=Q6 hm
 refine Q1K [] [] Z Z Z Zq Z Z Z fn_47 Z Z (Qbb N aE.id aE.ty aK.1 aK.2 aE.args a1 _ aM) (asK [0] Z) Z (H':=[]) Z ?_
 rintro _ _ _ ⟨rfl,rfl,rfl⟩
 refine wP Z (Q4 (Q3 (Q2 [31,11,10,9,8,0,1,2] (S':=V8 ..) Z ?_)))
 refine Qt Z (fun aA=>?_) (fun aA=>?_)
 replace hm:=QI hm aA
 refine Q2 [11,10,8,0,1,2] (S':=V6 ..) Z (Q1 (wP Z (wP Z ?_)))
 obtain ⟨aN,hm⟩:=Qd hm
 refine Qs (d:=33) (v':=.int .i64 ((IntKind.wrap .i64 (Int.fdiv (IntKind.wrap .u64 (z + s)) (2 ^ (1)))) + 1)) (S':=V7 ..) Z Z (i64_in aN) (wP Z (Q4 (Qf ?_)))
 have hE:=(Zi hm).symm
 replace hE:=QF hLu1 hE
 refine QU (_,s,(IntKind.wrap .i64 (Int.fdiv (IntKind.wrap .u64 (z + s)) (2 ^ (1)))) + 1) (Nat.lt_succ_self _) hE [10,9,8,0,1,2] Z (asK [3] Z) Z
 replace hm:=QH hm aA
 refine Q2 [11,9,8,0,1,2] (S':=V6 ..) Z (Q1 (wP Z (wP Z (Q4 (Qf ?_)))))
 have hE:=(Zi hm).symm
 replace hE:=QF hLu1 hE
 refine QU (_,IntKind.wrap .i64 (Int.fdiv (IntKind.wrap .u64 (z + s)) (2 ^ (1))),z) (Nat.lt_succ_self _) hE [10,9,8,0,1,2] Z (asK [3] Z) Z
 replace hm:=QH hm a9
 refine Q2 [9,8,0,1,2] (S':=V5 ..) Z (Q1g (Qj (Qj (QD ?_))))
 have hE:=(Zi hm).symm
 replace hE:=Qx hLu1 hE
 refine Qh z hE [9,8,0,1,2] Z (asK [0] Z) Z
 rintro a0 hE
 try dsimp only
 have hm:=hLj_1
 try rw [hE] at hm
 refine Q5 (Q1 (wP Z (wP Z (wP Z (wP Z (wP Z ?_))))))
 refine QG (d:=39) (S':=V9 ..) Z Z (fun aB=>?_) (fun aB=>?_)
 replace hm:=QI hm aB
 refine wP Z (wP Z (wP Z ?_))
 obtain ⟨aO,hm⟩:=Qd hm
 obtain ⟨aF,aP,hm⟩:=Q6 hm
 refine Q1a 0 a0.toNat Z Z Z Zq Z Z Z Z (Q1d aO) aP Q2y Q2N (fun b4 b5 aY aU=>(Q1G Q3c 1 Z (fun aQ aR _=>?_)))
 subst aR
 refine Q1F 1 0 Z Z Z Zq Z Z Z (cs:=V3 ..) Z Q2N tA_71 Z Z (wP Z ?_)
 obtain ⟨b6,aS,hm⟩:=Q6 hm
 refine Q1K [] [] Z Z Z Zq Z Z Z fn_47 Z Z (Qbb N aF.id aF.ty aQ.1 aQ.2 aF.args a1 _ aS) (asK [0] Z) Z (H':=[]) Z ?_
 rintro _ _ _ ⟨rfl,rfl,rfl⟩
 refine wP Z (wP Z (wP Z (wP Z (Q4 (Q3 (Q2 [7,6] (S':=[_,_]) Z (Qo ?_)))))))
 have hE:=(Zi hm).symm
 obtain ⟨hE0,hE1⟩:=Prod.mk.inj hE
 clear hE
 replace hE0:=hE0.symm
 subst hE0
 replace hE1:=hE1.symm
 subst hE1
 refine Q1D (Hr:=[]) [] Tryz.results46 (Qg Z) (Qg Z) ⟨Z,Z,Z⟩ (asK [] Z) Z Z (.inl Z)
 replace hm:=QH hm aB
 refine wO Z (wO Z (wO Z (wO Z (wO Z (wO Z (wO Z (wO Z (wP Z (wP Z (wP Z (Q4 (Q3 (Q2 [7,6] (S':=[_,_]) Z ?_)))))))))))))
 refine Qo ?_
 have hE:=(Zi hm).symm
 obtain ⟨hE0,hE1⟩:=Prod.mk.inj hE
 clear hE
 replace hE0:=hE0.symm
 subst hE0
 replace hE1:=hE1.symm
 subst hE1
 refine Q1D (Hr:=[]) [] Tryz.results46 (Qg Z) (Qg Z) ⟨Z,Z,Z⟩ (asK [] Z) Z Z (.inl Z)
end Go.Proofs.YtbgodclhmgmcgaaGreatDoor
