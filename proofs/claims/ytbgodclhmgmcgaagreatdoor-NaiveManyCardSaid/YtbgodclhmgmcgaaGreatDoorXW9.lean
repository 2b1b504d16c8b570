import Derived.Test.YtbgodclhmgmcgaaGreatDoorXW8
namespace Go.Proofs.YtbgodclhmgmcgaaGreatDoor
open Go.RowKit
set_option maxRecDepth 100000
set_option maxHeartbeats 4000000
theorem Q9E (N:Nat) (rc:(List Bool) → (List V) → ByteArray → Int → Int → (List QN) → (List Q1c) → (List QU) → (List Int) → Int → (List QL) → Int → Int → Option ((Int × (List QL)) ⊕ Unit)) (ih:(∀ (bN:Nat) (b4:OA) (b5:Nat) (l0:List Bool) (b2:OA) (b3:Nat) (l1:List V) (a2:ByteArray) (a3:Int) (a4:Int) (bF:OA) (bG:Nat) (l5:List QN) (bH:OA) (bI:Nat) (l6:List Q1c) (bO:OA) (bJ:Nat) (aE:Nat) (l7:List QU) (aI:OA) (aJ:Nat) (l8:List Int) (a9:Int) (aF:Nat) (aG:Nat) (bK:OA) (bL:Nat) (bM:Nat) (cC:List QL) (aH:Nat) (bX:Int) (c0:Int) (o0:Int) (o3:List QL),rc l0 l1 a2 a3 a4 l5 l6 l7 l8 a9 cC bX c0 = some (.inl (o0,o3)) → Q1o Tryz.prog 69 [.pointer (some ⟨bN,0,none⟩),.int .i64 c0] [.sli 1 Q1v b4 b5 l0,.sli 3 R_V b2 b3 l1,.sli 10 QZ bF bG l5,.sli 4 Q1n bH bI l6,.sli 1 Q2i aI aJ l8] [.blk bN [.slice b4 l0.length b5,.slice b2 l1.length b3,.string a2,.int .i64 a3,.int .i64 a4,.slice bF l5.length bG,.slice bH l6.length bI,.slice bO bJ aE,.slice aI l8.length aJ,.int .i64 a9,.func (.func 66) #[] #[.pointer (some ⟨aF,0,none⟩),.pointer (some ⟨aH,0,none⟩)]] 135,Q2d QM 71 3 (.slice bO bJ aE) l7,.blk aF [.func (.func 33) #[] #[.pointer (some ⟨aG,0,none⟩)]] 88,.blk aG [.slice bK bL bM] 31,.own 41 2 Q12 (.slice bK bL bM) cC,.blk aH [.int .i64 bX] 3] (fun v Φr Hr=>∃ (o1:OA) (o2:Nat) (o4:Nat),v = .tuple #[] ∧ Φr = [.sli 1 Q1v b4 b5 l0,.sli 3 R_V b2 b3 l1,.sli 10 QZ bF bG l5,.sli 4 Q1n bH bI l6,.sli 1 Q2i aI aJ l8] ∧ Hr = [.blk bN [.slice b4 l0.length b5,.slice b2 l1.length b3,.string a2,.int .i64 a3,.int .i64 a4,.slice bF l5.length bG,.slice bH l6.length bI,.slice bO bJ aE,.slice aI l8.length aJ,.int .i64 o0,.func (.func 66) #[] #[.pointer (some ⟨aF,0,none⟩),.pointer (some ⟨aH,0,none⟩)]] 135,Q2d QM 71 3 (.slice bO bJ aE) l7,.blk aF [.func (.func 33) #[] #[.pointer (some ⟨aG,0,none⟩)]] 88,.blk aG [.slice o1 o4 o2] 31,.own 41 2 Q12 (.slice o1 o4 o2) o3,.blk aH [.int .i64 bX] 3])) ∧ (∀ (bN:Nat) (b4:OA) (b5:Nat) (l0:List Bool) (b2:OA) (b3:Nat) (l1:List V) (a2:ByteArray) (a3:Int) (a4:Int) (bF:OA) (bG:Nat) (l5:List QN) (bH:OA) (bI:Nat) (l6:List Q1c) (bO:OA) (bJ:Nat) (aE:Nat) (l7:List QU) (aI:OA) (aJ:Nat) (l8:List Int) (a9:Int) (aF:Nat) (aG:Nat) (bK:OA) (bL:Nat) (bM:Nat) (cC:List QL) (aH:Nat) (bX:Int) (c0:Int),rc l0 l1 a2 a3 a4 l5 l6 l7 l8 a9 cC bX c0 = some (.inr ()) → SpecX Tryz.prog 69 [.pointer (some ⟨bN,0,none⟩),.int .i64 c0] [.sli 1 Q1v b4 b5 l0,.sli 3 R_V b2 b3 l1,.sli 10 QZ bF bG l5,.sli 4 Q1n bH bI l6,.sli 1 Q2i aI aJ l8] [.blk bN [.slice b4 l0.length b5,.slice b2 l1.length b3,.string a2,.int .i64 a3,.int .i64 a4,.slice bF l5.length bG,.slice bH l6.length bI,.slice bO bJ aE,.slice aI l8.length aJ,.int .i64 a9,.func (.func 66) #[] #[.pointer (some ⟨aF,0,none⟩),.pointer (some ⟨aH,0,none⟩)]] 135,Q2d QM 71 3 (.slice bO bJ aE) l7,.blk aF [.func (.func 33) #[] #[.pointer (some ⟨aG,0,none⟩)]] 88,.blk aG [.slice bK bL bM] 31,.own 41 2 Q12 (.slice bK bL bM) cC,.blk aH [.int .i64 bX] 3] (.iface 131 (.agg #[])))) (bN:Nat) (b4:OA) (b5:Nat) (l0:List Bool) (b2:OA) (b3:Nat) (l1:List V) (a2:ByteArray) (a3:Int) (a4:Int) (bF:OA) (bG:Nat) (l5:List QN) (bH:OA) (bI:Nat) (l6:List Q1c) (bO:OA) (bJ:Nat) (aE:Nat) (l7:List QU) (aI:OA) (aJ:Nat) (l8:List Int) (a9:Int) (aF:Nat) (aG:Nat) (bK:OA) (bL:Nat) (bM:Nat) (cC:List QL) (aH:Nat) (bX:Int) (c0:Int) (o0:Int) (o3:List QL) (hm:Q29 N rc l0 l1 a2 a3 a4 l5 l6 l7 l8 a9 cC bX c0 = some (.inl (o0,o3))):Q1o Tryz.prog 69 [.pointer (some ⟨bN,0,none⟩),.int .i64 c0] [.sli 1 Q1v b4 b5 l0,.sli 3 R_V b2 b3 l1,.sli 10 QZ bF bG l5,.sli 4 Q1n bH bI l6,.sli 1 Q2i aI aJ l8] [.blk bN [.slice b4 l0.length b5,.slice b2 l1.length b3,.string a2,.int .i64 a3,.int .i64 a4,.slice bF l5.length bG,.slice bH l6.length bI,.slice bO bJ aE,.slice aI l8.length aJ,.int .i64 a9,.func (.func 66) #[] #[.pointer (some ⟨aF,0,none⟩),.pointer (some ⟨aH,0,none⟩)]] 135,Q2d QM 71 3 (.slice bO bJ aE) l7,.blk aF [.func (.func 33) #[] #[.pointer (some ⟨aG,0,none⟩)]] 88,.blk aG [.slice bK bL bM] 31,.own 41 2 Q12 (.slice bK bL bM) cC,.blk aH [.int .i64 bX] 3] (fun v Φr Hr=>∃ (o1:OA) (o2:Nat) (o4:Nat),v = .tuple #[] ∧ Φr = [.sli 1 Q1v b4 b5 l0,.sli 3 R_V b2 b3 l1,.sli 10 QZ bF bG l5,.sli 4 Q1n bH bI l6,.sli 1 Q2i aI aJ l8] ∧ Hr = [.blk bN [.slice b4 l0.length b5,.slice b2 l1.length b3,.string a2,.int .i64 a3,.int .i64 a4,.slice bF l5.length bG,.slice bH l6.length bI,.slice bO bJ aE,.slice aI l8.length aJ,.int .i64 o0,.func (.func 66) #[] #[.pointer (some ⟨aF,0,none⟩),.pointer (some ⟨aH,0,none⟩)]] 135,Q2d QM 71 3 (.slice bO bJ aE) l7,.blk aF [.func (.func 33) #[] #[.pointer (some ⟨aG,0,none⟩)]] 88,.blk aG [.slice o1 o4 o2] 31,.own 41 2 Q12 (.slice o1 o4 o2) o3,.blk aH [.int .i64 bX] 3]):=by
 unfold Q29 at hm
 refine QD Tryz.func69 Z Tryz.ntmps69 Z (S:=[_,_]) Z (fun C=>(Q5 ?_))
 obtain ⟨e2,hm,hLj_1⟩:=Q1w hm
 unfold Q3V at hm
 refine QI (σ:=Int) (fun aK=>e2 = .inl aK) (fun aK=>[(1,.int .i64 c0),(0,.pointer (some ⟨bN,0,none⟩))]) (fun aK=>[.sli 1 Q1v b4 b5 l0,.sli 3 R_V b2 b3 l1,.sli 10 QZ bF bG l5,.sli 4 Q1n bH bI l6,.sli 1 Q2i aI aJ l8]) (fun aK=>[.blk bN [.slice b4 l0.length b5,.slice b2 l1.length b3,.string a2,.int .i64 a3,.int .i64 a4,.slice bF l5.length bG,.slice bH l6.length bI,.slice bO bJ aE,.slice aI l8.length aJ,.int .i64 aK,.func (.func 66) #[] #[.pointer (some ⟨aF,0,none⟩),.pointer (some ⟨aH,0,none⟩)]] 135,Q2d QM 71 3 (.slice bO bJ aE) l7,.blk aF [.func (.func 33) #[] #[.pointer (some ⟨aG,0,none⟩)]] 88,.blk aG [.slice bK bL bM] 31,.own 41 2 Q12 (.slice bK bL bM) cC,.blk aH [.int .i64 bX] 3]) ?_ ?_
 refine Q5 (Q1 (wP Z (wP Z (Q3 (Q4 (Q2 [14,0,1] (S':=V3 ..) Z ?_))))))
 refine Qj Z (fun cX=>?_) (fun cX=>?_)
 replace hm:=QA hm cX
 refine Q2 [0,1] (S':=[_,_]) Z (Q5 (Q1 (wP Z (wP Z (wF Z Q8w (wD 0 9 Z Q1A Q1N Z (wP Z ?_)))))))
 obtain ⟨e3,hm⟩:=Qu hm
 refine QH (d:=19) (v':=.int .i64 (a9 - 1)) (S':=V6 ..) Z Z (i64_in e3) (wP Z (wF Z Q8w (wS 0 9 Z Q1A (all':=V11 ..) Z (H':=V6 ..) Z (Q3 (Q4 (Q2 [0,1] (S':=[_,_]) Z (Q5 (Q1 (wP Z (wP Z (wF Z Q8w (wD 0 9 Z Q1A Q1N Z (wP Z ?_)))))))))))))
 refine Q3 (Q4 (Q2 [26,0,1] (S':=V3 ..) Z ?_))
 refine Qj Z (fun cY=>?_) (fun cY=>?_)
 ·
  replace hm:=QA hm cY
  refine Q2 [0,1] (S':=[_,_]) Z (Q1 (Q13 Z Z Z Zq Z tZ_131 tP_131 Z (out:=[]) Z (wl_makeIface Z Z Z Zq Z Z (by kernel_rfl) (wl_panic Z Z Z (Q2g ?_)))))
  have hE:=(Zi hm).symm
  replace hE:=Qv hLj_1 hE
  cases hE
 replace hm:=Qz hm cY
 refine Q2 [0,1] (S':=[_,_]) Z (Qq ?_)
 have hE:=(Zi hm).symm
 refine Q9 (a9 - 1) hE [1,0] Z (asK [0,1,2,3,4] Z) Z
 replace hm:=Qz hm cX
 refine Q2 [0,1] (S':=[_,_]) Z (Qq ?_)
 have hE:=(Zi hm).symm
 refine Q9 a9 hE [1,0] Z (asK [0,1,2,3,4] Z) Z
 rintro aK hE
 try dsimp only
 have hm:=QO hLj_1 hE
 refine Q5 (Q5 (Q1 (wP Z (wP Z (wP Z (wF Z tF_135_1 (wF Z Q62 (wD 0 5 Z Q9z tA_49 Z (wN Z Q8u (wP Z (Q3 (Q4 (Q2 [36,1,0] (S':=V3 ..) Z ?_)))))))))))))
 refine Qj Z (fun cZ=>?_) (fun cZ=>?_)
 replace hm:=QA hm cZ
 refine Q2 [0] (S':=[_]) Z (Q5 ?_)
 obtain ⟨_,e4,hm⟩:=Q6 hm
 try dsimp only at hm
 refine Q18 [0,1,2,3,4,5,6,7,8,9,10,11,12] Z Z (fun hok=>(xP hok 0 Z (xP hok 1 Z (Q8 hok 2 Z Z Z Zq Z Z Z tF_135_5 (Qm hok 3 0 10 Z Z Z Zq Z Z Z Z (cs:=[_]) Z tS_133 tA_133 Z Z (xP hok 4 Z (xP hok 5 Z (Q8 hok 6 Z Z Z Zq Z Z Z Q8v (Qm hok 7 0 8 Z Z Z Zq Z Z Z Z (cs:=[_]) Z tS_39 tA_39 Z Z (xP hok 8 Z (xP hok 9 Z (Q8 hok 10 Z Z Z Zq Z Z Z Q67 (Q8 hok 11 Z Z Z Zq Z Z Z Q6P (Qm hok 12 0 1 Z Z Z Zq Z Z Z Z (cs:=[_]) Z Q7i Q7g Z Z ?_))))))))))))))
 refine xS hok 13 Z (Q1R [2,3,4,5] [0,1] Z Z Z Zq Z Z Z fn_66 Z Z (Qb9 N aI aJ l8 b2 b3 l1 aF aG bK bL bM cC aH bX e4) (asK [4,1] Z) Z (H':=[_,_]) Z ?_)
 rintro _ _ _ ⟨dO,dP,rfl,rfl,rfl⟩
 refine Q3 (QV [0,1,2,3,4] [] Z Z (Q11 hok Z (Q4 (Q2 [] (S':=[]) Z (Qb (Q7 ?_))))))
 have hE:=(Zi hm).symm
 replace hE:=Sum.inl.inj hE
 obtain ⟨hE0,hE1⟩:=Prod.mk.inj hE
 clear hE
 replace hE0:=hE0.symm
 subst hE0
 replace hE1:=hE1.symm
 subst hE1
 refine Q4o (Hr:=V6 ..) [4,5,0,1,2,3] Tryz.results69 ⟨dO,dP,(cC ++ ([(⟨bX,l8⟩ : QL)])).length,Z,Z,Z⟩ (asK [0,1,2,3,4] Z) Z Z (.inl Z)
 replace hm:=Qz hm cZ
 refine Q2 [1,0] (S':=[_,_]) Z (Qq (Q4 (Q5 (Q1 (wP Z (wP Z (wF Z tF_135_1 (wF Z Q62 (wD 0 5 Z Q9z tA_49 Z (wP Z ?_))))))))))
 obtain ⟨e5,hm⟩:=Qu hm
 obtain ⟨a1,e6,hm⟩:=Q6 hm
 refine Q1F 2 c0.toNat Z Z Z Zq Z Z Z Z (Q1G e5) e6 Q8u Q4A (fun eU eV eP eL=>(Q22 Q6t 1 Z (fun aP e7 _=>?_)))
 subst e7
 refine Q21 2 0 Z Z Z Zq Z Z Z (cs:=V10 ..) Z Q4A Q9t Z Z (QE Z Z Z Zq Z Q9B Z (fun g4=>(wS 0 0 Z Q4A (all':=V10 ..) Z (H':=V7 ..) Z (Q3 (Q4 (Q2 [4,1,0] (S':=V3 ..) Z (Q5 (Q1 (wF Z Q9S (wD 0 0 Z tS_53 tA_53 Z (Q3 (Q4 (Q2 [60,4,1,0] (S':=V4 ..) Z (Qw ?_))))))))))))))
 refine Q5 (Q1 (wP Z (wP Z (Q3 (Q4 (Q2 [117,60,4,1,0] (S':=V5 ..) Z ?_))))))
 refine Qj Z (fun cM=>?_) (fun cM=>?_)
 replace hm:=QA hm cM
 refine Q2 [4,1,0] (S':=V3 ..) Z (Q5 ?_)
 obtain ⟨⟨d9,cU,dA,cL⟩,d0,hm⟩:=Q6 hm
 try dsimp only at hm
 refine QI (σ:=Nat) (fun _=>True) (fun cD=>[(6,.int .i64 ((cL:Nat):Int)),(5,.pointer (some ⟨cD,0,none⟩)),(1,.int .i64 c0),(0,.pointer (some ⟨bN,0,none⟩))]) (fun cD=>[.sli 1 Q1v b4 b5 l0,.sli 3 R_V b2 b3 l1,.sli 10 QZ bF bG l5,.sli 4 Q1n bH bI l6,.sli 1 Q2i aI aJ l8]) (fun cD=>[.blk cD [.int .u8 d9,.int .i64 cU,.string dA] 57,.blk bN [.slice b4 l0.length b5,.slice b2 l1.length b3,.string a2,.int .i64 a3,.int .i64 a4,.slice bF l5.length bG,.slice bH l6.length bI,.slice bO bJ aE,.slice aI l8.length aJ,.int .i64 aK,.func (.func 66) #[] #[.pointer (some ⟨aF,0,none⟩),.pointer (some ⟨aH,0,none⟩)]] 135,Q2d QM 71 3 (.slice bO bJ aE) l7,.blk aF [.func (.func 33) #[] #[.pointer (some ⟨aG,0,none⟩)]] 88,.blk aG [.slice bK bL bM] 31,.own 41 2 Q12 (.slice bK bL bM) cC,.blk aH [.int .i64 bX] 3]) ?_ ?_
 ·
  refine Q18 [0,1,2,3,4,5,6,8,9,10] Z Z (fun hok=>(Q8 hok 0 Z Z Z Zq Z Z Z tF_67_3 (Qm hok 1 0 3 Z Z Z Zq Z Z Z Z (cs:=V7 ..) Z Q2S Q5J Z Z (xP hok 2 Z (xP hok 3 Z (Q8 hok 4 Z Z Z Zq Z Z Z Q67 (Q8 hok 5 Z Z Z Zq Z Z Z Q6P (Qm hok 6 1 1 Z Z Z Zq Z Z Z Z (cs:=[_]) Z Q7i Q7g Z Z ?_))))))))
  refine Q3n hok 7 11 Z Z Z Z Z Z ?_ ?_
  rotate_left
  focus
   refine QE Z Z Z Zq Z Q2Y Z (fun g5=>(Q3 (QV [0,1,2,3,4,5,6,7,8] [2,1] Z Z (xS hok 7 Z (wC [] [0,1,2,3,4,5,6,7] Z fn_44 Z (Q7j N a1.test.kind a1.test.value.k a1.test.value.n a1.test.value.s a1.test.var a1.test.op aP.2.1 aP.2.2 a1.test.kids b2 b3 l1 _ _ _ _ d0) (asK [1,5] Z) Z (H':=V8 ..) Z ?_)))))
   rintro _ _ _ ⟨rfl,rfl,rfl⟩
   refine Q3 (QV [0,1,2,3,4,5,6,7,8] [] Z Z (xP hok 8 Z (xP hok 9 Z (xP hok 10 Z ?_))))
  rotate_right
  focus
   refine wC [] [0,1,2,3,4,5,6] Z fn_44 Z (Q7j N a1.test.kind a1.test.value.k a1.test.value.n a1.test.value.s a1.test.var a1.test.op aP.2.1 aP.2.2 a1.test.kids b2 b3 l1 _ _ _ _ d0) (asK [1,5] Z) Z (H':=V7 ..) Z ?_
   rintro _ _ _ ⟨rfl,rfl,rfl⟩
   refine Q3 (QV [0,1,2,3,4,5,6,7,8] [] Z Z (xP hok 8 Z (xP hok 9 Z (xP hok 10 Z (xS hok 11 Z (QE Z Z Z Zq Z Q2Y Z (fun g5=>(Q3 (QV [0,1,2,3,4,5,6,7,8] [2,1] Z Z ?_)))))))))
  all_goals
   refine xS hok 12 Z (wS 0 0 Z Q1H (all':=V3 ..) Z (H':=V8 ..) Z (Q3 (QV [0,1,2,3,4,5,6,7,8] [] Z Z (xS hok 13 Z (wP Z (Q3 (QV [0,1,2,3,4,5,6,7,8] [] Z Z (Q11 hok Z (Qs [0,2,3,4,5,6,7] Z (H':=V7 ..) Z ?_)))))))))
   refine Q9 g5 trivial [6,5,1,0] Z (asK [4,5,6,7,8] Z) Z
 rintro cD _
 try dsimp only
 refine Q5 ?_
 obtain ⟨e8,hm,hLj_3⟩:=Q6 hm
 refine QI (σ:=Bool) (fun c8=>e8 = c8) (fun c8=>[(1,.int .i64 c0),(0,.pointer (some ⟨bN,0,none⟩)),(141,.bool c8)]) (fun c8=>[.sli 1 Q1v b4 b5 l0,.sli 3 R_V b2 b3 l1,.sli 10 QZ bF bG l5,.sli 4 Q1n bH bI l6,.sli 1 Q2i aI aJ l8]) (fun c8=>[.blk bN [.slice b4 l0.length b5,.slice b2 l1.length b3,.string a2,.int .i64 a3,.int .i64 a4,.slice bF l5.length bG,.slice bH l6.length bI,.slice bO bJ aE,.slice aI l8.length aJ,.int .i64 aK,.func (.func 66) #[] #[.pointer (some ⟨aF,0,none⟩),.pointer (some ⟨aH,0,none⟩)]] 135,Q2d QM 71 3 (.slice bO bJ aE) l7,.blk aF [.func (.func 33) #[] #[.pointer (some ⟨aG,0,none⟩)]] 88,.blk aG [.slice bK bL bM] 31,.own 41 2 Q12 (.slice bK bL bM) cC,.blk aH [.int .i64 bX] 3]) ?_ ?_
 refine Q1 (wP Z (wP Z (QH (d:=131) (v':=.bool (cL == 0)) (S':=V5 ..) Z Z (Q3c (a:=cL) (b:=0)) (wP Z ?_))))
 refine Qt (d:=132) (S':=V6 ..) Z Z (fun cN=>?_) (fun cN=>?_)
 replace hm:=QA hm cN
 refine wF Z tF_57_0 (wD 0 0 Z tS_55 tA_55 Z (wP Z (wP Z (wP Z ?_))))
 refine Qt (d:=137) (S':=V11 ..) Z Z (fun cO=>?_) (fun cO=>?_)
 replace hm:=QA hm cO
 refine wF Z Q31 (wD 0 1 Z tS_2 tA_2 Z (wP Z (wP Z (Q3 ?_))))
 have hE:=(Zi hm).symm
 refine Qs [1,2,3,4,5,6] Z (H':=V6 ..) Z ?_
 refine Q9 (cU != 0) hE [1,0,141] Z (asK [0,1,2,3,4] Z) Z
 replace hm:=Qz hm cO
 refine wO Z (wO Z (wO Z (wP Z (Q3 ?_))))
 have hE:=(Zi hm).symm
 refine Qs [1,2,3,4,5,6] Z (H':=V6 ..) Z ?_
 refine Q9 false hE [1,0,141] Z (asK [0,1,2,3,4] Z) Z
 replace hm:=Qz hm cN
 refine wO Z (wO Z (wO Z (wP Z (wP Z (wO Z (wO Z (wO Z (wP Z (Q3 ?_)))))))))
 have hE:=(Zi hm).symm
 refine Qs [1,2,3,4,5,6] Z (H':=V6 ..) Z ?_
 refine Q9 false hE [1,0,141] Z (asK [0,1,2,3,4] Z) Z
 rintro c8 hE
 try dsimp only
 have hm:=hLj_3
 rw [hE] at hm
 refine Qj Z (fun cP=>?_) (fun cP=>?_)
 replace hm:=QA hm cP
 refine Q2 [1,0] (S':=[_,_]) Z (Q1 (wP Z (wP Z (wP Z ?_))))
 obtain ⟨dQ,hm⟩:=Qu hm
 refine QH (d:=144) (v':=.int .i64 (c0 + 1)) (S':=V4 ..) Z Z (i64_in dQ) ?_
 obtain ⟨⟨eR,eJ⟩ | _,d1,hm⟩:=Q6 hm
 try dsimp only at hm
 refine wC [0,1,2,3,4,5] [] Z Q8W Z (ih.1 bN b4 b5 l0 b2 b3 l1 a2 a3 a4 bF bG l5 bH bI l6 bO bJ aE l7 aI aJ l8 aK aF aG bK bL bM cC aH bX (c0 + 1) _ _ d1) (asK [0,1,2,3,4] Z) Z (H':=[]) Z ?_
 rintro _ _ _ ⟨dB,dC,dD,rfl,rfl,rfl⟩
 refine Q3 (Qh ?_)
 have hE:=(Zi hm).symm
 replace hE:=Sum.inl.inj hE
 obtain ⟨hE0,hE1⟩:=Prod.mk.inj hE
 clear hE
 replace hE0:=hE0.symm
 subst hE0
 replace hE1:=hE1.symm
 subst hE1
 refine Q4o (Hr:=V6 ..) [0,1,2,3,4,5] Tryz.results69 ⟨dB,dC,dD,Z,Z,Z⟩ (asK [0,1,2,3,4] Z) Z Z (.inr Z)
 ·
  try dsimp only at hm
  refine Q8H [0,1,2,3,4,5] [] Z Z Z Q8W Z (ih.2 bN b4 b5 l0 b2 b3 l1 a2 a3 a4 bF bG l5 bH bI l6 bO bJ aE l7 aI aJ l8 aK aF aG bK bL bM cC aH bX (c0 + 1) d1) (asK [0,1,2,3,4] Z) Z (H':=[]) Z (Q2k ?_)
  have hE:=(Zi hm).symm
  cases hE
 replace hm:=Qz hm cP
 refine Q2 [] (S':=[]) Z (Qq (Qh ?_))
 have hE:=(Zi hm).symm
 replace hE:=Sum.inl.inj hE
 obtain ⟨hE0,hE1⟩:=Prod.mk.inj hE
 clear hE
 replace hE0:=hE0.symm
 subst hE0
 replace hE1:=hE1.symm
 subst hE1
 refine Q4o (Hr:=V6 ..) [0,1,2,3,4,5] Tryz.results69 ⟨bK,bM,bL,Z,Z,Z⟩ (asK [0,1,2,3,4] Z) Z Z (.inr Z)
 replace hm:=Qz hm cM
 refine Q2 [60,4,1,0] (S':=V4 ..) Z (Q5 (Q1 (wP Z (wP Z (Q3 (Q4 (Q2 [146,4,1,0] (S':=V4 ..) Z ?_)))))))
 refine Qj Z (fun cQ=>?_) (fun cQ=>?_)
 replace hm:=QA hm cQ
 refine Q2 [4,1,0] (S':=V3 ..) Z (Q5 ?_)
 obtain ⟨eS,dR,hm⟩:=Q6 hm
 refine Q18 [0,1,2,3,4,5,6,7,8,10] Z Z (fun hok=>(Qm hok 0 0 0 Z Z Z Zq Z Z Z Z (cs:=V10 ..) Z Q4A Q9t Z Z (xP hok 1 Z (xP hok 2 Z (Q8 hok 3 Z Z Z Zq Z Z Z Q67 (Qm hok 4 1 0 Z Z Z Zq Z Z Z Z (cs:=[_,_]) Z Q2v Q57 Z Z (xP hok 5 Z (xP hok 6 Z (Q8 hok 7 Z Z Z Zq Z Z Z tF_135_2 (Qm hok 8 1 7 Z Z Z Zq Z Z Z Z (cs:=[_]) Z tS_26 tA_26 Z Z (xS hok 9 Z (Q3h 2 Z (fun e9 _=>?_)))))))))))))
 subst e9
 refine Q3g [] [0,1,2,3,4,5,6] [2] Z Z Z Zq Z Z fn_45 Z (Q8d N a1.kind a1.type aP.1.1 aP.1.2 a1.args a1.test.kind a1.test.value.k a1.test.value.n a1.test.value.s a1.test.var a1.test.op aP.2.1 aP.2.2 a1.test.kids b4 b5 l0 b2 b3 l1 bO aE l7 _ dR) (fun F w hφ hh=>(QS (hφ _ (Q10 (k:=0) Z)) (QS (hφ _ (Q10 (k:=1) Z)) (QS (hφ _ (Q10 (k:=4) Z)) (QS (hφ _ (Q10 (k:=5) Z)) (QS (tree_sli Q95 (hh _ (Q10 (k:=0) Z)) (fun _ h=>h) (fun _ h=>h)) Qr)))))) (fun _ _ _ hR=>by obtain ⟨rfl,rfl,rfl⟩:=hR; exact ⟨Z,(fun _ h=>Q2A h)⟩) Z Z (H':=V7 ..) Z ?_
 rintro _ _ _ ⟨rfl,rfl,rfl⟩
 refine Q3 (QV [0,1,2,3,4,5,6,7,8] [] Z Z (xP hok 10 Z (Q11 hok Z (Q4 (Q2 [158,1,0] (S':=V3 ..) Z ?_)))))
 refine Qj Z (fun cR=>?_) (fun cR=>?_)
 replace hm:=QA hm cR
 refine Q2 [1,0] (S':=[_,_]) Z (Q1 (wP Z (wP Z (wP Z ?_))))
 obtain ⟨dS,hm⟩:=Qu hm
 refine QH (d:=161) (v':=.int .i64 (c0 + 1)) (S':=V4 ..) Z Z (i64_in dS) ?_
 obtain ⟨⟨eT,eK⟩ | _,d2,hm⟩:=Q6 hm
 try dsimp only at hm
 refine wC [1,2,3,4,5,6] [0] Z Q8W Z (ih.1 bN b4 b5 l0 b2 b3 l1 a2 a3 a4 bF bG l5 bH bI l6 bO l7.length aE l7 aI aJ l8 aK aF aG bK bL bM cC aH bX (c0 + 1) _ _ d2) (asK [4,5,6,7,8] Z) Z (H':=[_]) Z ?_
 rintro _ _ _ ⟨dE,dF,dG,rfl,rfl,rfl⟩
 refine Q3 (Qh ?_)
 have hE:=(Zi hm).symm
 replace hE:=Sum.inl.inj hE
 obtain ⟨hE0,hE1⟩:=Prod.mk.inj hE
 clear hE
 replace hE0:=hE0.symm
 subst hE0
 replace hE1:=hE1.symm
 subst hE1
 refine Q4o (Hr:=V6 ..) [0,1,2,3,4,5] Tryz.results69 ⟨dE,dF,dG,Z,Z,Z⟩ (asK [0,1,2,3,4] Z) Z Z (.inr Z)
 ·
  try dsimp only at hm
  refine Q8H [1,2,3,4,5,6] [0] Z Z Z Q8W Z (ih.2 bN b4 b5 l0 b2 b3 l1 a2 a3 a4 bF bG l5 bH bI l6 bO l7.length aE l7 aI aJ l8 aK aF aG bK bL bM cC aH bX (c0 + 1) d2) (asK [4,5,6,7,8] Z) Z (H':=[_]) Z (Q2k ?_)
  have hE:=(Zi hm).symm
  cases hE
 replace hm:=Qz hm cR
 refine Q2 [] (S':=[]) Z (Qq (Qh ?_))
 have hE:=(Zi hm).symm
 replace hE:=Sum.inl.inj hE
 obtain ⟨hE0,hE1⟩:=Prod.mk.inj hE
 clear hE
 replace hE0:=hE0.symm
 subst hE0
 replace hE1:=hE1.symm
 subst hE1
 refine Q4o (Hr:=V6 ..) [1,2,3,4,5,6] Tryz.results69 ⟨bK,bM,bL,Z,Z,Z⟩ (asK [4,5,6,7,8] Z) Z Z (.inr Z)
 replace hm:=Qz hm cQ
 refine Q2 [4,1,0] (S':=V3 ..) Z (Q5 (Q18 [0,1,2,3,4,5,6,7] Z Z (fun hok=>(xP hok 0 Z (xP hok 1 Z (Q8 hok 2 Z Z Z Zq Z Z Z Q67 (Qm hok 3 1 0 Z Z Z Zq Z Z Z Z (cs:=[_,_]) Z Q2v Q57 Z Z (xP hok 4 Z (xP hok 5 Z (Q8 hok 6 Z Z Z Zq Z Z Z Q8v (Qm hok 7 1 8 Z Z Z Zq Z Z Z Z (cs:=[_]) Z tS_39 tA_39 Z Z (xS hok 8 Z (QE Z Z Z Zq Z Q7N Z (fun g7=>(Q3 ?_)))))))))))))))
 refine QV [0,1,2,3,4,5,6,7,8] [2,2] Z Z (xS hok 9 Z (wS 0 0 Z Q2v (all':=[_,_]) Z (H':=V8 ..) Z (Q3 (QV [0,1,2,3,4,5,6,7,8] [2] Z Z (xS hok 10 Z (wP Z (Q3 (QV [0,1,2,3,4,5,6,7,8] [] Z Z (Q11 hok Z (Q4 (Q2 [8,7,4,1,0] (S':=V5 ..) Z (Q5 ?_))))))))))))
 obtain ⟨dM,hm,hLj_4⟩:=Q1w hm
 refine QI (σ:=(List Bool) × (List V) × (List Int) × Int × (List QL) × OA × Nat × OA × Nat × OA × Nat × OA × Nat × Nat) (fun (b6,b7,b8,c1,aD,bP,bQ,bR,bS,bT,bU,a5,a6,a7)=>dM = .inl (b6,b7,b8,c1,aD)) (fun (b6,b7,b8,c1,aD,bP,bQ,bR,bS,bT,bU,a5,a6,a7)=>[(8,.slice aI l8.length aJ),(7,.pointer (some ⟨g7,0,none⟩)),(0,.pointer (some ⟨bN,0,none⟩))]) (fun (b6,b7,b8,c1,aD,bP,bQ,bR,bS,bT,bU,a5,a6,a7)=>[.sli 1 Q2i aI aJ l8,.sli 1 Q1v b4 b5 l0,.sli 3 R_V b2 b3 l1,.sli 1 Q1v bP bQ b6,.sli 3 R_V bR bS b7,.sli 10 QZ bF bG l5,.sli 4 Q1n bH bI l6,.sli 1 Q2i bT bU b8]) (fun (b6,b7,b8,c1,aD,bP,bQ,bR,bS,bT,bU,a5,a6,a7)=>[.blk g7 [.slice b4 l0.length b5,.slice b2 l1.length b3] 100,.blk bN [.slice bP b6.length bQ,.slice bR b7.length bS,.string a2,.int .i64 a3,.int .i64 a4,.slice bF l5.length bG,.slice bH l6.length bI,.slice bO bJ aE,.slice bT b8.length bU,.int .i64 c1,.func (.func 66) #[] #[.pointer (some ⟨aF,0,none⟩),.pointer (some ⟨aH,0,none⟩)]] 135,Q2d QM 71 3 (.slice bO bJ aE) l7,.blk aF [.func (.func 33) #[] #[.pointer (some ⟨aG,0,none⟩)]] 88,.blk aG [.slice a5 a7 a6] 31,.own 41 2 Q12 (.slice a5 a7 a6) aD,.blk aH [.int .i64 bX] 3]) ?_ ?_
 refine Q5 (Q1 (wP Z (wP Z (wF Z tF_135_2 (wD 2 7 Z tS_26 tA_26 Z (Q3h 3 Z (fun eA _=>?_)))))))
 subst eA
 refine wN Z Q7A (wP Z (Q3 (Q4 (Q2 [74,73,72,8,7,4,1,0] (S':=V8 ..) Z (Qw (Q4X [3,0,1,2,4,5,6,7] Z (H':=V8 ..) Z (Q1E (σ:=Nat × Nat × (List Bool) × (List V) × (List Int) × Int × (List QL) × OA × Nat × OA × Nat × OA × Nat × OA × Nat × Nat) (fun (cS,aO,aL,aM,aN,aQ,a0,aT,aU,aV,aW,aX,aY,j,q,z)=>Q1M (Q1X N l7 a1 l0 l1 l8 c0 rc a2 a3 a4 l5 l6 bX) cS (aO,aL,aM,aN,aQ,a0) = some dM) (fun (cS,aO,aL,aM,aN,aQ,a0,aT,aU,aV,aW,aX,aY,j,q,z)=>cS) (fun (cS,aO,aL,aM,aN,aQ,a0,aT,aU,aV,aW,aX,aY,j,q,z)=>[(74,.int .i64 ((aO:Nat):Int)),(73,.int .i64 ((l7.length:Nat):Int)),(72,.slice bO l7.length aE),(8,.slice aI l8.length aJ),(7,.pointer (some ⟨g7,0,none⟩)),(4,.pointer (some ⟨g4,0,none⟩)),(1,.int .i64 c0),(0,.pointer (some ⟨bN,0,none⟩))]) (fun (cS,aO,aL,aM,aN,aQ,a0,aT,aU,aV,aW,aX,aY,j,q,z)=>[.sli 1 Q2i aI aJ l8,.sli 1 Q1v b4 b5 l0,.sli 3 R_V b2 b3 l1,.sli 5 Q2x aP.1.1 aP.1.2 a1.args,.sli 7 QB aP.2.1 aP.2.2 a1.test.kids,.sli 1 Q1v aT aU aL,.sli 3 R_V aV aW aM,.sli 10 QZ bF bG l5,.sli 4 Q1n bH bI l6,.sli 1 Q2i aX aY aN]) (fun (cS,aO,aL,aM,aN,aQ,a0,aT,aU,aV,aW,aX,aY,j,q,z)=>[Q2d QM 71 3 (.slice bO l7.length aE) l7,.blk g7 [.slice b4 l0.length b5,.slice b2 l1.length b3] 100,.blk g4 [.int .u8 (a1.kind),.int .i64 (a1.type),.slice aP.1.1 a1.args.length aP.1.2,.int .u8 (a1.test.kind),.int .u8 (a1.test.value.k),.int .i64 (a1.test.value.n),.string a1.test.value.s,.int .i64 (a1.test.var),.int .u8 (a1.test.op),.slice aP.2.1 a1.test.kids.length aP.2.2] 67,.blk bN [.slice aT aL.length aU,.slice aV aM.length aW,.string a2,.int .i64 a3,.int .i64 a4,.slice bF l5.length bG,.slice bH l6.length bI,.slice bO l7.length aE,.slice aX aN.length aY,.int .i64 aQ,.func (.func 66) #[] #[.pointer (some ⟨aF,0,none⟩),.pointer (some ⟨aH,0,none⟩)]] 135,.blk aF [.func (.func 33) #[] #[.pointer (some ⟨aG,0,none⟩)]] 88,.blk aG [.slice j z q] 31,.own 41 2 Q12 (.slice j z q) a0,.blk aH [.int .i64 bX] 3]) (N,0,l0,l1,l8,aK,cC,b4,b5,b2,b3,aI,aJ,bK,bM,bL) hm [74,73,72,8,7,4,1,0] Z (asK [8,4,5,0,1,4,5,6,7,8] Z) Z (fun s_ hm=>?_))))))))
 obtain ⟨cS,aO,aL,aM,aN,aQ,a0,aT,aU,aV,aW,aX,aY,j,q,z⟩:=s_
 try dsimp only at hm ⊢
 obtain ⟨eW,eX,eB,hq,hLu1⟩:=Q1e hm
 clear hm
 subst eB
 replace hm:=hq
 clear hq
 unfold Q1X at hm
 try dsimp only at hm
 refine Q5 (Q1 (wP Z (QH (d:=75) (v':=.bool (decide (aO < l7.length))) (S':=V8 ..) Z Z (Q2z (a:=aO) (b:=l7.length)) (Q3 (Q4 (Q5 ?_))))))
 refine Qj Z (fun d3=>?_) (fun d3=>?_)
 replace hm:=QA hm d3
 refine Q2 [74,73,72,8,7,4,1,0] (S':=V8 ..) Z (Qq (Q4 (Q5 ?_)))
 obtain ⟨eC,hm,hLj_5⟩:=Q1w hm
 unfold Q2V at hm
 refine QI (σ:=(List Bool) × (List V) × (List Int) × Int × (List QL) × OA × Nat × OA × Nat × OA × Nat × OA × Nat × Nat) (fun (aZ,b0,b1,bY,a8,b9,bA,bB,bC,bD,bE,aA,aB,aC)=>eC = .inl (aZ,b0,b1,bY,a8)) (fun (aZ,b0,b1,bY,a8,b9,bA,bB,bC,bD,bE,aA,aB,aC)=>[(74,.int .i64 ((aO:Nat):Int)),(73,.int .i64 ((l7.length:Nat):Int)),(72,.slice bO l7.length aE),(8,.slice aI l8.length aJ),(7,.pointer (some ⟨g7,0,none⟩)),(4,.pointer (some ⟨g4,0,none⟩)),(1,.int .i64 c0),(0,.pointer (some ⟨bN,0,none⟩))]) (fun (aZ,b0,b1,bY,a8,b9,bA,bB,bC,bD,bE,aA,aB,aC)=>[.sli 1 Q2i aI aJ l8,.sli 1 Q1v b4 b5 l0,.sli 3 R_V b2 b3 l1,.sli 5 Q2x aP.1.1 aP.1.2 a1.args,.sli 7 QB aP.2.1 aP.2.2 a1.test.kids,.sli 1 Q1v b9 bA aZ,.sli 3 R_V bB bC b0,.sli 10 QZ bF bG l5,.sli 4 Q1n bH bI l6,.sli 1 Q2i bD bE b1]) (fun (aZ,b0,b1,bY,a8,b9,bA,bB,bC,bD,bE,aA,aB,aC)=>[Q2d QM 71 3 (.slice bO l7.length aE) l7,.blk g7 [.slice b4 l0.length b5,.slice b2 l1.length b3] 100,.blk g4 [.int .u8 (a1.kind),.int .i64 (a1.type),.slice aP.1.1 a1.args.length aP.1.2,.int .u8 (a1.test.kind),.int .u8 (a1.test.value.k),.int .i64 (a1.test.value.n),.string a1.test.value.s,.int .i64 (a1.test.var),.int .u8 (a1.test.op),.slice aP.2.1 a1.test.kids.length aP.2.2] 67,.blk bN [.slice b9 aZ.length bA,.slice bB b0.length bC,.string a2,.int .i64 a3,.int .i64 a4,.slice bF l5.length bG,.slice bH l6.length bI,.slice bO l7.length aE,.slice bD b1.length bE,.int .i64 bY,.func (.func 66) #[] #[.pointer (some ⟨aF,0,none⟩),.pointer (some ⟨aH,0,none⟩)]] 135,.blk aF [.func (.func 33) #[] #[.pointer (some ⟨aG,0,none⟩)]] 88,.blk aG [.slice aA aC aB] 31,.own 41 2 Q12 (.slice aA aC aB) a8,.blk aH [.int .i64 bX] 3]) ?_ ?_
 refine Qw (Q5 (Q1 (Qb4 0 Z (fun cE cT=>?_))))
 obtain ⟨bV,eD,hm⟩:=Q6 hm
 obtain ⟨c6,cJ⟩:=zip_at cT eD
 refine Q5D 1 aO Z Z Z Zq Z Z Z Z Z (Q2t cJ) Q7A Q4s (fun cK eE=>?_)
 subst eE
 refine Q3A [.own 57 3 R_V (.slice c6.1 bV.args.length c6.2) bV.args,Q2L QM cE (some aO),_,_,_,_,_,_,_,_] (fun _ h=>h.bagOpen 0 aO Z cJ) (Q1T pair_opens 2 aO 0 Z Z Z Zq Z Z Z cJ Q4s tA_71 (v:=fun _=>.agg #[.int .i64 (bV.id),.int .i64 (bV.ty),.slice c6.1 bV.args.length c6.2]) (fun _=>Z) (fun _=>Z) (fun _ _=>(QE Z Z Z Zq Z tZ_71 Z (fun eF=>(wS 0 0 Z Q4s (all':=V3 ..) Z (H':=V11 ..) Z (Q3 (Q4 (Q2 [10,74,73,72,8,7,4,1,0] (S':=V9 ..) Z (Q5 (Q1 (QR 5 0 Z Z Z Zq Z Z Z (cs:=V10 ..) Z Q4A Q9t Z Z (QR 0 0 Z Z Z Zq Z Z Z (cs:=V3 ..) Z Q4s tA_71 Z Z (QR 4 0 Z Z Z Zq Z Z Z (cs:=[_,_]) Z Q2v Q57 Z Z ?_)))))))))))))
 obtain ⟨⟨cF,cG,eM⟩,eG,hm⟩:=Q6 hm
 try dsimp only at hm
 refine Q3g [] [0,1,2,3,4,5,6,7,8,9,10] [1] Z Z Z Zq Z Z fn_49 Z (Q6x N a1.kind a1.type aP.1.1 aP.1.2 a1.args a1.test.kind a1.test.value.k a1.test.value.n a1.test.value.s a1.test.var a1.test.op aP.2.1 aP.2.2 a1.test.kids bV.id bV.ty c6.1 c6.2 bV.args b4 b5 l0 b2 b3 l1 _ _ _ eG) (fun F w hφ hh=>(QS (hφ _ (Q10 (k:=3) Z)) (QS (hφ _ (Q10 (k:=4) Z)) (QS (Q1K (hh _ (Q10 (k:=0) Z))) (QS (hφ _ (Q10 (k:=1) Z)) (QS (hφ _ (Q10 (k:=2) Z)) Qr)))))) (fun _ _ _ hR=>by obtain ⟨_,_,_,_,_,_,rfl,rfl,rfl⟩:=hR; exact ⟨Z,(Q80 (Q9n Q7v) (Q80 (Q9n Q7v) (fun _ h=>Q2A h)))⟩) Z Z (H':=V11 ..) Z ?_
 rintro _ _ _ ⟨c2,c3,cH,c4,c5,cI,rfl,rfl,rfl⟩
 refine wP Z (wP Z (wP Z (QE Z Z Z Zq Z Q7N Z (fun eH=>(wS 0 0 Z Q2v (all':=[_,_]) Z (H':=V14 ..) Z (wP Z (Q3 (Q4 (Q2 [12,11,10,74,73,72,8,7,4,1,0] (S':=V11 ..) Z (Q5 (Q5 (Q1 (wP Z (wP Z ?_))))))))))))))
 refine Q3 (Q4 (Q2 [86,11,10,74,73,72,8,7,4,1,0] (S':=V11 ..) Z ?_))
 refine Qj Z (fun d4=>?_) (fun d4=>?_)
 replace hm:=QA hm d4
 refine Q2 [74,73,72,8,7,4,1,0] (S':=V8 ..) Z (Q1x (Qk (QJ ?_)))
 have hE:=(Zi hm).symm
 refine Qs [4,0,1,2,3,5,6,7,8,9,10,11,12,13] Z (H':=V14 ..) Z (we_sh [_,_,_,_,Q2L QM (cE.set aO (bV,c6)) none,_,_,_,_,_,_,_,_] (fun _ h=>Q1j.bagClose (T:=QM) (x:=bV) (r:=c6) (i:=aO) (zs:=cE) (H:=V13 ..) h 4 Z) (we_hAs 4 (φ':=Q2L QM cE none) Z (by rw [set_getZ cJ]) (H':=[.blk eH [.slice c2 cH c3,.slice c4 cI c5] 100,.own 4 1 Q1v (.slice c2 cH c3) cF,.own 57 3 R_V (.slice c4 cI c5) cG,.blk eF [.int .i64 (bV.id),.int .i64 (bV.ty),.slice c6.1 bV.args.length c6.2] 71,Q2L QM cE none,.own 71 3 QM.pair (.slice (some ⟨cK,0,none⟩) l7.length aE) cE,.blk g7 [.slice b4 l0.length b5,.slice b2 l1.length b3] 100,.blk g4 [.int .u8 (a1.kind),.int .i64 (a1.type),.slice aP.1.1 a1.args.length aP.1.2,.int .u8 (a1.test.kind),.int .u8 (a1.test.value.k),.int .i64 (a1.test.value.n),.string a1.test.value.s,.int .i64 (a1.test.var),.int .u8 (a1.test.op),.slice aP.2.1 a1.test.kids.length aP.2.2] 67,.blk bN [.slice aT aL.length aU,.slice aV aM.length aW,.string a2,.int .i64 a3,.int .i64 a4,.slice bF l5.length bG,.slice bH l6.length bI,.slice (some ⟨cK,0,none⟩) l7.length aE,.slice aX aN.length aY,.int .i64 aQ,.func (.func 66) #[] #[.pointer (some ⟨aF,0,none⟩),.pointer (some ⟨aH,0,none⟩)]] 135,.blk aF [.func (.func 33) #[] #[.pointer (some ⟨aG,0,none⟩)]] 88,.blk aG [.slice j z q] 31,.own 41 2 Q12 (.slice j z q) a0,.blk aH [.int .i64 bX] 3]) Z (we_sh [_,_,_,_,Q2d QM 71 3 (.slice (some ⟨cK,0,none⟩) l7.length aE) l7,_,_,_,_,_,_,_] (fun _ h=>h.treeIn 5 4 Z Z Z cT) (Qs [4,5,6,7,8,9,10,11] Z (H':=V8 ..) Z ?_))))
 refine Q9 (aL,aM,aN,aQ,a0,aT,aU,aV,aW,aX,aY,j,q,z) hE [74,73,72,8,7,4,1,0] Z (asK [0,1,2,3,4,5,6,7,8,9] Z) Z
 replace hm:=Qz hm d4
 refine Q2 [11,10,74,73,72,8,7,4,1,0] (S':=V10 ..) Z (Qq (Q4 (Q5 ?_)))
 obtain ⟨cV,hm⟩:=Qu hm
 obtain ⟨dN,hm⟩:=Qu hm
 refine QI (σ:=OA × Nat) (fun _=>True) (fun (aR,aS)=>[(74,.int .i64 ((aO:Nat):Int)),(73,.int .i64 ((l7.length:Nat):Int)),(72,.slice (some ⟨cK,0,none⟩) l7.length aE),(8,.slice aI l8.length aJ),(7,.pointer (some ⟨g7,0,none⟩)),(4,.pointer (some ⟨g4,0,none⟩)),(1,.int .i64 c0),(0,.pointer (some ⟨bN,0,none⟩))]) (fun (aR,aS)=>[.sli 1 Q2i aI aJ l8,.sli 1 Q1v b4 b5 l0,.sli 3 R_V b2 b3 l1,.sli 5 Q2x aP.1.1 aP.1.2 a1.args,.sli 7 QB aP.2.1 aP.2.2 a1.test.kids,.sli 10 QZ bF bG l5,.sli 4 Q1n bH bI l6]) (fun (aR,aS)=>[Q2d QM 71 3 (.slice (some ⟨cK,0,none⟩) l7.length aE) l7,.blk g7 [.slice b4 l0.length b5,.slice b2 l1.length b3] 100,.blk g4 [.int .u8 (a1.kind),.int .i64 (a1.type),.slice aP.1.1 a1.args.length aP.1.2,.int .u8 (a1.test.kind),.int .u8 (a1.test.value.k),.int .i64 (a1.test.value.n),.string a1.test.value.s,.int .i64 (a1.test.var),.int .u8 (a1.test.op),.slice aP.2.1 a1.test.kids.length aP.2.2] 67,.blk bN [.slice c2 cH c3,.slice c4 cI c5,.string a2,.int .i64 a3,.int .i64 a4,.slice bF l5.length bG,.slice bH l6.length bI,.slice (some ⟨cK,0,none⟩) l7.length aE,.slice aR (((l8.take l8.length) ++ [bV.id]).length) aS,.int .i64 aQ,.func (.func 66) #[] #[.pointer (some ⟨aF,0,none⟩),.pointer (some ⟨aH,0,none⟩)]] 135,.own 4 1 Q1v (.slice c2 cH c3) cF,.own 57 3 R_V (.slice c4 cI c5) cG,.own 3 1 Q2i (.slice aR (((l8.take l8.length) ++ [bV.id]).length) aS) ((l8.take l8.length) ++ [bV.id]),.blk aF [.func (.func 33) #[] #[.pointer (some ⟨aG,0,none⟩)]] 88,.blk aG [.slice j z q] 31,.own 41 2 Q12 (.slice j z q) a0,.blk aH [.int .i64 bX] 3]) ?_ ?_
 ·
  refine Q18 [0,1,2,3,4,5,6,7,9,10,13,14,16,17] Z Z (fun hok=>(xP hok 0 Z (xP hok 1 Z (Qm hok 2 0 0 Z Z Z Zq Z Z Z Z (cs:=[_,_]) Z Q2v Q57 Z Z (xP hok 3 Z (xP hok 4 Z (Q4u hok 5 Z Z Z Zq Z Z Z Q71 (xP hok 6 Z (Q4u hok 7 Z Z Z Zq Z Z Z Q71 (Q8 hok 9 Z Z Z Zq Z Z Z Q63 (Qm hok 10 3 0 Z Z Z Zq Z Z Z Z (cs:=[_]) Z Q1A Q1N Z Z ?_)))))))))))
  refine Q3n hok 8 11 Z Z Z Z Z Z ?_ ?_
  rotate_left
  focus
   refine Qy Z Z Z Zq Z Q71 Q1A tZ_3 Z (zs:=[.int .i64 0]) (by kernel_rfl) Z (out:=[_]) Z (fun eN=>(Q3 (QV [0,1,2,3,4,5,6,7,8,9] [1] Z Z (xS hok 8 Z (Qbu 0 Z Z Z Zq Z Z Z Z Z Z Z Q71 Q1A cV.1 cV.2 (fun eO=>(Q3 (QV [1,2,3,4,5,6,7,8,9,10] [4,1] Z Z ?_))))))))
  rotate_right
  focus
   refine Qbu 0 Z Z Z Zq Z Z Z Z Z Z Z Q71 Q1A cV.1 cV.2 (fun eO=>(Q3 (QV [1,2,3,4,5,6,7,8,9,10] [3,0] Z Z (xS hok 11 Z (Qy Z Z Z Zq Z Q71 Q1A tZ_3 Z (zs:=[.int .i64 0]) (by kernel_rfl) Z (out:=[_]) Z (fun eN=>(Q3 (QV [0,1,2,3,4,5,6,7,8,9,10] [1] Z Z ?_))))))))
  all_goals
   refine xS hok 12 Z (wl_appendF [bV.id] 0 0 Z Z Z Zq Z Z Z (by simp) Z Z (fun F w hφ=>⟨[.int .i64 (bV.id)],[],Z,Z,⟨(),Z,Qr⟩,Z⟩) (by simp) Q71 tR_3 Z Z (Nat.le_trans dN (by decide)) (Nat.le_trans (Nat.mul_le_mul_right _ dN) (by decide)) (fun dT dU=>(Q2s 1 Z (H':=V15 ..) Z (Q3 (QV [0,1,2,3,4,5,6,7,8,9,10] [4,1] Z Z (xP hok 13 Z (Q8 hok 14 Z Z Z Zq Z Z Z Q67 (xS hok 15 Z (wS 10 0 Z Q2v (all':=V11 ..) Z (H':=V15 ..) Z (Q3 (QV [0,1,2,3,4,5,6,7,8,9,10] [4] Z Z (xP hok 16 Z (Q8 hok 17 Z Z Z Zq Z Z Z Q8v (xS hok 18 Z ?_))))))))))))))
   refine wS 10 8 Z tS_39 (all':=V11 ..) Z (H':=V15 ..) Z (Q3 (QV [0,1,2,3,4,5,6,7,8,9,10] [] Z Z (Q11 hok Z (Qs [5,0,1,2,3,4,6,7,8,9,10,11,12,13,14] Z (H':=V15 ..) Z (we_sh [_,_,_,_,_,Q2L QM (cE.set aO (bV,c6)) none,_,_,_,_,_,_,_,_] (fun _ h=>Q1j.bagClose (T:=QM) (x:=bV) (r:=c6) (i:=aO) (zs:=cE) (H:=V14 ..) h 5 Z) (we_hAs 5 (φ':=Q2L QM cE none) Z (by rw [set_getZ cJ]) (H':=[.own 3 1 Q2i (.slice dT (((l8.take l8.length) ++ [bV.id]).length) dU) ((l8.take l8.length) ++ [bV.id]),.blk eH [.slice c2 cH c3,.slice c4 cI c5] 100,.own 4 1 Q1v (.slice c2 cH c3) cF,.own 57 3 R_V (.slice c4 cI c5) cG,.blk eF [.int .i64 (bV.id),.int .i64 (bV.ty),.slice c6.1 bV.args.length c6.2] 71,Q2L QM cE none,.own 71 3 QM.pair (.slice (some ⟨cK,0,none⟩) l7.length aE) cE,.blk g7 [.slice b4 l0.length b5,.slice b2 l1.length b3] 100,.blk g4 [.int .u8 (a1.kind),.int .i64 (a1.type),.slice aP.1.1 a1.args.length aP.1.2,.int .u8 (a1.test.kind),.int .u8 (a1.test.value.k),.int .i64 (a1.test.value.n),.string a1.test.value.s,.int .i64 (a1.test.var),.int .u8 (a1.test.op),.slice aP.2.1 a1.test.kids.length aP.2.2] 67,.blk bN [.slice c2 cH c3,.slice c4 cI c5,.string a2,.int .i64 a3,.int .i64 a4,.slice bF l5.length bG,.slice bH l6.length bI,.slice (some ⟨cK,0,none⟩) l7.length aE,.slice dT (((l8.take l8.length) ++ [bV.id]).length) dU,.int .i64 aQ,.func (.func 66) #[] #[.pointer (some ⟨aF,0,none⟩),.pointer (some ⟨aH,0,none⟩)]] 135,.blk aF [.func (.func 33) #[] #[.pointer (some ⟨aG,0,none⟩)]] 88,.blk aG [.slice j z q] 31,.own 41 2 Q12 (.slice j z q) a0,.blk aH [.int .i64 bX] 3]) Z (we_sh [_,_,_,_,_,Q2d QM 71 3 (.slice (some ⟨cK,0,none⟩) l7.length aE) l7,_,_,_,_,_,_,_] (fun _ h=>h.treeIn 6 5 Z Z Z cT) (Qs [5,6,7,8,2,3,0,9,10,11,12] Z (H':=V11 ..) Z ?_))))))))
   refine Q9 (dT,dU) trivial [74,73,72,8,7,4,1,0] Z (asK [1,2,3,4,5,8,9] Z) Z
 rintro ⟨aR,aS⟩ _
 try dsimp only
 refine Q1 (wP Z (wP Z (wP Z ?_)))
 obtain ⟨dV,hm⟩:=Qu hm
 refine QH (d:=106) (v':=.int .i64 (c0 + 1)) (S':=V10 ..) Z Z (i64_in dV) (Q15 4 Z (fun d5 _=>?_))
 subst d5
 refine Q2w 4 Z (H':=V10 ..) Z (Q3f (.sli 1 Q1v c2 c3 cF) (fun F w hφ=>Q1K (hφ _ (Q10 (k:=0) Z))) (Q15 4 Z (fun d6 _=>?_)))
 subst d6
 refine Q2w 4 Z (H':=V9 ..) Z (Q3f (.sli 3 R_V c4 c5 cG) (fun F w hφ=>Q1K (hφ _ (Q10 (k:=0) Z))) (Q2w 4 Z (H':=V8 ..) Z (Q3f (.sli 1 Q2i aR aS ((l8.take l8.length) ++ [bV.id])) (fun F w hφ=>Q1K (hφ _ (Q10 (k:=0) Z))) ?_)))
 obtain ⟨⟨eI,dH⟩ | _,d7,hm⟩:=Q6 hm
 try dsimp only at hm
 refine wC [3,0,4,5,6,7] [1,2] Z Q8W Z (ih.1 bN c2 c3 cF c4 c5 cG a2 a3 a4 bF bG l5 bH bI l6 (some ⟨cK,0,none⟩) l7.length aE l7 aR aS ((l8.take l8.length) ++ [bV.id]) aQ aF aG j z q a0 aH bX (c0 + 1) _ _ d7) (asK [4,2,11,12,0] Z) Z (H':=[_,_]) Z ?_
 rintro _ _ _ ⟨dI,dJ,dK,rfl,rfl,rfl⟩
 refine Q3 (Qh ?_)
 have hE:=(Zi hm).symm
 refine Qs [1,6,7,0,2,3,4,5] Z (H':=V8 ..) Z ?_
 refine Q9 (cF,cG,(l8.take l8.length) ++ [bV.id],eI,dH,c2,c3,c4,c5,aR,aS,dI,dJ,dK) hE [74,73,72,8,7,4,1,0] Z (asK [11,12,13,14,15,0,1,2,3,4] Z) Z
 ·
  try dsimp only at hm
  refine Q8H [3,0,4,5,6,7] [1,2] Z Z Z Q8W Z (ih.2 bN c2 c3 cF c4 c5 cG a2 a3 a4 bF bG l5 bH bI l6 (some ⟨cK,0,none⟩) l7.length aE l7 aR aS ((l8.take l8.length) ++ [bV.id]) aQ aF aG j z q a0 aH bX (c0 + 1) d7) (asK [4,2,11,12,0] Z) Z (H':=[_,_]) Z (Q2k (Q2g (Q2g (Q2k (Q2g (Q2k ?_))))))
  have hE:=(Zi hm).symm
  replace hE:=Qv hLj_5 hE
  replace hE:=Qv hLu1 hE
  replace hE:=Qv hLj_4 hE
  cases hE
 rintro ⟨aZ,b0,b1,bY,a8,b9,bA,bB,bC,bD,bE,aA,aB,aC⟩ hE
 try dsimp only
 have hm:=QO hLj_5 hE
 try dsimp only at hm
 refine Q1 (wP Z ?_)
 obtain ⟨dW,hm⟩:=Qu hm
 refine QH (d:=108) (v':=.int .i64 ((aO + 1:Nat):Int)) (S':=V8 ..) Z Z (Q1J (a:=aO) (b:=1) dW) (Q1b (S':=V8 ..) Z Z Z Z Z (Q3 ?_))
 have hE:=(Zi hm).symm
 replace hE:=QO hLu1 hE
 refine Q1a (_,aO + 1,aZ,b0,b1,bY,a8,b9,bA,bB,bC,bD,bE,aA,aB,aC) (Nat.lt_succ_self _) hE [74,73,72,8,7,4,1,0] Z (asK [0,1,2,3,4,5,6,7,8,9] Z) Z
 replace hm:=Qz hm d3
 refine Q2 [8,7,0] (S':=V3 ..) Z (Q1x (Qk (Qk (QJ ?_))))
 have hE:=(Zi hm).symm
 replace hE:=Qv hLu1 hE
 refine Qs [1,3,0,4,5,6,7] Z (H':=V7 ..) Z ?_
 refine Q9 (aL,aM,aN,aQ,a0,aT,aU,aV,aW,aX,aY,j,q,z) hE [8,7,0] Z (asK [0,1,2,5,6,7,8,9] Z) Z
 rintro ⟨b6,b7,b8,c1,aD,bP,bQ,bR,bS,bT,bU,a5,a6,a7⟩ hE
 try dsimp only
 have hm:=QO hLj_4 hE
 try dsimp only at hm
 refine Q1 (wP Z (wP Z (QR 0 0 Z Z Z Zq Z Z Z (cs:=[_,_]) Z Q2v Q57 Z Z (wP Z (wP Z (wF Z Q67 (wS 1 0 Z Q2v (all':=V11 ..) Z (H':=V7 ..) Z (wP Z (wF Z Q8v (wS 1 8 Z tS_39 (all':=V11 ..) Z (H':=V7 ..) Z (Q3 (Qh ?_))))))))))))
 have hE:=(Zi hm).symm
 replace hE:=Sum.inl.inj hE
 obtain ⟨hE0,hE1⟩:=Prod.mk.inj hE
 clear hE
 replace hE0:=hE0.symm
 subst hE0
 replace hE1:=hE1.symm
 subst hE1
 refine Q4o (Hr:=V6 ..) [1,2,3,4,5,6] Tryz.results69 ⟨a5,a6,a7,Z,Z,Z⟩ (asK [1,2,5,6,0] Z) Z Z (.inr Z)
theorem Q9F (N:Nat) (rc:(List Bool) → (List V) → ByteArray → Int → Int → (List QN) → (List Q1c) → (List QU) → (List Int) → Int → (List QL) → Int → Int → Option ((Int × (List QL)) ⊕ Unit)) (ih:(∀ (bJ:Nat) (bD:OA) (bE:Nat) (l0:List Bool) (b2:OA) (b3:Nat) (l1:List V) (a2:ByteArray) (a3:Int) (a4:Int) (bF:OA) (bG:Nat) (l5:List QN) (bH:OA) (bI:Nat) (l6:List Q1c) (bV:OA) (bK:Nat) (aE:Nat) (l7:List QU) (aM:OA) (aN:Nat) (l8:List Int) (a9:Int) (aF:Nat) (aG:Nat) (bL:OA) (bM:Nat) (bN:Nat) (cC:List QL) (aH:Nat) (bY:Int) (bZ:Int) (o0:Int) (o3:List QL),rc l0 l1 a2 a3 a4 l5 l6 l7 l8 a9 cC bY bZ = some (.inl (o0,o3)) → Q1o Tryz.prog 69 [.pointer (some ⟨bJ,0,none⟩),.int .i64 bZ] [.sli 1 Q1v bD bE l0,.sli 3 R_V b2 b3 l1,.sli 10 QZ bF bG l5,.sli 4 Q1n bH bI l6,.sli 1 Q2i aM aN l8] [.blk bJ [.slice bD l0.length bE,.slice b2 l1.length b3,.string a2,.int .i64 a3,.int .i64 a4,.slice bF l5.length bG,.slice bH l6.length bI,.slice bV bK aE,.slice aM l8.length aN,.int .i64 a9,.func (.func 66) #[] #[.pointer (some ⟨aF,0,none⟩),.pointer (some ⟨aH,0,none⟩)]] 135,Q2d QM 71 3 (.slice bV bK aE) l7,.blk aF [.func (.func 33) #[] #[.pointer (some ⟨aG,0,none⟩)]] 88,.blk aG [.slice bL bM bN] 31,.own 41 2 Q12 (.slice bL bM bN) cC,.blk aH [.int .i64 bY] 3] (fun v Φr Hr=>∃ (o1:OA) (o2:Nat) (o4:Nat),v = .tuple #[] ∧ Φr = [.sli 1 Q1v bD bE l0,.sli 3 R_V b2 b3 l1,.sli 10 QZ bF bG l5,.sli 4 Q1n bH bI l6,.sli 1 Q2i aM aN l8] ∧ Hr = [.blk bJ [.slice bD l0.length bE,.slice b2 l1.length b3,.string a2,.int .i64 a3,.int .i64 a4,.slice bF l5.length bG,.slice bH l6.length bI,.slice bV bK aE,.slice aM l8.length aN,.int .i64 o0,.func (.func 66) #[] #[.pointer (some ⟨aF,0,none⟩),.pointer (some ⟨aH,0,none⟩)]] 135,Q2d QM 71 3 (.slice bV bK aE) l7,.blk aF [.func (.func 33) #[] #[.pointer (some ⟨aG,0,none⟩)]] 88,.blk aG [.slice o1 o4 o2] 31,.own 41 2 Q12 (.slice o1 o4 o2) o3,.blk aH [.int .i64 bY] 3])) ∧ (∀ (bJ:Nat) (bD:OA) (bE:Nat) (l0:List Bool) (b2:OA) (b3:Nat) (l1:List V) (a2:ByteArray) (a3:Int) (a4:Int) (bF:OA) (bG:Nat) (l5:List QN) (bH:OA) (bI:Nat) (l6:List Q1c) (bV:OA) (bK:Nat) (aE:Nat) (l7:List QU) (aM:OA) (aN:Nat) (l8:List Int) (a9:Int) (aF:Nat) (aG:Nat) (bL:OA) (bM:Nat) (bN:Nat) (cC:List QL) (aH:Nat) (bY:Int) (bZ:Int),rc l0 l1 a2 a3 a4 l5 l6 l7 l8 a9 cC bY bZ = some (.inr ()) → SpecX Tryz.prog 69 [.pointer (some ⟨bJ,0,none⟩),.int .i64 bZ] [.sli 1 Q1v bD bE l0,.sli 3 R_V b2 b3 l1,.sli 10 QZ bF bG l5,.sli 4 Q1n bH bI l6,.sli 1 Q2i aM aN l8] [.blk bJ [.slice bD l0.length bE,.slice b2 l1.length b3,.string a2,.int .i64 a3,.int .i64 a4,.slice bF l5.length bG,.slice bH l6.length bI,.slice bV bK aE,.slice aM l8.length aN,.int .i64 a9,.func (.func 66) #[] #[.pointer (some ⟨aF,0,none⟩),.pointer (some ⟨aH,0,none⟩)]] 135,Q2d QM 71 3 (.slice bV bK aE) l7,.blk aF [.func (.func 33) #[] #[.pointer (some ⟨aG,0,none⟩)]] 88,.blk aG [.slice bL bM bN] 31,.own 41 2 Q12 (.slice bL bM bN) cC,.blk aH [.int .i64 bY] 3] (.iface 131 (.agg #[])))) (bJ:Nat) (bD:OA) (bE:Nat) (l0:List Bool) (b2:OA) (b3:Nat) (l1:List V) (a2:ByteArray) (a3:Int) (a4:Int) (bF:OA) (bG:Nat) (l5:List QN) (bH:OA) (bI:Nat) (l6:List Q1c) (bV:OA) (bK:Nat) (aE:Nat) (l7:List QU) (aM:OA) (aN:Nat) (l8:List Int) (a9:Int) (aF:Nat) (aG:Nat) (bL:OA) (bM:Nat) (bN:Nat) (cC:List QL) (aH:Nat) (bY:Int) (bZ:Int) (hm:Q29 N rc l0 l1 a2 a3 a4 l5 l6 l7 l8 a9 cC bY bZ = some (.inr ())):SpecX Tryz.prog 69 [.pointer (some ⟨bJ,0,none⟩),.int .i64 bZ] [.sli 1 Q1v bD bE l0,.sli 3 R_V b2 b3 l1,.sli 10 QZ bF bG l5,.sli 4 Q1n bH bI l6,.sli 1 Q2i aM aN l8] [.blk bJ [.slice bD l0.length bE,.slice b2 l1.length b3,.string a2,.int .i64 a3,.int .i64 a4,.slice bF l5.length bG,.slice bH l6.length bI,.slice bV bK aE,.slice aM l8.length aN,.int .i64 a9,.func (.func 66) #[] #[.pointer (some ⟨aF,0,none⟩),.pointer (some ⟨aH,0,none⟩)]] 135,Q2d QM 71 3 (.slice bV bK aE) l7,.blk aF [.func (.func 33) #[] #[.pointer (some ⟨aG,0,none⟩)]] 88,.blk aG [.slice bL bM bN] 31,.own 41 2 Q12 (.slice bL bM bN) cC,.blk aH [.int .i64 bY] 3] (.iface 131 (.agg #[])):=by
 unfold Q29 at hm
 refine spec_ofX Tryz.func69 Z Tryz.ntmps69 Z (S:=[_,_]) Z (fun C=>(Q5 ?_))
 obtain ⟨dP,hm,hLj_1⟩:=Q1w hm
 refine QI (σ:=Int) (fun aI=>dP = .inl aI) (fun aI=>[(1,.int .i64 bZ),(0,.pointer (some ⟨bJ,0,none⟩))]) (fun aI=>[.sli 1 Q1v bD bE l0,.sli 3 R_V b2 b3 l1,.sli 10 QZ bF bG l5,.sli 4 Q1n bH bI l6,.sli 1 Q2i aM aN l8]) (fun aI=>[.blk bJ [.slice bD l0.length bE,.slice b2 l1.length b3,.string a2,.int .i64 a3,.int .i64 a4,.slice bF l5.length bG,.slice bH l6.length bI,.slice bV bK aE,.slice aM l8.length aN,.int .i64 aI,.func (.func 66) #[] #[.pointer (some ⟨aF,0,none⟩),.pointer (some ⟨aH,0,none⟩)]] 135,Q2d QM 71 3 (.slice bV bK aE) l7,.blk aF [.func (.func 33) #[] #[.pointer (some ⟨aG,0,none⟩)]] 88,.blk aG [.slice bL bM bN] 31,.own 41 2 Q12 (.slice bL bM bN) cC,.blk aH [.int .i64 bY] 3]) ?_ ?_
 refine Q5 (Q1 (wP Z (wP Z (Q3 (Q4 (Q2 [14,0,1] (S':=V3 ..) Z ?_))))))
 refine Qj Z (fun cX=>?_) (fun cX=>?_)
 replace hm:=QA hm cX
 refine Q2 [0,1] (S':=[_,_]) Z (Q5 (Q1 (wP Z (wP Z (wF Z Q8w (wD 0 9 Z Q1A Q1N Z (wP Z ?_)))))))
 obtain ⟨dQ,hm⟩:=Qu hm
 refine QH (d:=19) (v':=.int .i64 (a9 - 1)) (S':=V6 ..) Z Z (i64_in dQ) (wP Z (wF Z Q8w (wS 0 9 Z Q1A (all':=V11 ..) Z (H':=V6 ..) Z (Q3 (Q4 (Q2 [0,1] (S':=[_,_]) Z (Q5 (Q1 (wP Z (wP Z (wF Z Q8w (wD 0 9 Z Q1A Q1N Z (wP Z ?_)))))))))))))
 refine Q3 (Q4 (Q2 [26,0,1] (S':=V3 ..) Z ?_))
 refine Qj Z (fun cY=>?_) (fun cY=>?_)
 replace hm:=QA hm cY
 refine Q2 [0,1] (S':=[_,_]) Z (Q1 (Q13 Z Z Z Zq Z tZ_131 tP_131 Z (out:=[]) Z (wl_makeIface Z Z Z Zq Z Z (by kernel_rfl) (wl_panic Z Z Z (Q2g ?_)))))
 have hE:=(Zi hm).symm
 replace hE:=Qv hLj_1 hE
 exact Qbs
 replace hm:=Qz hm cY
 refine Q2 [0,1] (S':=[_,_]) Z (Qq ?_)
 have hE:=(Zi hm).symm
 refine Q9 (a9 - 1) hE [1,0] Z (asK [0,1,2,3,4] Z) Z
 replace hm:=Qz hm cX
 refine Q2 [0,1] (S':=[_,_]) Z (Qq ?_)
 have hE:=(Zi hm).symm
 refine Q9 a9 hE [1,0] Z (asK [0,1,2,3,4] Z) Z
 rintro aI hE
 try dsimp only
 have hm:=QO hLj_1 hE
 refine Q5 (Q5 (Q1 (wP Z (wP Z (wP Z (wF Z tF_135_1 (wF Z Q62 (wD 0 5 Z Q9z tA_49 Z (wN Z Q8u (wP Z (Q3 (Q4 (Q2 [36,1,0] (S':=V3 ..) Z ?_)))))))))))))
 refine Qj Z (fun cZ=>?_) (fun cZ=>?_)
 ·
  replace hm:=QA hm cZ
  refine Q2 [0] (S':=[_]) Z (Q5 ?_)
  obtain ⟨_,dR,hm⟩:=Q6 hm
  try dsimp only at hm
  refine Q18 [0,1,2,3,4,5,6,7,8,9,10,11,12] Z Z (fun hok=>(xP hok 0 Z (xP hok 1 Z (Q8 hok 2 Z Z Z Zq Z Z Z tF_135_5 (Qm hok 3 0 10 Z Z Z Zq Z Z Z Z (cs:=[_]) Z tS_133 tA_133 Z Z (xP hok 4 Z (xP hok 5 Z (Q8 hok 6 Z Z Z Zq Z Z Z Q8v (Qm hok 7 0 8 Z Z Z Zq Z Z Z Z (cs:=[_]) Z tS_39 tA_39 Z Z (xP hok 8 Z (xP hok 9 Z (Q8 hok 10 Z Z Z Zq Z Z Z Q67 (Q8 hok 11 Z Z Z Zq Z Z Z Q6P (Qm hok 12 0 1 Z Z Z Zq Z Z Z Z (cs:=[_]) Z Q7i Q7g Z Z ?_))))))))))))))
  refine xS hok 13 Z (Q1R [2,3,4,5] [0,1] Z Z Z Zq Z Z Z fn_66 Z Z (Qb9 N aM aN l8 b2 b3 l1 aF aG bL bM bN cC aH bY dR) (asK [4,1] Z) Z (H':=[_,_]) Z ?_)
  rintro _ _ _ ⟨eE,eF,rfl,rfl,rfl⟩
  refine Q3 (QV [0,1,2,3,4] [] Z Z (Q11 hok Z (Q4 (Q2 [] (S':=[]) Z (Qb (Q7 ?_))))))
  have hE:=(Zi hm).symm
  cases hE
 replace hm:=Qz hm cZ
 refine Q2 [1,0] (S':=[_,_]) Z (Qq (Q4 (Q5 (Q1 (wP Z (wP Z (wF Z tF_135_1 (wF Z Q62 (wD 0 5 Z Q9z tA_49 Z (wP Z ?_))))))))))
 obtain ⟨dS,hm⟩:=Qu hm
 obtain ⟨a1,dT,hm⟩:=Q6 hm
 refine Q1F 2 bZ.toNat Z Z Z Zq Z Z Z Z (Q1G dS) dT Q8u Q4A (fun eU eV eP eG=>(Q22 Q6t 1 Z (fun aP dU _=>?_)))
 subst dU
 refine Q21 2 0 Z Z Z Zq Z Z Z (cs:=V10 ..) Z Q4A Q9t Z Z (QE Z Z Z Zq Z Q9B Z (fun g4=>(wS 0 0 Z Q4A (all':=V10 ..) Z (H':=V7 ..) Z (Q3 (Q4 (Q2 [4,1,0] (S':=V3 ..) Z (Q5 (Q1 (wF Z Q9S (wD 0 0 Z tS_53 tA_53 Z (Q3 (Q4 (Q2 [60,4,1,0] (S':=V4 ..) Z (Qw ?_))))))))))))))
 refine Q5 (Q1 (wP Z (wP Z (Q3 (Q4 (Q2 [117,60,4,1,0] (S':=V5 ..) Z ?_))))))
 refine Qj Z (fun cM=>?_) (fun cM=>?_)
 replace hm:=QA hm cM
 refine Q2 [4,1,0] (S':=V3 ..) Z (Q5 ?_)
 obtain ⟨⟨d9,cU,dA,cL⟩,d0,hm⟩:=Q6 hm
 try dsimp only at hm
 refine QI (σ:=Nat) (fun _=>True) (fun cD=>[(6,.int .i64 ((cL:Nat):Int)),(5,.pointer (some ⟨cD,0,none⟩)),(1,.int .i64 bZ),(0,.pointer (some ⟨bJ,0,none⟩))]) (fun cD=>[.sli 1 Q1v bD bE l0,.sli 3 R_V b2 b3 l1,.sli 10 QZ bF bG l5,.sli 4 Q1n bH bI l6,.sli 1 Q2i aM aN l8]) (fun cD=>[.blk cD [.int .u8 d9,.int .i64 cU,.string dA] 57,.blk bJ [.slice bD l0.length bE,.slice b2 l1.length b3,.string a2,.int .i64 a3,.int .i64 a4,.slice bF l5.length bG,.slice bH l6.length bI,.slice bV bK aE,.slice aM l8.length aN,.int .i64 aI,.func (.func 66) #[] #[.pointer (some ⟨aF,0,none⟩),.pointer (some ⟨aH,0,none⟩)]] 135,Q2d QM 71 3 (.slice bV bK aE) l7,.blk aF [.func (.func 33) #[] #[.pointer (some ⟨aG,0,none⟩)]] 88,.blk aG [.slice bL bM bN] 31,.own 41 2 Q12 (.slice bL bM bN) cC,.blk aH [.int .i64 bY] 3]) ?_ ?_
 ·
  refine Q18 [0,1,2,3,4,5,6,8,9,10] Z Z (fun hok=>(Q8 hok 0 Z Z Z Zq Z Z Z tF_67_3 (Qm hok 1 0 3 Z Z Z Zq Z Z Z Z (cs:=V7 ..) Z Q2S Q5J Z Z (xP hok 2 Z (xP hok 3 Z (Q8 hok 4 Z Z Z Zq Z Z Z Q67 (Q8 hok 5 Z Z Z Zq Z Z Z Q6P (Qm hok 6 1 1 Z Z Z Zq Z Z Z Z (cs:=[_]) Z Q7i Q7g Z Z ?_))))))))
  refine Q3n hok 7 11 Z Z Z Z Z Z ?_ ?_
  rotate_left
  focus
   refine QE Z Z Z Zq Z Q2Y Z (fun g5=>(Q3 (QV [0,1,2,3,4,5,6,7,8] [2,1] Z Z (xS hok 7 Z (wC [] [0,1,2,3,4,5,6,7] Z fn_44 Z (Q7j N a1.test.kind a1.test.value.k a1.test.value.n a1.test.value.s a1.test.var a1.test.op aP.2.1 aP.2.2 a1.test.kids b2 b3 l1 _ _ _ _ d0) (asK [1,5] Z) Z (H':=V8 ..) Z ?_)))))
   rintro _ _ _ ⟨rfl,rfl,rfl⟩
   refine Q3 (QV [0,1,2,3,4,5,6,7,8] [] Z Z (xP hok 8 Z (xP hok 9 Z (xP hok 10 Z ?_))))
  rotate_right
  focus
   refine wC [] [0,1,2,3,4,5,6] Z fn_44 Z (Q7j N a1.test.kind a1.test.value.k a1.test.value.n a1.test.value.s a1.test.var a1.test.op aP.2.1 aP.2.2 a1.test.kids b2 b3 l1 _ _ _ _ d0) (asK [1,5] Z) Z (H':=V7 ..) Z ?_
   rintro _ _ _ ⟨rfl,rfl,rfl⟩
   refine Q3 (QV [0,1,2,3,4,5,6,7,8] [] Z Z (xP hok 8 Z (xP hok 9 Z (xP hok 10 Z (xS hok 11 Z (QE Z Z Z Zq Z Q2Y Z (fun g5=>(Q3 (QV [0,1,2,3,4,5,6,7,8] [2,1] Z Z ?_)))))))))
  all_goals
   refine xS hok 12 Z (wS 0 0 Z Q1H (all':=V3 ..) Z (H':=V8 ..) Z (Q3 (QV [0,1,2,3,4,5,6,7,8] [] Z Z (xS hok 13 Z (wP Z (Q3 (QV [0,1,2,3,4,5,6,7,8] [] Z Z (Q11 hok Z (Qs [0,2,3,4,5,6,7] Z (H':=V7 ..) Z ?_)))))))))
   refine Q9 g5 trivial [6,5,1,0] Z (asK [4,5,6,7,8] Z) Z
 rintro cD _
 try dsimp only
 refine Q5 ?_
 obtain ⟨dV,hm,hLj_3⟩:=Q6 hm
 refine QI (σ:=Bool) (fun c7=>dV = c7) (fun c7=>[(1,.int .i64 bZ),(0,.pointer (some ⟨bJ,0,none⟩)),(141,.bool c7)]) (fun c7=>[.sli 1 Q1v bD bE l0,.sli 3 R_V b2 b3 l1,.sli 10 QZ bF bG l5,.sli 4 Q1n bH bI l6,.sli 1 Q2i aM aN l8]) (fun c7=>[.blk bJ [.slice bD l0.length bE,.slice b2 l1.length b3,.string a2,.int .i64 a3,.int .i64 a4,.slice bF l5.length bG,.slice bH l6.length bI,.slice bV bK aE,.slice aM l8.length aN,.int .i64 aI,.func (.func 66) #[] #[.pointer (some ⟨aF,0,none⟩),.pointer (some ⟨aH,0,none⟩)]] 135,Q2d QM 71 3 (.slice bV bK aE) l7,.blk aF [.func (.func 33) #[] #[.pointer (some ⟨aG,0,none⟩)]] 88,.blk aG [.slice bL bM bN] 31,.own 41 2 Q12 (.slice bL bM bN) cC,.blk aH [.int .i64 bY] 3]) ?_ ?_
 refine Q1 (wP Z (wP Z (QH (d:=131) (v':=.bool (cL == 0)) (S':=V5 ..) Z Z (Q3c (a:=cL) (b:=0)) (wP Z ?_))))
 refine Qt (d:=132) (S':=V6 ..) Z Z (fun cN=>?_) (fun cN=>?_)
 replace hm:=QA hm cN
 refine wF Z tF_57_0 (wD 0 0 Z tS_55 tA_55 Z (wP Z (wP Z (wP Z ?_))))
 refine Qt (d:=137) (S':=V11 ..) Z Z (fun cO=>?_) (fun cO=>?_)
 replace hm:=QA hm cO
 refine wF Z Q31 (wD 0 1 Z tS_2 tA_2 Z (wP Z (wP Z (Q3 ?_))))
 have hE:=(Zi hm).symm
 refine Qs [1,2,3,4,5,6] Z (H':=V6 ..) Z ?_
 refine Q9 (cU != 0) hE [1,0,141] Z (asK [0,1,2,3,4] Z) Z
 replace hm:=Qz hm cO
 refine wO Z (wO Z (wO Z (wP Z (Q3 ?_))))
 have hE:=(Zi hm).symm
 refine Qs [1,2,3,4,5,6] Z (H':=V6 ..) Z ?_
 refine Q9 false hE [1,0,141] Z (asK [0,1,2,3,4] Z) Z
 replace hm:=Qz hm cN
 refine wO Z (wO Z (wO Z (wP Z (wP Z (wO Z (wO Z (wO Z (wP Z (Q3 ?_)))))))))
 have hE:=(Zi hm).symm
 refine Qs [1,2,3,4,5,6] Z (H':=V6 ..) Z ?_
 refine Q9 false hE [1,0,141] Z (asK [0,1,2,3,4] Z) Z
 rintro c7 hE
 try dsimp only
 have hm:=hLj_3
 rw [hE] at hm
 refine Qj Z (fun cP=>?_) (fun cP=>?_)
 replace hm:=QA hm cP
 refine Q2 [1,0] (S':=[_,_]) Z (Q1 (wP Z (wP Z (wP Z ?_))))
 obtain ⟨dI,hm⟩:=Qu hm
 refine QH (d:=144) (v':=.int .i64 (bZ + 1)) (S':=V4 ..) Z Z (i64_in dI) ?_
 obtain ⟨⟨eR,e6⟩ | _,d1,hm⟩:=Q6 hm
 ·
  try dsimp only at hm
  refine wC [0,1,2,3,4,5] [] Z Q8W Z (ih.1 bJ bD bE l0 b2 b3 l1 a2 a3 a4 bF bG l5 bH bI l6 bV bK aE l7 aM aN l8 aI aF aG bL bM bN cC aH bY (bZ + 1) _ _ d1) (asK [0,1,2,3,4] Z) Z (H':=[]) Z ?_
  rintro _ _ _ ⟨e7,e8,e9,rfl,rfl,rfl⟩
  refine Q3 (Qh ?_)
  have hE:=(Zi hm).symm
  cases hE
 try dsimp only at hm
 refine Q8H [0,1,2,3,4,5] [] Z Z Z Q8W Z (ih.2 bJ bD bE l0 b2 b3 l1 a2 a3 a4 bF bG l5 bH bI l6 bV bK aE l7 aM aN l8 aI aF aG bL bM bN cC aH bY (bZ + 1) d1) (asK [0,1,2,3,4] Z) Z (H':=[]) Z (Q2k ?_)
 have hE:=(Zi hm).symm
 exact Qbs
 ·
  replace hm:=Qz hm cP
  refine Q2 [] (S':=[]) Z (Qq (Qh ?_))
  have hE:=(Zi hm).symm
  cases hE
 replace hm:=Qz hm cM
 refine Q2 [60,4,1,0] (S':=V4 ..) Z (Q5 (Q1 (wP Z (wP Z (Q3 (Q4 (Q2 [146,4,1,0] (S':=V4 ..) Z ?_)))))))
 refine Qj Z (fun cQ=>?_) (fun cQ=>?_)
 replace hm:=QA hm cQ
 refine Q2 [4,1,0] (S':=V3 ..) Z (Q5 ?_)
 obtain ⟨eS,dJ,hm⟩:=Q6 hm
 refine Q18 [0,1,2,3,4,5,6,7,8,10] Z Z (fun hok=>(Qm hok 0 0 0 Z Z Z Zq Z Z Z Z (cs:=V10 ..) Z Q4A Q9t Z Z (xP hok 1 Z (xP hok 2 Z (Q8 hok 3 Z Z Z Zq Z Z Z Q67 (Qm hok 4 1 0 Z Z Z Zq Z Z Z Z (cs:=[_,_]) Z Q2v Q57 Z Z (xP hok 5 Z (xP hok 6 Z (Q8 hok 7 Z Z Z Zq Z Z Z tF_135_2 (Qm hok 8 1 7 Z Z Z Zq Z Z Z Z (cs:=[_]) Z tS_26 tA_26 Z Z (xS hok 9 Z (Q3h 2 Z (fun dW _=>?_)))))))))))))
 subst dW
 refine Q3g [] [0,1,2,3,4,5,6] [2] Z Z Z Zq Z Z fn_45 Z (Q8d N a1.kind a1.type aP.1.1 aP.1.2 a1.args a1.test.kind a1.test.value.k a1.test.value.n a1.test.value.s a1.test.var a1.test.op aP.2.1 aP.2.2 a1.test.kids bD bE l0 b2 b3 l1 bV aE l7 _ dJ) (fun F w hφ hh=>(QS (hφ _ (Q10 (k:=0) Z)) (QS (hφ _ (Q10 (k:=1) Z)) (QS (hφ _ (Q10 (k:=4) Z)) (QS (hφ _ (Q10 (k:=5) Z)) (QS (tree_sli Q95 (hh _ (Q10 (k:=0) Z)) (fun _ h=>h) (fun _ h=>h)) Qr)))))) (fun _ _ _ hR=>by obtain ⟨rfl,rfl,rfl⟩:=hR; exact ⟨Z,(fun _ h=>Q2A h)⟩) Z Z (H':=V7 ..) Z ?_
 rintro _ _ _ ⟨rfl,rfl,rfl⟩
 refine Q3 (QV [0,1,2,3,4,5,6,7,8] [] Z Z (xP hok 10 Z (Q11 hok Z (Q4 (Q2 [158,1,0] (S':=V3 ..) Z ?_)))))
 refine Qj Z (fun cR=>?_) (fun cR=>?_)
 replace hm:=QA hm cR
 refine Q2 [1,0] (S':=[_,_]) Z (Q1 (wP Z (wP Z (wP Z ?_))))
 obtain ⟨dK,hm⟩:=Qu hm
 refine QH (d:=161) (v':=.int .i64 (bZ + 1)) (S':=V4 ..) Z Z (i64_in dK) ?_
 obtain ⟨⟨eT,eA⟩ | _,d2,hm⟩:=Q6 hm
 ·
  try dsimp only at hm
  refine wC [1,2,3,4,5,6] [0] Z Q8W Z (ih.1 bJ bD bE l0 b2 b3 l1 a2 a3 a4 bF bG l5 bH bI l6 bV l7.length aE l7 aM aN l8 aI aF aG bL bM bN cC aH bY (bZ + 1) _ _ d2) (asK [4,5,6,7,8] Z) Z (H':=[_]) Z ?_
  rintro _ _ _ ⟨eB,eC,eD,rfl,rfl,rfl⟩
  refine Q3 (Qh ?_)
  have hE:=(Zi hm).symm
  cases hE
 try dsimp only at hm
 refine Q8H [1,2,3,4,5,6] [0] Z Z Z Q8W Z (ih.2 bJ bD bE l0 b2 b3 l1 a2 a3 a4 bF bG l5 bH bI l6 bV l7.length aE l7 aM aN l8 aI aF aG bL bM bN cC aH bY (bZ + 1) d2) (asK [4,5,6,7,8] Z) Z (H':=[_]) Z (Q2k ?_)
 have hE:=(Zi hm).symm
 exact Qbs
 ·
  replace hm:=Qz hm cR
  refine Q2 [] (S':=[]) Z (Qq (Qh ?_))
  have hE:=(Zi hm).symm
  cases hE
 replace hm:=Qz hm cQ
 refine Q2 [4,1,0] (S':=V3 ..) Z (Q5 (Q18 [0,1,2,3,4,5,6,7] Z Z (fun hok=>(xP hok 0 Z (xP hok 1 Z (Q8 hok 2 Z Z Z Zq Z Z Z Q67 (Qm hok 3 1 0 Z Z Z Zq Z Z Z Z (cs:=[_,_]) Z Q2v Q57 Z Z (xP hok 4 Z (xP hok 5 Z (Q8 hok 6 Z Z Z Zq Z Z Z Q8v (Qm hok 7 1 8 Z Z Z Zq Z Z Z Z (cs:=[_]) Z tS_39 tA_39 Z Z (xS hok 8 Z (QE Z Z Z Zq Z Q7N Z (fun g7=>(Q3 ?_)))))))))))))))
 refine QV [0,1,2,3,4,5,6,7,8] [2,2] Z Z (xS hok 9 Z (wS 0 0 Z Q2v (all':=[_,_]) Z (H':=V8 ..) Z (Q3 (QV [0,1,2,3,4,5,6,7,8] [2] Z Z (xS hok 10 Z (wP Z (Q3 (QV [0,1,2,3,4,5,6,7,8] [] Z Z (Q11 hok Z (Q4 (Q2 [8,7,4,1,0] (S':=V5 ..) Z (Q5 ?_))))))))))))
 obtain ⟨dG,hm,hLj_4⟩:=Q1w hm
 refine QI (σ:=(List Bool) × (List V) × (List Int) × Int × (List QL) × OA × Nat × OA × Nat × OA × Nat × OA × Nat × Nat) (fun (b4,b5,b6,c1,aA,bO,bP,bQ,bR,bS,bT,aB,aC,aD)=>dG = .inl (b4,b5,b6,c1,aA)) (fun (b4,b5,b6,c1,aA,bO,bP,bQ,bR,bS,bT,aB,aC,aD)=>[(8,.slice aM l8.length aN),(7,.pointer (some ⟨g7,0,none⟩)),(0,.pointer (some ⟨bJ,0,none⟩))]) (fun (b4,b5,b6,c1,aA,bO,bP,bQ,bR,bS,bT,aB,aC,aD)=>[.sli 1 Q2i aM aN l8,.sli 1 Q1v bD bE l0,.sli 3 R_V b2 b3 l1,.sli 1 Q1v bO bP b4,.sli 3 R_V bQ bR b5,.sli 10 QZ bF bG l5,.sli 4 Q1n bH bI l6,.sli 1 Q2i bS bT b6]) (fun (b4,b5,b6,c1,aA,bO,bP,bQ,bR,bS,bT,aB,aC,aD)=>[.blk g7 [.slice bD l0.length bE,.slice b2 l1.length b3] 100,.blk bJ [.slice bO b4.length bP,.slice bQ b5.length bR,.string a2,.int .i64 a3,.int .i64 a4,.slice bF l5.length bG,.slice bH l6.length bI,.slice bV bK aE,.slice bS b6.length bT,.int .i64 c1,.func (.func 66) #[] #[.pointer (some ⟨aF,0,none⟩),.pointer (some ⟨aH,0,none⟩)]] 135,Q2d QM 71 3 (.slice bV bK aE) l7,.blk aF [.func (.func 33) #[] #[.pointer (some ⟨aG,0,none⟩)]] 88,.blk aG [.slice aB aD aC] 31,.own 41 2 Q12 (.slice aB aD aC) aA,.blk aH [.int .i64 bY] 3]) ?_ ?_
 refine Q5 (Q1 (wP Z (wP Z (wF Z tF_135_2 (wD 2 7 Z tS_26 tA_26 Z (Q3h 3 Z (fun dX _=>?_)))))))
 subst dX
 refine wN Z Q7A (wP Z (Q3 (Q4 (Q2 [74,73,72,8,7,4,1,0] (S':=V8 ..) Z (Qw (Q4X [3,0,1,2,4,5,6,7] Z (H':=V8 ..) Z (Q1E (σ:=Nat × Nat × (List Bool) × (List V) × (List Int) × Int × (List QL) × OA × Nat × OA × Nat × OA × Nat × OA × Nat × Nat) (fun (cS,aO,aJ,aK,aL,aQ,a0,aT,aU,aV,aW,aX,aY,j,q,z)=>Q1M (Q1X N l7 a1 l0 l1 l8 bZ rc a2 a3 a4 l5 l6 bY) cS (aO,aJ,aK,aL,aQ,a0) = some dG) (fun (cS,aO,aJ,aK,aL,aQ,a0,aT,aU,aV,aW,aX,aY,j,q,z)=>cS) (fun (cS,aO,aJ,aK,aL,aQ,a0,aT,aU,aV,aW,aX,aY,j,q,z)=>[(74,.int .i64 ((aO:Nat):Int)),(73,.int .i64 ((l7.length:Nat):Int)),(72,.slice bV l7.length aE),(8,.slice aM l8.length aN),(7,.pointer (some ⟨g7,0,none⟩)),(4,.pointer (some ⟨g4,0,none⟩)),(1,.int .i64 bZ),(0,.pointer (some ⟨bJ,0,none⟩))]) (fun (cS,aO,aJ,aK,aL,aQ,a0,aT,aU,aV,aW,aX,aY,j,q,z)=>[.sli 1 Q2i aM aN l8,.sli 1 Q1v bD bE l0,.sli 3 R_V b2 b3 l1,.sli 5 Q2x aP.1.1 aP.1.2 a1.args,.sli 7 QB aP.2.1 aP.2.2 a1.test.kids,.sli 1 Q1v aT aU aJ,.sli 3 R_V aV aW aK,.sli 10 QZ bF bG l5,.sli 4 Q1n bH bI l6,.sli 1 Q2i aX aY aL]) (fun (cS,aO,aJ,aK,aL,aQ,a0,aT,aU,aV,aW,aX,aY,j,q,z)=>[Q2d QM 71 3 (.slice bV l7.length aE) l7,.blk g7 [.slice bD l0.length bE,.slice b2 l1.length b3] 100,.blk g4 [.int .u8 (a1.kind),.int .i64 (a1.type),.slice aP.1.1 a1.args.length aP.1.2,.int .u8 (a1.test.kind),.int .u8 (a1.test.value.k),.int .i64 (a1.test.value.n),.string a1.test.value.s,.int .i64 (a1.test.var),.int .u8 (a1.test.op),.slice aP.2.1 a1.test.kids.length aP.2.2] 67,.blk bJ [.slice aT aJ.length aU,.slice aV aK.length aW,.string a2,.int .i64 a3,.int .i64 a4,.slice bF l5.length bG,.slice bH l6.length bI,.slice bV l7.length aE,.slice aX aL.length aY,.int .i64 aQ,.func (.func 66) #[] #[.pointer (some ⟨aF,0,none⟩),.pointer (some ⟨aH,0,none⟩)]] 135,.blk aF [.func (.func 33) #[] #[.pointer (some ⟨aG,0,none⟩)]] 88,.blk aG [.slice j z q] 31,.own 41 2 Q12 (.slice j z q) a0,.blk aH [.int .i64 bY] 3]) (N,0,l0,l1,l8,aI,cC,bD,bE,b2,b3,aM,aN,bL,bN,bM) hm [74,73,72,8,7,4,1,0] Z (asK [8,4,5,0,1,4,5,6,7,8] Z) Z (fun s_ hm=>?_))))))))
 obtain ⟨cS,aO,aJ,aK,aL,aQ,a0,aT,aU,aV,aW,aX,aY,j,q,z⟩:=s_
 try dsimp only at hm ⊢
 obtain ⟨eW,eX,dY,hq,hLu1⟩:=Q1e hm
 clear hm
 subst dY
 replace hm:=hq
 clear hq
 unfold Q1X at hm
 try dsimp only at hm
 refine Q5 (Q1 (wP Z (QH (d:=75) (v':=.bool (decide (aO < l7.length))) (S':=V8 ..) Z Z (Q2z (a:=aO) (b:=l7.length)) (Q3 (Q4 (Q5 ?_))))))
 refine Qj Z (fun d3=>?_) (fun d3=>?_)
 replace hm:=QA hm d3
 refine Q2 [74,73,72,8,7,4,1,0] (S':=V8 ..) Z (Qq (Q4 (Q5 ?_)))
 obtain ⟨dZ,hm,hLj_5⟩:=Q1w hm
 refine QI (σ:=(List Bool) × (List V) × (List Int) × Int × (List QL) × OA × Nat × OA × Nat × OA × Nat × OA × Nat × Nat) (fun (aZ,b0,b1,bW,a5,b7,b8,b9,bA,bB,bC,a6,a7,a8)=>dZ = .inl (aZ,b0,b1,bW,a5)) (fun (aZ,b0,b1,bW,a5,b7,b8,b9,bA,bB,bC,a6,a7,a8)=>[(74,.int .i64 ((aO:Nat):Int)),(73,.int .i64 ((l7.length:Nat):Int)),(72,.slice bV l7.length aE),(8,.slice aM l8.length aN),(7,.pointer (some ⟨g7,0,none⟩)),(4,.pointer (some ⟨g4,0,none⟩)),(1,.int .i64 bZ),(0,.pointer (some ⟨bJ,0,none⟩))]) (fun (aZ,b0,b1,bW,a5,b7,b8,b9,bA,bB,bC,a6,a7,a8)=>[.sli 1 Q2i aM aN l8,.sli 1 Q1v bD bE l0,.sli 3 R_V b2 b3 l1,.sli 5 Q2x aP.1.1 aP.1.2 a1.args,.sli 7 QB aP.2.1 aP.2.2 a1.test.kids,.sli 1 Q1v b7 b8 aZ,.sli 3 R_V b9 bA b0,.sli 10 QZ bF bG l5,.sli 4 Q1n bH bI l6,.sli 1 Q2i bB bC b1]) (fun (aZ,b0,b1,bW,a5,b7,b8,b9,bA,bB,bC,a6,a7,a8)=>[Q2d QM 71 3 (.slice bV l7.length aE) l7,.blk g7 [.slice bD l0.length bE,.slice b2 l1.length b3] 100,.blk g4 [.int .u8 (a1.kind),.int .i64 (a1.type),.slice aP.1.1 a1.args.length aP.1.2,.int .u8 (a1.test.kind),.int .u8 (a1.test.value.k),.int .i64 (a1.test.value.n),.string a1.test.value.s,.int .i64 (a1.test.var),.int .u8 (a1.test.op),.slice aP.2.1 a1.test.kids.length aP.2.2] 67,.blk bJ [.slice b7 aZ.length b8,.slice b9 b0.length bA,.string a2,.int .i64 a3,.int .i64 a4,.slice bF l5.length bG,.slice bH l6.length bI,.slice bV l7.length aE,.slice bB b1.length bC,.int .i64 bW,.func (.func 66) #[] #[.pointer (some ⟨aF,0,none⟩),.pointer (some ⟨aH,0,none⟩)]] 135,.blk aF [.func (.func 33) #[] #[.pointer (some ⟨aG,0,none⟩)]] 88,.blk aG [.slice a6 a8 a7] 31,.own 41 2 Q12 (.slice a6 a8 a7) a5,.blk aH [.int .i64 bY] 3]) ?_ ?_
 refine Qw (Q5 (Q1 (Qb4 0 Z (fun cE cT=>?_))))
 obtain ⟨bU,e0,hm⟩:=Q6 hm
 obtain ⟨c6,cJ⟩:=zip_at cT e0
 refine Q5D 1 aO Z Z Z Zq Z Z Z Z Z (Q2t cJ) Q7A Q4s (fun cK e1=>?_)
 subst e1
 refine Q3A [.own 57 3 R_V (.slice c6.1 bU.args.length c6.2) bU.args,Q2L QM cE (some aO),_,_,_,_,_,_,_,_] (fun _ h=>h.bagOpen 0 aO Z cJ) (Q1T pair_opens 2 aO 0 Z Z Z Zq Z Z Z cJ Q4s tA_71 (v:=fun _=>.agg #[.int .i64 (bU.id),.int .i64 (bU.ty),.slice c6.1 bU.args.length c6.2]) (fun _=>Z) (fun _=>Z) (fun _ _=>(QE Z Z Z Zq Z tZ_71 Z (fun e2=>(wS 0 0 Z Q4s (all':=V3 ..) Z (H':=V11 ..) Z (Q3 (Q4 (Q2 [10,74,73,72,8,7,4,1,0] (S':=V9 ..) Z (Q5 (Q1 (QR 5 0 Z Z Z Zq Z Z Z (cs:=V10 ..) Z Q4A Q9t Z Z (QR 0 0 Z Z Z Zq Z Z Z (cs:=V3 ..) Z Q4s tA_71 Z Z (QR 4 0 Z Z Z Zq Z Z Z (cs:=[_,_]) Z Q2v Q57 Z Z ?_)))))))))))))
 obtain ⟨⟨cF,cG,eH⟩,e3,hm⟩:=Q6 hm
 try dsimp only at hm
 refine Q3g [] [0,1,2,3,4,5,6,7,8,9,10] [1] Z Z Z Zq Z Z fn_49 Z (Q6x N a1.kind a1.type aP.1.1 aP.1.2 a1.args a1.test.kind a1.test.value.k a1.test.value.n a1.test.value.s a1.test.var a1.test.op aP.2.1 aP.2.2 a1.test.kids bU.id bU.ty c6.1 c6.2 bU.args bD bE l0 b2 b3 l1 _ _ _ e3) (fun F w hφ hh=>(QS (hφ _ (Q10 (k:=3) Z)) (QS (hφ _ (Q10 (k:=4) Z)) (QS (Q1K (hh _ (Q10 (k:=0) Z))) (QS (hφ _ (Q10 (k:=1) Z)) (QS (hφ _ (Q10 (k:=2) Z)) Qr)))))) (fun _ _ _ hR=>by obtain ⟨_,_,_,_,_,_,rfl,rfl,rfl⟩:=hR; exact ⟨Z,(Q80 (Q9n Q7v) (Q80 (Q9n Q7v) (fun _ h=>Q2A h)))⟩) Z Z (H':=V11 ..) Z ?_
 rintro _ _ _ ⟨c2,c3,cH,c4,c5,cI,rfl,rfl,rfl⟩
 refine wP Z (wP Z (wP Z (QE Z Z Z Zq Z Q7N Z (fun e4=>(wS 0 0 Z Q2v (all':=[_,_]) Z (H':=V14 ..) Z (wP Z (Q3 (Q4 (Q2 [12,11,10,74,73,72,8,7,4,1,0] (S':=V11 ..) Z (Q5 (Q5 (Q1 (wP Z (wP Z ?_))))))))))))))
 refine Q3 (Q4 (Q2 [86,11,10,74,73,72,8,7,4,1,0] (S':=V11 ..) Z ?_))
 refine Qj Z (fun d4=>?_) (fun d4=>?_)
 replace hm:=QA hm d4
 refine Q2 [74,73,72,8,7,4,1,0] (S':=V8 ..) Z (Q1x (Qk (QJ ?_)))
 have hE:=(Zi hm).symm
 refine Qs [4,0,1,2,3,5,6,7,8,9,10,11,12,13] Z (H':=V14 ..) Z (we_sh [_,_,_,_,Q2L QM (cE.set aO (bU,c6)) none,_,_,_,_,_,_,_,_] (fun _ h=>Q1j.bagClose (T:=QM) (x:=bU) (r:=c6) (i:=aO) (zs:=cE) (H:=V13 ..) h 4 Z) (we_hAs 4 (φ':=Q2L QM cE none) Z (by rw [set_getZ cJ]) (H':=[.blk e4 [.slice c2 cH c3,.slice c4 cI c5] 100,.own 4 1 Q1v (.slice c2 cH c3) cF,.own 57 3 R_V (.slice c4 cI c5) cG,.blk e2 [.int .i64 (bU.id),.int .i64 (bU.ty),.slice c6.1 bU.args.length c6.2] 71,Q2L QM cE none,.own 71 3 QM.pair (.slice (some ⟨cK,0,none⟩) l7.length aE) cE,.blk g7 [.slice bD l0.length bE,.slice b2 l1.length b3] 100,.blk g4 [.int .u8 (a1.kind),.int .i64 (a1.type),.slice aP.1.1 a1.args.length aP.1.2,.int .u8 (a1.test.kind),.int .u8 (a1.test.value.k),.int .i64 (a1.test.value.n),.string a1.test.value.s,.int .i64 (a1.test.var),.int .u8 (a1.test.op),.slice aP.2.1 a1.test.kids.length aP.2.2] 67,.blk bJ [.slice aT aJ.length aU,.slice aV aK.length aW,.string a2,.int .i64 a3,.int .i64 a4,.slice bF l5.length bG,.slice bH l6.length bI,.slice (some ⟨cK,0,none⟩) l7.length aE,.slice aX aL.length aY,.int .i64 aQ,.func (.func 66) #[] #[.pointer (some ⟨aF,0,none⟩),.pointer (some ⟨aH,0,none⟩)]] 135,.blk aF [.func (.func 33) #[] #[.pointer (some ⟨aG,0,none⟩)]] 88,.blk aG [.slice j z q] 31,.own 41 2 Q12 (.slice j z q) a0,.blk aH [.int .i64 bY] 3]) Z (we_sh [_,_,_,_,Q2d QM 71 3 (.slice (some ⟨cK,0,none⟩) l7.length aE) l7,_,_,_,_,_,_,_] (fun _ h=>h.treeIn 5 4 Z Z Z cT) (Qs [4,5,6,7,8,9,10,11] Z (H':=V8 ..) Z ?_))))
 refine Q9 (aJ,aK,aL,aQ,a0,aT,aU,aV,aW,aX,aY,j,q,z) hE [74,73,72,8,7,4,1,0] Z (asK [0,1,2,3,4,5,6,7,8,9] Z) Z
 replace hm:=Qz hm d4
 refine Q2 [11,10,74,73,72,8,7,4,1,0] (S':=V10 ..) Z (Qq (Q4 (Q5 ?_)))
 obtain ⟨cV,hm⟩:=Qu hm
 obtain ⟨dH,hm⟩:=Qu hm
 refine QI (σ:=OA × Nat) (fun _=>True) (fun (aR,aS)=>[(74,.int .i64 ((aO:Nat):Int)),(73,.int .i64 ((l7.length:Nat):Int)),(72,.slice (some ⟨cK,0,none⟩) l7.length aE),(8,.slice aM l8.length aN),(7,.pointer (some ⟨g7,0,none⟩)),(4,.pointer (some ⟨g4,0,none⟩)),(1,.int .i64 bZ),(0,.pointer (some ⟨bJ,0,none⟩))]) (fun (aR,aS)=>[.sli 1 Q2i aM aN l8,.sli 1 Q1v bD bE l0,.sli 3 R_V b2 b3 l1,.sli 5 Q2x aP.1.1 aP.1.2 a1.args,.sli 7 QB aP.2.1 aP.2.2 a1.test.kids,.sli 10 QZ bF bG l5,.sli 4 Q1n bH bI l6]) (fun (aR,aS)=>[Q2d QM 71 3 (.slice (some ⟨cK,0,none⟩) l7.length aE) l7,.blk g7 [.slice bD l0.length bE,.slice b2 l1.length b3] 100,.blk g4 [.int .u8 (a1.kind),.int .i64 (a1.type),.slice aP.1.1 a1.args.length aP.1.2,.int .u8 (a1.test.kind),.int .u8 (a1.test.value.k),.int .i64 (a1.test.value.n),.string a1.test.value.s,.int .i64 (a1.test.var),.int .u8 (a1.test.op),.slice aP.2.1 a1.test.kids.length aP.2.2] 67,.blk bJ [.slice c2 cH c3,.slice c4 cI c5,.string a2,.int .i64 a3,.int .i64 a4,.slice bF l5.length bG,.slice bH l6.length bI,.slice (some ⟨cK,0,none⟩) l7.length aE,.slice aR (((l8.take l8.length) ++ [bU.id]).length) aS,.int .i64 aQ,.func (.func 66) #[] #[.pointer (some ⟨aF,0,none⟩),.pointer (some ⟨aH,0,none⟩)]] 135,.own 4 1 Q1v (.slice c2 cH c3) cF,.own 57 3 R_V (.slice c4 cI c5) cG,.own 3 1 Q2i (.slice aR (((l8.take l8.length) ++ [bU.id]).length) aS) ((l8.take l8.length) ++ [bU.id]),.blk aF [.func (.func 33) #[] #[.pointer (some ⟨aG,0,none⟩)]] 88,.blk aG [.slice j z q] 31,.own 41 2 Q12 (.slice j z q) a0,.blk aH [.int .i64 bY] 3]) ?_ ?_
 ·
  refine Q18 [0,1,2,3,4,5,6,7,9,10,13,14,16,17] Z Z (fun hok=>(xP hok 0 Z (xP hok 1 Z (Qm hok 2 0 0 Z Z Z Zq Z Z Z Z (cs:=[_,_]) Z Q2v Q57 Z Z (xP hok 3 Z (xP hok 4 Z (Q4u hok 5 Z Z Z Zq Z Z Z Q71 (xP hok 6 Z (Q4u hok 7 Z Z Z Zq Z Z Z Q71 (Q8 hok 9 Z Z Z Zq Z Z Z Q63 (Qm hok 10 3 0 Z Z Z Zq Z Z Z Z (cs:=[_]) Z Q1A Q1N Z Z ?_)))))))))))
  refine Q3n hok 8 11 Z Z Z Z Z Z ?_ ?_
  rotate_left
  focus
   refine Qy Z Z Z Zq Z Q71 Q1A tZ_3 Z (zs:=[.int .i64 0]) (by kernel_rfl) Z (out:=[_]) Z (fun eI=>(Q3 (QV [0,1,2,3,4,5,6,7,8,9] [1] Z Z (xS hok 8 Z (Qbu 0 Z Z Z Zq Z Z Z Z Z Z Z Q71 Q1A cV.1 cV.2 (fun eJ=>(Q3 (QV [1,2,3,4,5,6,7,8,9,10] [4,1] Z Z ?_))))))))
  rotate_right
  focus
   refine Qbu 0 Z Z Z Zq Z Z Z Z Z Z Z Q71 Q1A cV.1 cV.2 (fun eJ=>(Q3 (QV [1,2,3,4,5,6,7,8,9,10] [3,0] Z Z (xS hok 11 Z (Qy Z Z Z Zq Z Q71 Q1A tZ_3 Z (zs:=[.int .i64 0]) (by kernel_rfl) Z (out:=[_]) Z (fun eI=>(Q3 (QV [0,1,2,3,4,5,6,7,8,9,10] [1] Z Z ?_))))))))
  all_goals
   refine xS hok 12 Z (wl_appendF [bU.id] 0 0 Z Z Z Zq Z Z Z (by simp) Z Z (fun F w hφ=>⟨[.int .i64 (bU.id)],[],Z,Z,⟨(),Z,Qr⟩,Z⟩) (by simp) Q71 tR_3 Z Z (Nat.le_trans dH (by decide)) (Nat.le_trans (Nat.mul_le_mul_right _ dH) (by decide)) (fun dL dM=>(Q2s 1 Z (H':=V15 ..) Z (Q3 (QV [0,1,2,3,4,5,6,7,8,9,10] [4,1] Z Z (xP hok 13 Z (Q8 hok 14 Z Z Z Zq Z Z Z Q67 (xS hok 15 Z (wS 10 0 Z Q2v (all':=V11 ..) Z (H':=V15 ..) Z (Q3 (QV [0,1,2,3,4,5,6,7,8,9,10] [4] Z Z (xP hok 16 Z (Q8 hok 17 Z Z Z Zq Z Z Z Q8v (xS hok 18 Z ?_))))))))))))))
   refine wS 10 8 Z tS_39 (all':=V11 ..) Z (H':=V15 ..) Z (Q3 (QV [0,1,2,3,4,5,6,7,8,9,10] [] Z Z (Q11 hok Z (Qs [5,0,1,2,3,4,6,7,8,9,10,11,12,13,14] Z (H':=V15 ..) Z (we_sh [_,_,_,_,_,Q2L QM (cE.set aO (bU,c6)) none,_,_,_,_,_,_,_,_] (fun _ h=>Q1j.bagClose (T:=QM) (x:=bU) (r:=c6) (i:=aO) (zs:=cE) (H:=V14 ..) h 5 Z) (we_hAs 5 (φ':=Q2L QM cE none) Z (by rw [set_getZ cJ]) (H':=[.own 3 1 Q2i (.slice dL (((l8.take l8.length) ++ [bU.id]).length) dM) ((l8.take l8.length) ++ [bU.id]),.blk e4 [.slice c2 cH c3,.slice c4 cI c5] 100,.own 4 1 Q1v (.slice c2 cH c3) cF,.own 57 3 R_V (.slice c4 cI c5) cG,.blk e2 [.int .i64 (bU.id),.int .i64 (bU.ty),.slice c6.1 bU.args.length c6.2] 71,Q2L QM cE none,.own 71 3 QM.pair (.slice (some ⟨cK,0,none⟩) l7.length aE) cE,.blk g7 [.slice bD l0.length bE,.slice b2 l1.length b3] 100,.blk g4 [.int .u8 (a1.kind),.int .i64 (a1.type),.slice aP.1.1 a1.args.length aP.1.2,.int .u8 (a1.test.kind),.int .u8 (a1.test.value.k),.int .i64 (a1.test.value.n),.string a1.test.value.s,.int .i64 (a1.test.var),.int .u8 (a1.test.op),.slice aP.2.1 a1.test.kids.length aP.2.2] 67,.blk bJ [.slice c2 cH c3,.slice c4 cI c5,.string a2,.int .i64 a3,.int .i64 a4,.slice bF l5.length bG,.slice bH l6.length bI,.slice (some ⟨cK,0,none⟩) l7.length aE,.slice dL (((l8.take l8.length) ++ [bU.id]).length) dM,.int .i64 aQ,.func (.func 66) #[] #[.pointer (some ⟨aF,0,none⟩),.pointer (some ⟨aH,0,none⟩)]] 135,.blk aF [.func (.func 33) #[] #[.pointer (some ⟨aG,0,none⟩)]] 88,.blk aG [.slice j z q] 31,.own 41 2 Q12 (.slice j z q) a0,.blk aH [.int .i64 bY] 3]) Z (we_sh [_,_,_,_,_,Q2d QM 71 3 (.slice (some ⟨cK,0,none⟩) l7.length aE) l7,_,_,_,_,_,_,_] (fun _ h=>h.treeIn 6 5 Z Z Z cT) (Qs [5,6,7,8,2,3,0,9,10,11,12] Z (H':=V11 ..) Z ?_))))))))
   refine Q9 (dL,dM) trivial [74,73,72,8,7,4,1,0] Z (asK [1,2,3,4,5,8,9] Z) Z
 rintro ⟨aR,aS⟩ _
 try dsimp only
 refine Q1 (wP Z (wP Z (wP Z ?_)))
 obtain ⟨dN,hm⟩:=Qu hm
 refine QH (d:=106) (v':=.int .i64 (bZ + 1)) (S':=V10 ..) Z Z (i64_in dN) (Q15 4 Z (fun d5 _=>?_))
 subst d5
 refine Q2w 4 Z (H':=V10 ..) Z (Q3f (.sli 1 Q1v c2 c3 cF) (fun F w hφ=>Q1K (hφ _ (Q10 (k:=0) Z))) (Q15 4 Z (fun d6 _=>?_)))
 subst d6
 refine Q2w 4 Z (H':=V9 ..) Z (Q3f (.sli 3 R_V c4 c5 cG) (fun F w hφ=>Q1K (hφ _ (Q10 (k:=0) Z))) (Q2w 4 Z (H':=V8 ..) Z (Q3f (.sli 1 Q2i aR aS ((l8.take l8.length) ++ [bU.id])) (fun F w hφ=>Q1K (hφ _ (Q10 (k:=0) Z))) ?_)))
 obtain ⟨⟨e5,dB⟩ | _,d7,hm⟩:=Q6 hm
 try dsimp only at hm
 refine wC [3,0,4,5,6,7] [1,2] Z Q8W Z (ih.1 bJ c2 c3 cF c4 c5 cG a2 a3 a4 bF bG l5 bH bI l6 (some ⟨cK,0,none⟩) l7.length aE l7 aR aS ((l8.take l8.length) ++ [bU.id]) aQ aF aG j z q a0 aH bY (bZ + 1) _ _ d7) (asK [4,2,11,12,0] Z) Z (H':=[_,_]) Z ?_
 rintro _ _ _ ⟨dC,dD,dE,rfl,rfl,rfl⟩
 refine Q3 (Qh ?_)
 have hE:=(Zi hm).symm
 refine Qs [1,6,7,0,2,3,4,5] Z (H':=V8 ..) Z ?_
 refine Q9 (cF,cG,(l8.take l8.length) ++ [bU.id],e5,dB,c2,c3,c4,c5,aR,aS,dC,dD,dE) hE [74,73,72,8,7,4,1,0] Z (asK [11,12,13,14,15,0,1,2,3,4] Z) Z
 try dsimp only at hm
 refine Q8H [3,0,4,5,6,7] [1,2] Z Z Z Q8W Z (ih.2 bJ c2 c3 cF c4 c5 cG a2 a3 a4 bF bG l5 bH bI l6 (some ⟨cK,0,none⟩) l7.length aE l7 aR aS ((l8.take l8.length) ++ [bU.id]) aQ aF aG j z q a0 aH bY (bZ + 1) d7) (asK [4,2,11,12,0] Z) Z (H':=[_,_]) Z (Q2k (Q2g (Q2g (Q2k (Q2g (Q2k ?_))))))
 have hE:=(Zi hm).symm
 replace hE:=Qv hLj_5 hE
 replace hE:=Qv hLu1 hE
 replace hE:=Qv hLj_4 hE
 exact Qbs
 rintro ⟨aZ,b0,b1,bW,a5,b7,b8,b9,bA,bB,bC,a6,a7,a8⟩ hE
 try dsimp only
 have hm:=QO hLj_5 hE
 try dsimp only at hm
 refine Q1 (wP Z ?_)
 obtain ⟨dO,hm⟩:=Qu hm
 refine QH (d:=108) (v':=.int .i64 ((aO + 1:Nat):Int)) (S':=V8 ..) Z Z (Q1J (a:=aO) (b:=1) dO) (Q1b (S':=V8 ..) Z Z Z Z Z (Q3 ?_))
 have hE:=(Zi hm).symm
 replace hE:=QO hLu1 hE
 refine Q1a (_,aO + 1,aZ,b0,b1,bW,a5,b7,b8,b9,bA,bB,bC,a6,a7,a8) (Nat.lt_succ_self _) hE [74,73,72,8,7,4,1,0] Z (asK [0,1,2,3,4,5,6,7,8,9] Z) Z
 replace hm:=Qz hm d3
 refine Q2 [8,7,0] (S':=V3 ..) Z (Q1x (Qk (Qk (QJ ?_))))
 have hE:=(Zi hm).symm
 replace hE:=Qv hLu1 hE
 refine Qs [1,3,0,4,5,6,7] Z (H':=V7 ..) Z ?_
 refine Q9 (aJ,aK,aL,aQ,a0,aT,aU,aV,aW,aX,aY,j,q,z) hE [8,7,0] Z (asK [0,1,2,5,6,7,8,9] Z) Z
 ·
  rintro ⟨b4,b5,b6,c1,aA,bO,bP,bQ,bR,bS,bT,aB,aC,aD⟩ hE
  try dsimp only
  have hm:=QO hLj_4 hE
  try dsimp only at hm
  refine Q1 (wP Z (wP Z (QR 0 0 Z Z Z Zq Z Z Z (cs:=[_,_]) Z Q2v Q57 Z Z (wP Z (wP Z (wF Z Q67 (wS 1 0 Z Q2v (all':=V11 ..) Z (H':=V7 ..) Z (wP Z (wF Z Q8v (wS 1 8 Z tS_39 (all':=V11 ..) Z (H':=V7 ..) Z (Q3 (Qh ?_))))))))))))
  have hE:=(Zi hm).symm
  cases hE
theorem Q49 : ∀ (N:Nat),(∀ (aJ:Nat) (aA:OA) (aB:Nat) (l0:List Bool) (aC:OA) (aD:Nat) (l1:List V) (a2:ByteArray) (a3:Int) (a4:Int) (aE:OA) (aF:Nat) (l5:List QN) (aG:OA) (aH:Nat) (l6:List Q1c) (aI:OA) (j:Nat) (q:Nat) (l7:List QU) (s:OA) (z:Nat) (l8:List Int) (a9:Int) (a0:Nat) (a1:Nat) (a6:OA) (a7:Nat) (a8:Nat) (aL:List QL) (a5:Nat) (aK:Int) (aM:Int) (o0:Int) (o3:List QL),Q24 N l0 l1 a2 a3 a4 l5 l6 l7 l8 a9 aL aK aM = some (.inl (o0,o3)) → Q1o Tryz.prog 69 [.pointer (some ⟨aJ,0,none⟩),.int .i64 aM] [.sli 1 Q1v aA aB l0,.sli 3 R_V aC aD l1,.sli 10 QZ aE aF l5,.sli 4 Q1n aG aH l6,.sli 1 Q2i s z l8] [.blk aJ [.slice aA l0.length aB,.slice aC l1.length aD,.string a2,.int .i64 a3,.int .i64 a4,.slice aE l5.length aF,.slice aG l6.length aH,.slice aI j q,.slice s l8.length z,.int .i64 a9,.func (.func 66) #[] #[.pointer (some ⟨a0,0,none⟩),.pointer (some ⟨a5,0,none⟩)]] 135,Q2d QM 71 3 (.slice aI j q) l7,.blk a0 [.func (.func 33) #[] #[.pointer (some ⟨a1,0,none⟩)]] 88,.blk a1 [.slice a6 a7 a8] 31,.own 41 2 Q12 (.slice a6 a7 a8) aL,.blk a5 [.int .i64 aK] 3] (fun v Φr Hr=>∃ (o1:OA) (o2:Nat) (o4:Nat),v = .tuple #[] ∧ Φr = [.sli 1 Q1v aA aB l0,.sli 3 R_V aC aD l1,.sli 10 QZ aE aF l5,.sli 4 Q1n aG aH l6,.sli 1 Q2i s z l8] ∧ Hr = [.blk aJ [.slice aA l0.length aB,.slice aC l1.length aD,.string a2,.int .i64 a3,.int .i64 a4,.slice aE l5.length aF,.slice aG l6.length aH,.slice aI j q,.slice s l8.length z,.int .i64 o0,.func (.func 66) #[] #[.pointer (some ⟨a0,0,none⟩),.pointer (some ⟨a5,0,none⟩)]] 135,Q2d QM 71 3 (.slice aI j q) l7,.blk a0 [.func (.func 33) #[] #[.pointer (some ⟨a1,0,none⟩)]] 88,.blk a1 [.slice o1 o4 o2] 31,.own 41 2 Q12 (.slice o1 o4 o2) o3,.blk a5 [.int .i64 aK] 3])) ∧ (∀ (aJ:Nat) (aA:OA) (aB:Nat) (l0:List Bool) (aC:OA) (aD:Nat) (l1:List V) (a2:ByteArray) (a3:Int) (a4:Int) (aE:OA) (aF:Nat) (l5:List QN) (aG:OA) (aH:Nat) (l6:List Q1c) (aI:OA) (j:Nat) (q:Nat) (l7:List QU) (s:OA) (z:Nat) (l8:List Int) (a9:Int) (a0:Nat) (a1:Nat) (a6:OA) (a7:Nat) (a8:Nat) (aL:List QL) (a5:Nat) (aK:Int) (aM:Int),Q24 N l0 l1 a2 a3 a4 l5 l6 l7 l8 a9 aL aK aM = some (.inr ()) → SpecX Tryz.prog 69 [.pointer (some ⟨aJ,0,none⟩),.int .i64 aM] [.sli 1 Q1v aA aB l0,.sli 3 R_V aC aD l1,.sli 10 QZ aE aF l5,.sli 4 Q1n aG aH l6,.sli 1 Q2i s z l8] [.blk aJ [.slice aA l0.length aB,.slice aC l1.length aD,.string a2,.int .i64 a3,.int .i64 a4,.slice aE l5.length aF,.slice aG l6.length aH,.slice aI j q,.slice s l8.length z,.int .i64 a9,.func (.func 66) #[] #[.pointer (some ⟨a0,0,none⟩),.pointer (some ⟨a5,0,none⟩)]] 135,Q2d QM 71 3 (.slice aI j q) l7,.blk a0 [.func (.func 33) #[] #[.pointer (some ⟨a1,0,none⟩)]] 88,.blk a1 [.slice a6 a7 a8] 31,.own 41 2 Q12 (.slice a6 a7 a8) aL,.blk a5 [.int .i64 aK] 3] (.iface 131 (.agg #[]))):=by
 intro N
 induction N with
 | zero=>exact ⟨(by intro aJ aA aB l0 aC aD l1 a2 a3 a4 aE aF l5 aG aH l6 aI j q l7 s z l8 a9 a0 a1 a6 a7 a8 aL a5 aK aM o0 o3 hm; cases hm),(by intro aJ aA aB l0 aC aD l1 a2 a3 a4 aE aF l5 aG aH l6 aI j q l7 s z l8 a9 a0 a1 a6 a7 a8 aL a5 aK aM hm; cases hm)⟩
 | succ N ih=>exact ⟨fun aJ aA aB l0 aC aD l1 a2 a3 a4 aE aF l5 aG aH l6 aI j q l7 s z l8 a9 a0 a1 a6 a7 a8 aL a5 aK aM o0 o3 hm=>Q9E N (Q24 N) ih aJ aA aB l0 aC aD l1 a2 a3 a4 aE aF l5 aG aH l6 aI j q l7 s z l8 a9 a0 a1 a6 a7 a8 aL a5 aK aM o0 o3 hm,fun aJ aA aB l0 aC aD l1 a2 a3 a4 aE aF l5 aG aH l6 aI j q l7 s z l8 a9 a0 a1 a6 a7 a8 aL a5 aK aM hm=>Q9F N (Q24 N) ih aJ aA aB l0 aC aD l1 a2 a3 a4 aE aF l5 aG aH l6 aI j q l7 s z l8 a9 a0 a1 a6 a7 a8 aL a5 aK aM hm⟩
theorem w_naive_all_v2_s0 (N:Nat) (aP:OA) (aQ:Nat) (aR:Nat) (l0:List Qn) (aM:OA) (aN:Nat) (aO:Nat) (l1:List Qp) (aB:OA) (aC:Nat) (aD:Nat) (l2:List QU) (aE:Nat) (aS:OA) (aT:Nat) (aU:Nat) (l3:List QL)  (hm:Q5j N l0 l1 l2 l3 = some (.inl ())):Q1o Tryz.prog 32 [.agg #[.slice aP aQ aR,.slice aM aN aO],.slice aB aC aD,.func (.func 33) #[] #[.pointer (some ⟨aE,0,none⟩)]] [] [.own 69 2 Qf (.slice aP aQ aR) l0,.own 52 5 Qe (.slice aM aN aO) l1,Q2d QM 71 3 (.slice aB aC aD) l2,.blk aE [.slice aS aT aU] 31,.own 41 2 Q12 (.slice aS aT aU) l3] (fun v Φr Hr=>v = .int .i64 204 ∧ Φr = [] ∧ Hr = [.own 69 2 Qf (.slice aP aQ aR) l0,.own 52 5 Qe (.slice aM aN aO) l1]):=by
 unfold Q5j at hm
 refine spec_ofD Tryz.func32 Z Tryz.ntmps32 Z (S:=V3 ..) Z (fun C=>(Q5 (Q1 (wB Z (fun g3=>(wB Z (fun g5=>(QE Z Z Z Zq Z tZ_32 Z (fun g6=>(Q3 (Q4 (Q2 [6,5,3,1] (S':=V4 ..) Z (Q5 (Q1 (QY Z Z Z Zq Z Z (wl_defer Z Z Z Z (Q3 ?_)))))))))))))))))
 refine Q4 (Q2 [6,5,3,1] (S':=V4 ..) Z (Q5 (Q1 (wP Z (Q3 (Q4 (Q5 ?_)))))))
 obtain ⟨aZ,hm,hLj_1⟩:=Q1w hm
 refine QI (σ:=(List QL) × OA × Nat × Nat) (fun (a0,a1,a5,a6)=>aZ = .inl a0) (fun (a0,a1,a5,a6)=>[(6,.pointer (some ⟨g6,0,none⟩))]) (fun (a0,a1,a5,a6)=>[]) (fun (a0,a1,a5,a6)=>[.blk g6 [.int .i64 0] 32,.own 69 2 Qf (.slice aP aQ aR) l0,.own 52 5 Qe (.slice aM aN aO) l1,Q2d QM 71 3 (.slice aB aC aD) l2,.blk aE [.slice a1 a6 a5] 31,.own 41 2 Q12 (.slice a1 a6 a5) a0]) ?_ ?_
 refine Q5 (Q1 (wF Z Q6w (wD 2 1 Z Q9T tA_23 Z (Q15 4 Z (fun b8 _=>(wN Z Q7K (QH (d:=14) (v':=.int .i64 ((l1.length:Nat):Int)) (S':=V7 ..) Z Z (Q4Y b8) (wP Z (Q3 (Q4 (Q2 [15,14,13,7,6,5,1] (S':=V7 ..) Z (Qw (Q4X [4,0,1,6,7,5,3] Z (H':=V7 ..) Z (Q1E (σ:=Nat × Nat × Int × (List QL) × OA × Nat × Nat) (fun (aF,a7,a9,j,q,s,z)=>Q1M (Q2o N l1 l2) aF (a7,a9,j) = some aZ) (fun (aF,a7,a9,j,q,s,z)=>aF) (fun (aF,a7,a9,j,q,s,z)=>[(15,.int .i64 ((a7:Nat):Int)),(14,.int .i64 ((l1.length:Nat):Int)),(13,.slice aM aN aO),(7,.int .i64 a9),(6,.pointer (some ⟨g6,0,none⟩)),(5,.pointer (some ⟨g5,0,none⟩)),(1,.slice aB aC aD)]) (fun (aF,a7,a9,j,q,s,z)=>[]) (fun (aF,a7,a9,j,q,s,z)=>[.own 52 5 Qe (.slice aM aN aO) l1,.blk g6 [.int .i64 0] 32,.blk g5 [.func (.func 33) #[] #[.pointer (some ⟨aE,0,none⟩)]] 88,.blk aE [.slice q z s] 31,.own 41 2 Q12 (.slice q z s) j,Q2d QM 71 3 (.slice aB aC aD) l2,.own 69 2 Qf (.slice aP aQ aR) l0]) (N,0,4096,l3,aS,aU,aT) hm [15,14,13,7,6,5,1] Z (asK [] Z) Z (fun s_ hm=>?_)))))))))))))))
 obtain ⟨aF,a7,a9,j,q,s,z⟩:=s_
 try dsimp only at hm ⊢
 obtain ⟨bL,bM,b9,hq,hLu1⟩:=Q1e hm
 clear hm
 subst b9
 replace hm:=hq
 clear hq
 unfold Q2o at hm
 try dsimp only at hm
 refine Q5 (Q1 (wP Z (QH (d:=16) (v':=.bool (decide (a7 < l1.length))) (S':=V7 ..) Z Z (Q2z (a:=a7) (b:=l1.length)) (Q3 (Q4 (Q5 ?_))))))
 refine Qj Z (fun aV=>?_) (fun aV=>?_)
 replace hm:=QA hm aV
 refine Q2 [15,14,13,7,6,5,1] (S':=V7 ..) Z (Qq (Q4 (Q5 (Qw (Q5 (Q1 (wP Z ?_)))))))
 obtain ⟨a8,b0,hm⟩:=Q6 hm
 refine Q5D 0 a7 Z Z Z Zq Z Z Z Z Z (Q2t b0) Q7K Q4W (fun bN bA=>?_)
 subst bA
 refine Q1T Q3T 0 a7 0 Z Z Z Zq Z Z Z b0 Q4W tA_52 (v:=fun aA=>.agg #[.string a8.name,.int .i64 (a8.salience),.int .i64 (a8.vars),.slice aA.1.1 a8.conds.length aA.1.2,.slice aA.2.1 a8.acts.length aA.2.2]) (fun _=>Z) (fun _=>Z) (fun aA _=>(QE Z Z Z Zq Z tZ_3 Z (fun g8=>(QE Z Z Z Zq Z tZ_52 Z (fun g9=>(wS 1 0 Z Q1A (all':=[_]) Z (H':=V9 ..) Z (wS 0 0 Z Q4W (all':=V5 ..) Z (H':=V9 ..) Z (Q3 (Q4 (Q2 [9,8,15,14,13,7,6,5,1] (S':=V9 ..) Z (Q5 ?_)))))))))))
 obtain ⟨⟨aG,aH⟩,bB,hm⟩:=Q6 hm
 try dsimp only at hm
 refine Q18 [0,1,3,4,5,6] Z Z (fun hok=>(Q8 hok 0 Z Z Z Zq Z Z Z QaL (Qm hok 1 0 2 Z Z Z Zq Z Z Z Z (cs:=[_]) Z Q1A Q1N Z Z (Qm hok 3 0 0 Z Z Z Zq Z Z Z Z (cs:=V5 ..) Z Q4W tA_52 Z Z (xP hok 4 Z (xP hok 5 Z (xS hok 2 Z (wC [] [0,1,2,3,4,5,6,7,8] Z fn_43 Z (Q8N N a8.vars _ _ bB) (asK [] Z) Z (H':=V9 ..) Z ?_))))))))
 rintro _ _ _ ⟨aI,aJ,bH,aK,aL,bI,rfl,rfl,rfl⟩
 refine Q3 (QV [0,1] [2] Z Z (Q6U hok 6 Z Z Z Zq Z Z tZ_135 tP_135 Z (out:=V11 ..) Z (xS hok 7 Z (wB Z (fun bC=>(Q3 (QV [0,1] [3,3] Z Z (xS hok 8 Z (wP Z (Q3 (QV [0,1] [] Z Z (Q11 hok Z (Q4 (Q2 [10,8,15,14,13,6,5,1] (S':=V8 ..) Z ?_))))))))))))))
 refine Q5 (Q1 (wP Z (QY Z Z Z Zq Z Z (wP Z (wF Z tF_135_5 (wS 0 10 Z tS_133 (all':=V11 ..) Z (H':=V12 ..) Z (Q3 (Q4 (Q2 [10,15,14,13,6,5,1] (S':=V7 ..) Z (Q5 (Q1 (wP Z (Q15 1 Z (fun aW _=>?_))))))))))))))
 subst aW
 refine Q2w 1 Z (H':=V11 ..) Z (Q3f (.sli 1 Q1v aI aJ aG) (fun F w hφ=>Q1K (hφ _ (Q10 (k:=0) Z))) (Q15 1 Z (fun aX _=>?_)))
 subst aX
 refine Q2w 1 Z (H':=V10 ..) Z (Q3f (.sli 3 R_V aK aL aH) (fun F w hφ=>Q1K (hφ _ (Q10 (k:=0) Z))) (Q3f (.sli 1 Q2i none 0 ([] : List Int)) (fun _ _ _=>Q3Q) ?_))
 obtain ⟨⟨bJ,b3⟩ | _,b1,hm⟩:=Q6 hm
 try dsimp only at hm
 refine wC [0,8,5,6,7,2] [1,3,4,9] Z Q8W Z ((Q49 N).1 bC aI aJ aG aK aL aH a8.name a8.salience a8.vars aA.1.1 aA.1.2 a8.conds aA.2.1 aA.2.2 a8.acts aB aC aD l2 none 0 ([] : List Int) a9 g5 aE q z s j g8 ((a7:Nat):Int) 0 _ _ b1) (asK [3,1,5,6,0] Z) Z (H':=V4 ..) Z ?_
 rintro _ _ _ ⟨b4,b5,b6,rfl,rfl,rfl⟩
 refine Q3 (Q4 (Q2 [10,15,14,13,6,5,1] (S':=V7 ..) Z (Q1 (wP Z (wP Z (wF Z Q8w (wD 0 9 Z Q1A Q1N Z (wP Z (Q3 (Qh (Q4 (Q2 [7,15,14,13,6,5,1] (S':=V7 ..) Z (Q1 ?_)))))))))))))
 refine wP Z ?_
 obtain ⟨bD,hm⟩:=Qu hm
 refine QH (d:=38) (v':=.int .i64 ((a7 + 1:Nat):Int)) (S':=V7 ..) Z Z (Q1J (a:=a7) (b:=1) bD) (Q1b (S':=V7 ..) Z Z Z Z Z (Q3 ?_))
 have hE:=(Zi hm).symm
 replace hE:=QO hLu1 hE
 refine Qs [7,8,2,3,4,1,9] Z (H':=V7 ..) Z ?_
 refine Q1a (_,a7 + 1,bJ,b3,b4,b5,b6) (Nat.lt_succ_self _) hE [15,14,13,7,6,5,1] Z (asK [] Z) Z
 try dsimp only at hm
 refine Q8H [0,8,5,6,7,2] [1,3,4,9] Z Z Z Q8W Z ((Q49 N).2 bC aI aJ aG aK aL aH a8.name a8.salience a8.vars aA.1.1 aA.1.2 a8.conds aA.2.1 aA.2.2 a8.acts aB aC aD l2 none 0 ([] : List Int) a9 g5 aE q z s j g8 ((a7:Nat):Int) 0 b1) (asK [3,1,5,6,0] Z) Z (H':=V4 ..) Z (Q2g (Q2k (Q2g (Q2g (Q2k (Q2g (we_recover fn_65 (recovers_65 _) (H':=V4 ..) (fun w hw=>⟨_,⟨hw.blk1 2 Z,Z⟩,hw.store (k:=2) 0 Z (by decide) Z Z⟩) ?_)))))))
 have hE:=(Zi hm).symm
 replace hE:=Qv hLu1 hE
 replace hE:=Qv hLj_1 hE
 replace hE:=Sum.inl.inj hE
 refine Ql (Hr:=[_,_]) [3,1] Tryz.results32 (QW 2 Z Z tS_32 tA_32 Z Z) ⟨Z,Z,Z⟩ (asK [] Z) Z Z (.inl Z)
 replace hm:=Qz hm aV
 refine Q2 [6] (S':=[_]) Z (Q1x (Qk (Qk (QJ ?_))))
 have hE:=(Zi hm).symm
 replace hE:=Qv hLu1 hE
 refine Qs [1,6,0,5,3,4] Z (H':=V6 ..) Z ?_
 refine Q9 (j,q,s,z) hE [6] Z (asK [] Z) Z
 ·
  rintro ⟨a0,a1,a5,a6⟩ hE
  try dsimp only
  have hm:=QO hLj_1 hE
  refine Q5 (Q1 (wS 0 0 Z tS_32 (all':=[_]) Z (H':=V6 ..) Z (Q3 (Q4 (Qb (we_idle fn_65 (idle_65 _) (.inl Z) ?_))))))
  have hE:=(Zi hm).symm
  cases hE
theorem w_naive_all_v2_s1 (N:Nat) (aP:OA) (aQ:Nat) (aR:Nat) (l0:List Qn) (aM:OA) (aN:Nat) (aO:Nat) (l1:List Qp) (aB:OA) (aC:Nat) (aD:Nat) (l2:List QU) (aE:Nat) (aS:OA) (aT:Nat) (aU:Nat) (l3:List QL) (o2:List QL) (hm:Q5j N l0 l1 l2 l3 = some (.inr o2)):Q1o Tryz.prog 32 [.agg #[.slice aP aQ aR,.slice aM aN aO],.slice aB aC aD,.func (.func 33) #[] #[.pointer (some ⟨aE,0,none⟩)]] [] [.own 69 2 Qf (.slice aP aQ aR) l0,.own 52 5 Qe (.slice aM aN aO) l1,Q2d QM 71 3 (.slice aB aC aD) l2,.blk aE [.slice aS aT aU] 31,.own 41 2 Q12 (.slice aS aT aU) l3] (fun v Φr Hr=>∃ (o0:OA) (o1:Nat) (o3:Nat),v = .int .i64 0 ∧ Φr = [] ∧ Hr = [.own 69 2 Qf (.slice aP aQ aR) l0,.own 52 5 Qe (.slice aM aN aO) l1,Q2d QM 71 3 (.slice aB aC aD) l2,.blk aE [.slice o0 o3 o1] 31,.own 41 2 Q12 (.slice o0 o3 o1) o2]):=by
 unfold Q5j at hm
 refine spec_ofD Tryz.func32 Z Tryz.ntmps32 Z (S:=V3 ..) Z (fun C=>(Q5 (Q1 (wB Z (fun g3=>(wB Z (fun g5=>(QE Z Z Z Zq Z tZ_32 Z (fun g6=>(Q3 (Q4 (Q2 [6,5,3,1] (S':=V4 ..) Z (Q5 (Q1 (QY Z Z Z Zq Z Z (wl_defer Z Z Z Z (Q3 ?_)))))))))))))))))
 refine Q4 (Q2 [6,5,3,1] (S':=V4 ..) Z (Q5 (Q1 (wP Z (Q3 (Q4 (Q5 ?_)))))))
 obtain ⟨b0,hm,hLj_1⟩:=Q1w hm
 refine QI (σ:=(List QL) × OA × Nat × Nat) (fun (a6,a0,a1,a5)=>b0 = .inl a6) (fun (a6,a0,a1,a5)=>[(6,.pointer (some ⟨g6,0,none⟩))]) (fun (a6,a0,a1,a5)=>[]) (fun (a6,a0,a1,a5)=>[.blk g6 [.int .i64 0] 32,.own 69 2 Qf (.slice aP aQ aR) l0,.own 52 5 Qe (.slice aM aN aO) l1,Q2d QM 71 3 (.slice aB aC aD) l2,.blk aE [.slice a0 a5 a1] 31,.own 41 2 Q12 (.slice a0 a5 a1) a6]) ?_ ?_
 refine Q5 (Q1 (wF Z Q6w (wD 2 1 Z Q9T tA_23 Z (Q15 4 Z (fun b8 _=>(wN Z Q7K (QH (d:=14) (v':=.int .i64 ((l1.length:Nat):Int)) (S':=V7 ..) Z Z (Q4Y b8) (wP Z (Q3 (Q4 (Q2 [15,14,13,7,6,5,1] (S':=V7 ..) Z (Qw (Q4X [4,0,1,6,7,5,3] Z (H':=V7 ..) Z (Q1E (σ:=Nat × Nat × Int × (List QL) × OA × Nat × Nat) (fun (aF,a7,a9,j,q,s,z)=>Q1M (Q2o N l1 l2) aF (a7,a9,j) = some b0) (fun (aF,a7,a9,j,q,s,z)=>aF) (fun (aF,a7,a9,j,q,s,z)=>[(15,.int .i64 ((a7:Nat):Int)),(14,.int .i64 ((l1.length:Nat):Int)),(13,.slice aM aN aO),(7,.int .i64 a9),(6,.pointer (some ⟨g6,0,none⟩)),(5,.pointer (some ⟨g5,0,none⟩)),(1,.slice aB aC aD)]) (fun (aF,a7,a9,j,q,s,z)=>[]) (fun (aF,a7,a9,j,q,s,z)=>[.own 52 5 Qe (.slice aM aN aO) l1,.blk g6 [.int .i64 0] 32,.blk g5 [.func (.func 33) #[] #[.pointer (some ⟨aE,0,none⟩)]] 88,.blk aE [.slice q z s] 31,.own 41 2 Q12 (.slice q z s) j,Q2d QM 71 3 (.slice aB aC aD) l2,.own 69 2 Qf (.slice aP aQ aR) l0]) (N,0,4096,l3,aS,aU,aT) hm [15,14,13,7,6,5,1] Z (asK [] Z) Z (fun s_ hm=>?_)))))))))))))))
 obtain ⟨aF,a7,a9,j,q,s,z⟩:=s_
 try dsimp only at hm ⊢
 obtain ⟨bP,bQ,b9,hq,hLu1⟩:=Q1e hm
 clear hm
 subst b9
 replace hm:=hq
 clear hq
 unfold Q2o at hm
 try dsimp only at hm
 refine Q5 (Q1 (wP Z (QH (d:=16) (v':=.bool (decide (a7 < l1.length))) (S':=V7 ..) Z Z (Q2z (a:=a7) (b:=l1.length)) (Q3 (Q4 (Q5 ?_))))))
 refine Qj Z (fun aV=>?_) (fun aV=>?_)
 replace hm:=QA hm aV
 refine Q2 [15,14,13,7,6,5,1] (S':=V7 ..) Z (Qq (Q4 (Q5 (Qw (Q5 (Q1 (wP Z ?_)))))))
 obtain ⟨a8,b1,hm⟩:=Q6 hm
 refine Q5D 0 a7 Z Z Z Zq Z Z Z Z Z (Q2t b1) Q7K Q4W (fun bR bA=>?_)
 subst bA
 refine Q1T Q3T 0 a7 0 Z Z Z Zq Z Z Z b1 Q4W tA_52 (v:=fun aA=>.agg #[.string a8.name,.int .i64 (a8.salience),.int .i64 (a8.vars),.slice aA.1.1 a8.conds.length aA.1.2,.slice aA.2.1 a8.acts.length aA.2.2]) (fun _=>Z) (fun _=>Z) (fun aA _=>(QE Z Z Z Zq Z tZ_3 Z (fun g8=>(QE Z Z Z Zq Z tZ_52 Z (fun g9=>(wS 1 0 Z Q1A (all':=[_]) Z (H':=V9 ..) Z (wS 0 0 Z Q4W (all':=V5 ..) Z (H':=V9 ..) Z (Q3 (Q4 (Q2 [9,8,15,14,13,7,6,5,1] (S':=V9 ..) Z (Q5 ?_)))))))))))
 obtain ⟨⟨aG,aH⟩,bB,hm⟩:=Q6 hm
 try dsimp only at hm
 refine Q18 [0,1,3,4,5,6] Z Z (fun hok=>(Q8 hok 0 Z Z Z Zq Z Z Z QaL (Qm hok 1 0 2 Z Z Z Zq Z Z Z Z (cs:=[_]) Z Q1A Q1N Z Z (Qm hok 3 0 0 Z Z Z Zq Z Z Z Z (cs:=V5 ..) Z Q4W tA_52 Z Z (xP hok 4 Z (xP hok 5 Z (xS hok 2 Z (wC [] [0,1,2,3,4,5,6,7,8] Z fn_43 Z (Q8N N a8.vars _ _ bB) (asK [] Z) Z (H':=V9 ..) Z ?_))))))))
 rintro _ _ _ ⟨aI,aJ,bH,aK,aL,bI,rfl,rfl,rfl⟩
 refine Q3 (QV [0,1] [2] Z Z (Q6U hok 6 Z Z Z Zq Z Z tZ_135 tP_135 Z (out:=V11 ..) Z (xS hok 7 Z (wB Z (fun bC=>(Q3 (QV [0,1] [3,3] Z Z (xS hok 8 Z (wP Z (Q3 (QV [0,1] [] Z Z (Q11 hok Z (Q4 (Q2 [10,8,15,14,13,6,5,1] (S':=V8 ..) Z ?_))))))))))))))
 refine Q5 (Q1 (wP Z (QY Z Z Z Zq Z Z (wP Z (wF Z tF_135_5 (wS 0 10 Z tS_133 (all':=V11 ..) Z (H':=V12 ..) Z (Q3 (Q4 (Q2 [10,15,14,13,6,5,1] (S':=V7 ..) Z (Q5 (Q1 (wP Z (Q15 1 Z (fun aW _=>?_))))))))))))))
 subst aW
 refine Q2w 1 Z (H':=V11 ..) Z (Q3f (.sli 1 Q1v aI aJ aG) (fun F w hφ=>Q1K (hφ _ (Q10 (k:=0) Z))) (Q15 1 Z (fun aX _=>?_)))
 subst aX
 refine Q2w 1 Z (H':=V10 ..) Z (Q3f (.sli 3 R_V aK aL aH) (fun F w hφ=>Q1K (hφ _ (Q10 (k:=0) Z))) (Q3f (.sli 1 Q2i none 0 ([] : List Int)) (fun _ _ _=>Q3Q) ?_))
 obtain ⟨⟨bJ,b3⟩ | _,b2,hm⟩:=Q6 hm
 try dsimp only at hm
 refine wC [0,8,5,6,7,2] [1,3,4,9] Z Q8W Z ((Q49 N).1 bC aI aJ aG aK aL aH a8.name a8.salience a8.vars aA.1.1 aA.1.2 a8.conds aA.2.1 aA.2.2 a8.acts aB aC aD l2 none 0 ([] : List Int) a9 g5 aE q z s j g8 ((a7:Nat):Int) 0 _ _ b2) (asK [3,1,5,6,0] Z) Z (H':=V4 ..) Z ?_
 rintro _ _ _ ⟨b4,b5,b6,rfl,rfl,rfl⟩
 refine Q3 (Q4 (Q2 [10,15,14,13,6,5,1] (S':=V7 ..) Z (Q1 (wP Z (wP Z (wF Z Q8w (wD 0 9 Z Q1A Q1N Z (wP Z (Q3 (Qh (Q4 (Q2 [7,15,14,13,6,5,1] (S':=V7 ..) Z (Q1 ?_)))))))))))))
 refine wP Z ?_
 obtain ⟨bD,hm⟩:=Qu hm
 refine QH (d:=38) (v':=.int .i64 ((a7 + 1:Nat):Int)) (S':=V7 ..) Z Z (Q1J (a:=a7) (b:=1) bD) (Q1b (S':=V7 ..) Z Z Z Z Z (Q3 ?_))
 have hE:=(Zi hm).symm
 replace hE:=QO hLu1 hE
 refine Qs [7,8,2,3,4,1,9] Z (H':=V7 ..) Z ?_
 refine Q1a (_,a7 + 1,bJ,b3,b4,b5,b6) (Nat.lt_succ_self _) hE [15,14,13,7,6,5,1] Z (asK [] Z) Z
 ·
  try dsimp only at hm
  refine Q8H [0,8,5,6,7,2] [1,3,4,9] Z Z Z Q8W Z ((Q49 N).2 bC aI aJ aG aK aL aH a8.name a8.salience a8.vars aA.1.1 aA.1.2 a8.conds aA.2.1 aA.2.2 a8.acts aB aC aD l2 none 0 ([] : List Int) a9 g5 aE q z s j g8 ((a7:Nat):Int) 0 b2) (asK [3,1,5,6,0] Z) Z (H':=V4 ..) Z (Q2g (Q2k (Q2g (Q2g (Q2k (Q2g (we_recover fn_65 (recovers_65 _) (H':=V4 ..) (fun w hw=>⟨_,⟨hw.blk1 2 Z,Z⟩,hw.store (k:=2) 0 Z (by decide) Z Z⟩) ?_)))))))
  have hE:=(Zi hm).symm
  replace hE:=Qv hLu1 hE
  replace hE:=Qv hLj_1 hE
  cases hE
 replace hm:=Qz hm aV
 refine Q2 [6] (S':=[_]) Z (Q1x (Qk (Qk (QJ ?_))))
 have hE:=(Zi hm).symm
 replace hE:=Qv hLu1 hE
 refine Qs [1,6,0,5,3,4] Z (H':=V6 ..) Z ?_
 refine Q9 (j,q,s,z) hE [6] Z (asK [] Z) Z
 rintro ⟨a6,a0,a1,a5⟩ hE
 try dsimp only
 have hm:=QO hLj_1 hE
 refine Q5 (Q1 (wS 0 0 Z tS_32 (all':=[_]) Z (H':=V6 ..) Z (Q3 (Q4 (Qb (we_idle fn_65 (idle_65 _) (.inl Z) ?_))))))
 have hE:=(Zi hm).symm
 replace hE:=Sum.inr.inj hE
 replace hE:=hE.symm
 subst hE
 refine Ql (Hr:=V5 ..) [1,2,3,4,5] Tryz.results32 (QW 0 Z Z tS_32 tA_32 Z Z) ⟨a0,a1,a5,Z,Z,Z⟩ (asK [] Z) Z Z (.inl Z)
theorem Q94 (N:Nat) (q:OA) (a8:Nat) (s:Nat) (l0:List Qn) (z:OA) (a9:Nat) (a0:Nat) (l1:List Qp) (a1:OA) (aE:Nat) (a5:Nat) (l2:List QU) (o2:List QL) (o4:Nat) (hm:Q3U N l0 l1 l2 = some (o2,o4)):Q1o Tryz.prog 12 [.agg #[.slice q a8 s,.slice z a9 a0],.slice a1 aE a5] [] [.own 69 2 Qf (.slice q a8 s) l0,.own 52 5 Qe (.slice z a9 a0) l1,Q2d QM 71 3 (.slice a1 aE a5) l2] (fun v Φr Hr=>∃ (o0:OA) (o1:Nat) (o3:Nat),v = .tuple #[.slice o0 o3 o1,.int .i64 ((o4:Nat):Int)] ∧ Φr = [] ∧ Hr = [.own 41 2 Q12 (.slice o0 o3 o1) o2,.own 69 2 Qf (.slice q a8 s) l0,.own 52 5 Qe (.slice z a9 a0) l1]):=by
 unfold Q3U at hm
 refine QD Tryz.func12 Z Tryz.ntmps12 Z (S:=[_,_]) Z (fun C=>(Q5 (Q1 (wB Z (fun g2=>(wP Z (wP Z (Q3 (Q4 (Q2 [2,1] (S':=[_,_]) Z (Q5 (Q5 ?_))))))))))))
 obtain ⟨aK,hm,hLj_1⟩:=Q6 hm
 refine QI (σ:=Bool) (fun j=>aK = j) (fun j=>[(2,.pointer (some ⟨g2,0,none⟩)),(1,.slice a1 aE a5),(16,.bool j)]) (fun j=>[]) (fun j=>[.blk g2 [.slice q a8 s,.slice z a9 a0] 25,.own 69 2 Qf (.slice q a8 s) l0,.own 52 5 Qe (.slice z a9 a0) l1,Q2d QM 71 3 (.slice a1 aE a5) l2]) ?_ ?_
 refine Q1 (QR 0 0 Z Z Z Zq Z Z Z (cs:=[_,_]) Z Q6R Q9r Z Z (Q15 1 Z (fun a6 _=>?_)))
 subst a6
 refine Q15 2 Z (fun a7 _=>?_)
 subst a7
 obtain ⟨v9,aO,hm⟩:=Q6 hm
 refine Q3g [] [0,1,2,3] [1,2] Z Z Z Zq Z Z fn_30 Z (Qb8 N q s l0 z a0 l1 _ aO) (fun F w hφ hh=>(QS (Q1K (hh _ (Q10 (k:=0) Z))) (QS (Q1K (hh _ (Q10 (k:=1) Z))) Qr))) (fun _ _ _ hR=>by obtain ⟨rfl,rfl,rfl⟩:=hR; exact ⟨Z,(fun _ h=>Q2A h)⟩) Z Z (H':=V4 ..) Z ?_
 rintro _ _ _ ⟨rfl,rfl,rfl⟩
 refine wP Z (wP Z ?_)
 refine Qt (d:=11) (S':=V5 ..) Z Z (fun aA=>?_) (fun aA=>?_)
 replace hm:=QA hm aA
 refine wO Z (wO Z (wO Z (wO Z (wP Z (Q3 ?_)))))
 have hE:=(Zi hm).symm
 refine Q9 true hE [2,1,16] Z (asK [] Z) Z
 replace hm:=Qz hm aA
 refine QR 0 0 Z Z Z Zq Z Z Z (cs:=[_,_]) Z Q6R Q9r Z Z (wP Z (Q3h 3 Z (fun aL _=>?_)))
 subst aL
 obtain ⟨aP,aM,hm⟩:=Q6 hm
 refine Q3g [] [0,1,2,3] [1,2,3] Z Z Z Zq Z Z fn_31 Z (Qba N q s l0 z a0 l1 a1 a5 l2 _ aM) (fun F w hφ hh=>(QS (Q1K (hh _ (Q10 (k:=0) Z))) (QS (Q1K (hh _ (Q10 (k:=1) Z))) (QS (tree_sli Q95 (hh _ (Q10 (k:=2) Z)) (fun _ h=>h) (fun _ h=>h)) Qr)))) (fun _ _ _ hR=>by obtain ⟨rfl,rfl,rfl⟩:=hR; exact ⟨Z,(fun _ h=>Q2A h)⟩) Z Z (H':=V4 ..) Z ?_
 rintro _ _ _ ⟨rfl,rfl,rfl⟩
 refine wP Z (wP Z (Q3 ?_))
 have hE:=(Zi hm).symm
 refine Q9 (!aP) hE [2,1,16] Z (asK [] Z) Z
 rintro j hE
 try dsimp only
 have hm:=hLj_1
 rw [hE] at hm
 refine Qj Z (fun aB=>?_) (fun aB=>?_)
 replace hm:=QA hm aB
 refine Q2 [] (S':=[]) Z (Q5 (Q1 (wP Z (wP Z (Q3 (Q4 (Qb (Q7 ?_))))))))
 have hE:=(Zi hm).symm
 obtain ⟨hE0,hE1⟩:=Prod.mk.inj hE
 clear hE
 replace hE0:=hE0.symm
 subst hE0
 replace hE1:=hE1.symm
 subst hE1
 refine Q23 41 2 Q12 ?_
 refine Q1r (Hr:=V3 ..) [0,2,3] Tryz.results12 (Qc Z) (Qc Z) ⟨none,0,0,Z,Z,Z⟩ (asK [] Z) Z Z (.inl Z)
 replace hm:=Qz hm aB
 refine Q2 [2,1] (S':=[_,_]) Z (Qq (Q4 (Q5 (Q1 (QE Z Z Z Zq Z tZ_31 Z (fun g6=>(Q3 (Q4 (Q5 (Q5 (Q1 (QR 1 0 Z Z Z Zq Z Z Z (cs:=[_,_]) Z Q6R Q9r Z Z (wP Z (QY Z Z Z Zq Z Z ?_))))))))))))))
 refine Qbt 41 2 Q12 (Q15 3 Z (fun a6 _=>?_))
 subst a6
 refine Q15 4 Z (fun a7 _=>?_)
 subst a7
 refine Q3h 5 Z (fun aN _=>?_)
 subst aN
 obtain ⟨_ | aX,aG,hm⟩:=Q6 hm
 try dsimp only at hm
 refine wC [3,4,5,1,0] [2] Z fn_32 Z (w_naive_all_v2_s0 N q l0.length s l0 z l1.length a0 l1 a1 l2.length a5 l2 g6 none 0 0 [] aG) (asK [] Z) Z (H':=[_]) Z ?_
 rintro _ _ _ ⟨rfl,rfl,rfl⟩
 refine wP Z (Q3 (Q4 (Q2 [7,6] (S':=[_,_]) Z (Q5 (Q1 (wP Z (wP Z (QH (d:=22) (v':=.bool true) (S':=V3 ..) Z Z Z (Q3 (Q4 (Q2 [22,7,6] (S':=V3 ..) Z (wc_true Z (Q2 [7] (S':=[_]) Z ?_)))))))))))))
 refine Q5 (Q1 (wP Z (wP Z (wP Z (Q3 (Q4 (Q2 [5,4] (S':=[_,_]) Z (Qb (Q7 ?_)))))))))
 have hE:=(Zi hm).symm
 obtain ⟨hE0,hE1⟩:=Prod.mk.inj hE
 clear hE
 replace hE0:=hE0.symm
 subst hE0
 replace hE1:=hE1.symm
 subst hE1
 refine Q23 41 2 Q12 ?_
 refine Q1r (Hr:=V3 ..) [0,1,2] Tryz.results12 (Qc Z) (Qc Z) ⟨none,0,0,Z,Z,Z⟩ (asK [] Z) Z Z (.inl Z)
 try dsimp only at hm
 refine wC [3,4,5,1,0] [2] Z fn_32 Z (w_naive_all_v2_s1 N q l0.length s l0 z l1.length a0 l1 a1 l2.length a5 l2 g6 none 0 0 [] _ aG) (asK [] Z) Z (H':=[_]) Z ?_
 rintro _ _ _ ⟨aH,aI,aJ,rfl,rfl,rfl⟩
 refine wP Z (Q3 (Q4 (Q2 [7,6] (S':=[_,_]) Z (Q5 (Q1 (wP Z (wP Z (QH (d:=22) (v':=.bool false) (S':=V3 ..) Z Z Z (Q3 (Q4 (Q2 [22,7,6] (S':=V3 ..) Z (wc_false Z (Q2 [6] (S':=[_]) Z ?_)))))))))))))
 refine Qq (Q4 (Q5 (Q1 (wD 3 0 Z tS_31 tA_31 Z (wP Z (wP Z (Q3 (Q4 (Q2 [5,4] (S':=[_,_]) Z (Qb ?_))))))))))
 have hE:=(Zi hm).symm
 obtain ⟨hE0,hE1⟩:=Prod.mk.inj hE
 clear hE
 replace hE0:=hE0.symm
 subst hE0
 replace hE1:=hE1.symm
 subst hE1
 refine Q1r (Hr:=V3 ..) [4,0,1] Tryz.results12 (Qc Z) (Qc Z) ⟨aH,aI,aJ,Z,Z,Z⟩ (asK [] Z) Z Z (.inl Z)
theorem Q9U (N:Nat) (a0:Int)  (hm:Q7m N a0 = some ()):Q1o Tryz.prog 87 [.int .i64 a0] [] [] (fun v Φr Hr=>v = .bool (a0 != a0) ∧ Φr = [] ∧ Hr = []):=by
 unfold Q7m at hm
 refine QD Tryz.func87 Z Tryz.ntmps87 Z (S:=[_]) Z (fun C=>(Q5 (Q1 (wP Z (Q3 (Q4 (Q2 [0] (S':=[_]) Z (Q5 (Q1 (wP Z (wP Z (wP Z (wP Z (Q3 ?_))))))))))))))
 refine Q4 (Q2 [2] (S':=[_]) Z (Qb ?_))
 have hE:=(Zi hm).symm
 refine Ql (Hr:=[]) [] Tryz.results87 (Qc Z) ⟨Z,Z,Z⟩ (asK [] Z) Z Z (.inl Z)
theorem Qbw (N:Nat) (a0:Int) (a1:Int) (o0:Int) (hm:Q7I N a0 a1 = some o0):Q1o Tryz.prog 48 [.int .i64 a0,.int .i64 a1] [] [] (fun v Φr Hr=>v = .int .i64 o0 ∧ Φr = [] ∧ Hr = []):=by
 unfold Q7I at hm
 refine QD Tryz.func48 Z Tryz.ntmps48 Z (S:=[_,_]) Z (fun C=>(Q5 (Q1 (wP Z (Q3 (Q4 (Q2 [0,1] (S':=[_,_]) Z (Q5 (Q1 (wP Z ?_))))))))))
 obtain ⟨_,a9,hm⟩:=Q6 hm
 try dsimp only at hm
 refine wC [] [] Z fn_87 Z (Q9U N a0 a9) (asK [] Z) Z (H':=[]) Z ?_
 rintro _ _ _ ⟨rfl,rfl,rfl⟩
 refine wP Z (Q3 (Q4 (Q2 [5,0,1] (S':=V3 ..) Z (Q5 (Q1 (wP Z ?_))))))
 obtain ⟨_,a6,hm⟩:=Q6 hm
 try dsimp only at hm
 refine wC [] [] Z fn_87 Z (Q9U N a1 a6) (asK [] Z) Z (H':=[]) Z ?_
 rintro _ _ _ ⟨rfl,rfl,rfl⟩
 refine wP Z (Q3 (Q4 (Q2 [6,5,0,1] (S':=V4 ..) Z (Q5 (Q5 (Q1 (wP Z (Q3 (Q4 (Q2 [11,6,0,1] (S':=V4 ..) Z ?_))))))))))
 refine Qj Z (fun j=>?_) (fun j=>?_)
 replace hm:=QA hm j
 refine Q2 [6] (S':=[_]) Z (Q5 (Q5 (Q1 (wP Z (Q3 (Q4 (Q2 [12] (S':=[_]) Z ?_)))))))
 refine Qj Z (fun q=>?_) (fun q=>?_)
 replace hm:=QA hm q
 refine Q2 [] (S':=[]) Z (Q5 (Q1 (wP Z (Q3 (Q4 (Qb (Q7 (Q7 ?_))))))))
 have hE:=(Zi hm).symm
 replace hE:=hE.symm
 subst hE
 refine Ql (Hr:=[]) [] Tryz.results48 (Qc Z) ⟨Z,Z,Z⟩ (asK [] Z) Z Z (.inl Z)
 replace hm:=Qz hm q
 refine Q2 [] (S':=[]) Z (Qq (Q4 (Q5 (Q1 (wP Z (Q3 (Q4 (Qb (Q7 ?_)))))))))
 have hE:=(Zi hm).symm
 replace hE:=hE.symm
 subst hE
 refine Ql (Hr:=[]) [] Tryz.results48 (Qc Z) ⟨Z,Z,Z⟩ (asK [] Z) Z Z (.inl Z)
 replace hm:=Qz hm j
 refine Q2 [6,0,1] (S':=V3 ..) Z (Qq (Q4 (Q5 (Q5 (Q1 (wP Z (Q3 (Q4 (Q2 [13,0,1] (S':=V3 ..) Z ?_)))))))))
 refine Qj Z (fun s=>?_) (fun s=>?_)
 replace hm:=QA hm s
 refine Q2 [] (S':=[]) Z (Q5 (Q1 (wP Z (Q3 (Q4 (Qb (Q7 ?_)))))))
 have hE:=(Zi hm).symm
 replace hE:=hE.symm
 subst hE
 refine Ql (Hr:=[]) [] Tryz.results48 (Qc Z) ⟨Z,Z,Z⟩ (asK [] Z) Z Z (.inl Z)
 replace hm:=Qz hm s
 refine Q2 [0,1] (S':=[_,_]) Z (Qq (Q4 (Q5 (Q5 (Q1 (wP Z (wP Z (wP Z (Q3 (Q4 (Q2 [16,0,1] (S':=V3 ..) Z ?_)))))))))))
 refine Qj Z (fun z=>?_) (fun z=>?_)
 replace hm:=QA hm z
 refine Q2 [] (S':=[]) Z (Q5 (Q1 (wP Z (Q3 (Q4 (Qb (Q7 ?_)))))))
 have hE:=(Zi hm).symm
 replace hE:=hE.symm
 subst hE
 refine Ql (Hr:=[]) [] Tryz.results48 (Qc Z) ⟨Z,Z,Z⟩ (asK [] Z) Z Z (.inl Z)
 replace hm:=Qz hm z
 refine Q2 [0,1] (S':=[_,_]) Z (Qq (Q4 (Q5 (Q5 (Q1 (wP Z (wP Z (wP Z (Q3 (Q4 (Q2 [19] (S':=[_]) Z ?_)))))))))))
 refine Qj Z (fun a5=>?_) (fun a5=>?_)
 replace hm:=QA hm a5
 refine Q2 [] (S':=[]) Z (Q5 (Q1 (wP Z (Q3 (Q4 (Qb (Q7 ?_)))))))
 have hE:=(Zi hm).symm
 replace hE:=hE.symm
 subst hE
 refine Ql (Hr:=[]) [] Tryz.results48 (Qc Z) ⟨Z,Z,Z⟩ (asK [] Z) Z Z (.inl Z)
 replace hm:=Qz hm a5
 refine Q2 [] (S':=[]) Z (Qq (Q4 (Q5 (Q1 (wP Z (Q3 (Q4 (Qb ?_))))))))
 have hE:=(Zi hm).symm
 replace hE:=hE.symm
 subst hE
 refine Ql (Hr:=[]) [] Tryz.results48 (Qc Z) ⟨Z,Z,Z⟩ (asK [] Z) Z Z (.inl Z)
theorem Qaq (N:Nat) (a0:Int) (a1:Int) (qp0:OA) (qc1:Nat) (l2:List V) (a3:Int) (o0:Int) (hm:Q7J N a0 a1 l2 a3 = some o0):Q1o Tryz.prog 47 [.agg #[.int .i64 a0,.int .i64 a1,.slice qp0 l2.length qc1],.int .i64 a3] [.sli 3 R_V qp0 qc1 l2] [] (fun v Φr Hr=>v = .int .i64 o0 ∧ Φr = [] ∧ Hr = []):=by
 unfold Q7J at hm
 refine QD Tryz.func47 Z Tryz.ntmps47 Z (S:=[_,_]) Z (fun C=>(Q5 (Q1 (wB Z (fun g2=>(wP Z (Q3 (Q4 (Q2 [2,1] (S':=[_,_]) Z (Q5 (Q1 (wF Z Q63 (wD 0 0 Z Q1A Q1N Z (wP Z ?_))))))))))))))
 obtain ⟨v8,hc8,hm⟩:=Q6 hm
 refine wC [] [0] Z fn_48 Z (Qbw N a0 a3 _ hc8) (asK [] Z) Z (H':=[_]) Z ?_
 rintro _ _ _ ⟨rfl,rfl,rfl⟩
 refine wP Z (Q3 (Q4 (Q2 [4] (S':=[_]) Z (Qb ?_))))
 have hE:=(Zi hm).symm
 replace hE:=hE.symm
 subst hE
 refine Ql (Hr:=[]) [] Tryz.results47 (Qc Z) ⟨Z,Z,Z⟩ (asK [] Z) Z Z (.inl Z)
theorem Q7T (N:Nat) (a0:OA) (a5:Nat) (l0:List QU) (a1:Int) (o0:Int) (o1:Bool) (hm:Q3M N l0 a1 = some (o0,o1)):Q1o Tryz.prog 46 [.slice a0 l0.length a5,.int .i64 a1,.func (.func 47) #[] #[]] [.sli 3 Q4N a0 a5 l0] [] (fun v Φr Hr=>v = .tuple #[.int .i64 o0,.bool o1] ∧ Φr = [] ∧ Hr = []):=by
 unfold Q3M at hm
 refine QD Tryz.func46 Z Tryz.ntmps46 Z (S:=V3 ..) Z (fun C=>(Q5 (Q1 (wP Z (wP Z (Q3 (Q4 (Q2 [0,1,2] (S':=V3 ..) Z (Q5 (Q1 (wP Z (wN Z Q7A (wP Z (Q3 ?_))))))))))))))
 refine Q4 (Q2 [8,0,1,2] (S':=V4 ..) Z (Q5 (Q1 (wP Z (wP Z (wP Z (Q3 (Q4 (Q2 [10,9,8,0,1,2] (S':=V6 ..) Z (Q5 ?_))))))))))
 obtain ⟨aA,hm,hLj_1⟩:=Q6 hm
 refine QI (σ:=Int) (fun s=>aA = s) (fun s=>[(9,.int .i64 s),(8,.int .i64 ((l0.length:Nat):Int)),(0,.slice a0 l0.length a5),(1,.int .i64 a1),(2,.func (.func 47) #[] #[])]) (fun s=>[.sli 3 Q4N a0 a5 l0]) (fun s=>[]) ?_ ?_
 refine Qw (Q1E (σ:=Nat × Int × Int) (fun (z,j,q)=>Q1M (Q3a N l0 a1) z (j,q) = some aA) (fun (z,j,q)=>z) (fun (z,j,q)=>[(10,.int .i64 j),(9,.int .i64 q),(8,.int .i64 ((l0.length:Nat):Int)),(0,.slice a0 l0.length a5),(1,.int .i64 a1),(2,.func (.func 47) #[] #[])]) (fun (z,j,q)=>[.sli 3 Q4N a0 a5 l0]) (fun (z,j,q)=>[]) (N,((l0.length:Nat):Int),0) hm [10,9,8,0,1,2] Z (asK [0] Z) Z (fun s_ hm=>?_))
 obtain ⟨z,j,q⟩:=s_
 try dsimp only at hm ⊢
 obtain ⟨aX,aY,aE,hq,hLu1⟩:=Q1e hm
 clear hm
 subst aE
 replace hm:=hq
 clear hq
 unfold Q3a at hm
 try dsimp only at hm
 refine Q5 (Q5 (Q1 (wP Z (wP Z (wP Z (Q3 (Q4 (Q2 [17,10,9,8,0,1,2] (S':=V7 ..) Z ?_))))))))
 refine Qj Z (fun a7=>?_) (fun a7=>?_)
 replace hm:=QA hm a7
 refine Q2 [10,9,8,0,1,2] (S':=V6 ..) Z (Qq (Q4 (Qw (Q5 (Q1 (wP Z (wP Z (wP Z ?_))))))))
 obtain ⟨aF,hm⟩:=Qu hm
 refine QH (d:=20) (v':=.int .i64 (q + j)) (S':=V8 ..) Z Z (i64_in aF) (Q1B Z Z Z Zq (QaI Z Z tI_3 tI_149) (Q7Q Z Z Z Zq Z Z Z (run_shr (by decide)) (Q1B Z Z Z Zq (QaI Z Z tI_149 tI_3) (wP Z (Q3 (Q4 (Q2 [11,10,9,8,0,1,2] (S':=V7 ..) Z (Q5 (Q1 (wP Z (wP Z (wP Z ?_))))))))))))
 obtain ⟨aG,hm⟩:=Qu hm
 obtain ⟨aC,aH,hm⟩:=Q6 hm
 refine Q1F 0 ((IntKind.wrap .i64 (Int.fdiv (IntKind.wrap .u64 (q + j)) (2 ^ (1)))).toNat) Z Z Z Zq Z Z Z Z (Q1G aG) aH Q7A Q4s (fun aZ b0 aV aR=>(Q22 Q74 1 Z (fun aI aJ _=>?_)))
 subst aJ
 refine Q21 1 0 Z Z Z Zq Z Z Z (cs:=V3 ..) Z Q4s tA_71 Z Z (wP Z ?_)
 obtain ⟨b1,aK,hm⟩:=Q6 hm
 refine Q1R [] [] Z Z Z Zq Z Z Z fn_47 Z Z (Qaq N aC.id aC.ty aI.1 aI.2 aC.args a1 _ aK) (asK [0] Z) Z (H':=[]) Z ?_
 rintro _ _ _ ⟨rfl,rfl,rfl⟩
 refine wP Z (Q3 (Q4 (Q2 [31,11,10,9,8,0,1,2] (S':=V8 ..) Z ?_)))
 refine Qj Z (fun a8=>?_) (fun a8=>?_)
 replace hm:=QA hm a8
 refine Q2 [11,10,8,0,1,2] (S':=V6 ..) Z (Q1 (wP Z (wP Z ?_)))
 obtain ⟨aL,hm⟩:=Qu hm
 refine QH (d:=33) (v':=.int .i64 ((IntKind.wrap .i64 (Int.fdiv (IntKind.wrap .u64 (q + j)) (2 ^ (1)))) + 1)) (S':=V7 ..) Z Z (i64_in aL) (wP Z (Q3 (Qh ?_)))
 have hE:=(Zi hm).symm
 replace hE:=QO hLu1 hE
 refine Q1a (_,j,(IntKind.wrap .i64 (Int.fdiv (IntKind.wrap .u64 (q + j)) (2 ^ (1)))) + 1) (Nat.lt_succ_self _) hE [10,9,8,0,1,2] Z (asK [3] Z) Z
 replace hm:=Qz hm a8
 refine Q2 [11,9,8,0,1,2] (S':=V6 ..) Z (Q1 (wP Z (wP Z (Q3 (Qh ?_)))))
 have hE:=(Zi hm).symm
 replace hE:=QO hLu1 hE
 refine Q1a (_,IntKind.wrap .i64 (Int.fdiv (IntKind.wrap .u64 (q + j)) (2 ^ (1))),q) (Nat.lt_succ_self _) hE [10,9,8,0,1,2] Z (asK [3] Z) Z
 replace hm:=Qz hm a7
 refine Q2 [9,8,0,1,2] (S':=V5 ..) Z (Q1x (Qk (Qk (QJ ?_))))
 have hE:=(Zi hm).symm
 replace hE:=Qv hLu1 hE
 refine Q9 q hE [9,8,0,1,2] Z (asK [0] Z) Z
 rintro s hE
 try dsimp only
 have hm:=hLj_1
 rw [hE] at hm
 refine Q5 (Q1 (wP Z (wP Z (wP Z (wP Z (wP Z ?_))))))
 refine Qt (d:=39) (S':=V9 ..) Z Z (fun a9=>?_) (fun a9=>?_)
 replace hm:=QA hm a9
 refine wP Z (wP Z (wP Z ?_))
 obtain ⟨aM,hm⟩:=Qu hm
 obtain ⟨aD,aN,hm⟩:=Q6 hm
 refine Q1F 0 s.toNat Z Z Z Zq Z Z Z Z (Q1G aM) aN Q7A Q4s (fun b2 b3 aW aS=>(Q22 Q74 1 Z (fun aO aP _=>?_)))
 subst aP
 refine Q21 1 0 Z Z Z Zq Z Z Z (cs:=V3 ..) Z Q4s tA_71 Z Z (wP Z ?_)
 obtain ⟨b4,aQ,hm⟩:=Q6 hm
 refine Q1R [] [] Z Z Z Zq Z Z Z fn_47 Z Z (Qaq N aD.id aD.ty aO.1 aO.2 aD.args a1 _ aQ) (asK [0] Z) Z (H':=[]) Z ?_
 rintro _ _ _ ⟨rfl,rfl,rfl⟩
 refine wP Z (wP Z (wP Z (wP Z (Q3 (Q4 (Q2 [7,6] (S':=[_,_]) Z (Qb ?_)))))))
 have hE:=(Zi hm).symm
 obtain ⟨hE0,hE1⟩:=Prod.mk.inj hE
 clear hE
 replace hE0:=hE0.symm
 subst hE0
 replace hE1:=hE1.symm
 subst hE1
 refine Q1r (Hr:=[]) [] Tryz.results46 (Qc Z) (Qc Z) ⟨Z,Z,Z⟩ (asK [] Z) Z Z (.inl Z)
 replace hm:=Qz hm a9
 refine wO Z (wO Z (wO Z (wO Z (wO Z (wO Z (wO Z (wO Z (wP Z (wP Z (wP Z (Q3 (Q4 (Q2 [7,6] (S':=[_,_]) Z ?_)))))))))))))
 refine Qb ?_
 have hE:=(Zi hm).symm
 obtain ⟨hE0,hE1⟩:=Prod.mk.inj hE
 clear hE
 replace hE0:=hE0.symm
 subst hE0
 replace hE1:=hE1.symm
 subst hE1
 refine Q1r (Hr:=[]) [] Tryz.results46 (Qc Z) (Qc Z) ⟨Z,Z,Z⟩ (asK [] Z) Z Z (.inl Z)
end Go.Proofs.YtbgodclhmgmcgaaGreatDoor
