import Derived.Test.YtgangmegcejllaaGreatDoorXW3
namespace Go.Proofs.YtgangmegcejllaaGreatDoor
open Go.RowKit
set_option maxRecDepth 100000
set_option maxHeartbeats 4000000
theorem Q5e (N:Nat) (aF:Nat) (a3:Addr) (a5:Nat) (a6:Nat) (l0:List Int) (a7:OA) (a8:Nat) (a9:Nat) (l1:List Q1) (aA:OA) (aB:Nat) (aC:Nat) (l2:List Q1) (a0:Nat) (e3:List (ByteArray × Bool)) (a4:Int) (a1:Addr) (aD:Nat) (a2:Nat) (l5:List Int) (o0:Bool) (hm:Q3q N l0 l1 l2 e3 a4 l5 = some o0):Q1R Tryz.prog 22 [.pointer (some ⟨aF,0,none⟩),.agg #[.int .i64 a4,.slice (some a1) aD a2]] [tF] [.blk aF [.slice (some a3) a5 a6,.slice a7 a8 a9,.slice aA aB aC,.map (some a0)] 66,.own 3 1 Qi (.slice (some a3) a5 a6) l0,.own 45 2 Q9 (.slice a7 a8 a9) l1,.own 45 2 Q9 (.slice aA aB aC) l2,Q2s (Q1g (QQ Q2t)) false QW a0 e3,.own 3 1 Qi (.slice (some a1) aD a2) l5] (fun v Φr Hr=>v = .bool o0 ∧ Φr = [] ∧ Hr = [.blk aF [.slice (some a3) a5 a6,.slice a7 a8 a9,.slice aA aB aC,.map (some a0)] 66,.own 3 1 Qi (.slice (some a3) a5 a6) l0,.own 45 2 Q9 (.slice a7 a8 a9) l1,.own 45 2 Q9 (.slice aA aB aC) l2,Q2s (Q1g (QQ Q2t)) false QW a0 e3,.own 3 1 Qi (.slice (some a1) aD a2) l5]):=by
 unfold Q3q at hm
 refine QZ Tryz.func22 Z Tryz.ntmps22 Z (S:=[_,_]) Z (fun C=>(Q6 (Q2 (wB Z (fun g3=>(wP Z (Q3 (Q4 (Q5 [3,0] (S':=[_,_]) Z (Q6 (Q2 (wP Z ?_))))))))))))
 obtain ⟨⟨aI,aJ,aS⟩,aQ,hm⟩:=Q7 hm
 try dsimp only at hm
 refine wC [1,2,3,4,5] [0,6] Z fn_11 Z (Q5c N aF a3 a5 a6 l0 a7 a8 a9 l1 aA aB aC l2 a0 e3 _ _ _ aQ) (asK [0] Z) Z (H':=[_,_]) Z ?_
 rintro _ _ _ ⟨aK,aL,aT,rfl,rfl,rfl⟩
 refine wP Z (wP Z (wP Z (Q25 Z Z Z Zq Z Q42 Z (fun g5=>(wS 0 0 Z Qe (all':=[_,_]) Z (H':=V9 ..) Z (wP Z (Q3 (Q4 (Q5 [6,5,3] (S':=V3 ..) Z (Q6 (Q2 (wP Z (wP Z ?_)))))))))))))
 refine Q5F (d:=13) (S':=V4 ..) Z Z (fun aE=>?_) (fun aE=>?_)
 replace hm:=Q1z hm aE
 refine Q1V 0 0 Z Z Z Zq Z Z Z (cs:=[_,_]) Z Qe QS Z Z (Q1V 7 0 Z Z Z Zq Z Z Z (cs:=[_,_]) Z Qe QS Z Z (QK 1 Z (fun aG _=>?_)))
 subst aG
 refine QK 8 Z (fun aH _=>?_)
 subst aH
 obtain ⟨aU,aM,hm⟩:=Q7 hm
 refine Q2k [] [0,1,2,3,4,5,6,7,8] [1,8] Z Z Z Zq Z Z fn_13 Z (Q5l N aI aK aL aJ a4 (some a1) a2 l5 _ aM) (fun F w hφ hh=>(Qh (Q1n (hh _ (Qu (k:=0) Z))) (Qh (Q1n (hh _ (Qu (k:=1) Z))) Qv))) (fun _ _ _ hR=>by obtain ⟨rfl,rfl,rfl⟩:=hR; exact ⟨Z,(fun _ h=>Q1O h)⟩) Z Z (H':=V9 ..) Z ?_
 rintro _ _ _ ⟨rfl,rfl,rfl⟩
 refine wP Z (wP Z (Q3 (Q4 (Q5 [4] (S':=[_]) Z (QP ?_)))))
 have hE:=(Zi hm).symm
 replace hE:=hE.symm
 subst hE
 refine QH (Hr:=V6 ..) [2,3,4,5,6,8] Tryz.results22 (QD Z) ⟨Z,Z,Z⟩ (asK [] Z) Z Z (.inl Z)
 replace hm:=Q1y hm aE
 refine wO Z (wO Z (wO Z (wP Z (wP Z (Q3 (Q4 (Q5 [4] (S':=[_]) Z (QP ?_))))))))
 have hE:=(Zi hm).symm
 replace hE:=hE.symm
 subst hE
 refine QH (Hr:=V6 ..) [2,3,4,5,6,8] Tryz.results22 (QD Z) ⟨Z,Z,Z⟩ (asK [] Z) Z Z (.inl Z)
theorem Q8z (N:Nat) (a0:Int) (aG:OA) (aH:Nat) (l1:List Int) (aI:Nat) (aB:Nat) (a8:Addr) (aC:Nat) (a9:Nat) (l2:List Int) (aD:OA) (aE:Nat) (aF:Nat) (l3:List Q1) (a3:OA) (a4:Nat) (a5:Nat) (l4:List Q1) (a7:Nat) (e5:List (ByteArray × Bool)) (aA:Nat) (a6:Int) (a1:OA) (a2:Nat) (l7:List Int) (o0:Bool) (hm:Q3d N a0 l1 l2 l3 l4 e5 a6 l7 = some o0):Q1R Tryz.prog 45 [.agg #[.int .i64 a0,.slice aG l1.length aH],.pointer (some ⟨aI,0,none⟩),.pointer (some ⟨aA,0,none⟩)] [.sli 1 Qi aG aH l1,.sli 1 Qi a1 a2 l7,tF] [.blk aI [.pointer (some ⟨aB,0,none⟩)] 30,.blk aB [.slice (some a8) aC a9,.slice aD aE aF,.slice a3 a4 a5,.map (some a7)] 66,.own 3 1 Qi (.slice (some a8) aC a9) l2,.own 45 2 Q9 (.slice aD aE aF) l3,.own 45 2 Q9 (.slice a3 a4 a5) l4,Q2s (Q1g (QQ Q2t)) false QW a7 e5,.blk aA [.int .i64 a6,.slice a1 l7.length a2] 45] (fun v Φr Hr=>v = .bool o0 ∧ Φr = [.sli 1 Qi a1 a2 l7] ∧ Hr = [.blk aI [.pointer (some ⟨aB,0,none⟩)] 30,.blk aB [.slice (some a8) aC a9,.slice aD aE aF,.slice a3 a4 a5,.map (some a7)] 66,.own 3 1 Qi (.slice (some a8) aC a9) l2,.own 45 2 Q9 (.slice aD aE aF) l3,.own 45 2 Q9 (.slice a3 a4 a5) l4,Q2s (Q1g (QQ Q2t)) false QW a7 e5,.blk aA [.int .i64 a6,.slice a1 l7.length a2] 45]):=by
 unfold Q3d at hm
 refine QZ Tryz.func45 Z Tryz.ntmps45 Z (S:=V3 ..) Z (fun C=>(Q6 (Q2 (wB Z (fun g3=>(wP Z (Q3 (Q4 (Q5 [3,1,2] (S':=V3 ..) Z (Q6 ?_))))))))))
 obtain ⟨aS,aL,hm⟩:=Q7 hm
 refine QV [0,1,2,3,4,5,7] Z Z (fun hok=>(Qq hok 0 1 0 Z Z Z Zq Z Z Z Z (cs:=[_]) Z Q6d Q6c Z Z (xP hok 1 Z (Ql hok 2 Z Z Z Zq Z Z Z Q6j (Qq hok 3 2 0 Z Z Z Zq Z Z Z Z (cs:=[_]) Z Q8d Q8c Z Z (Qq hok 4 7 0 Z Z Z Zq Z Z Z Z (cs:=[_,_]) Z Qe QS Z Z (Qq hok 5 0 0 Z Z Z Zq Z Z Z Z (cs:=[_,_]) Z Qe QS Z Z (xS hok 6 Z (QK 3 Z (fun aJ _=>?_))))))))))
 subst aJ
 refine Q2k [] [0,1,2,3,4,5,6,7] [3] Z Z Z Zq Z Z Q66 Z (Q5v N (some a8) a9 l2 a6 a1 a2 l7 a0 aG aH l1 _ aL) (fun F w hφ hh=>(Qh (Q1n (hh _ (Qu (k:=0) Z))) (Qh (hφ _ (Qu (k:=1) Z)) (Qh (hφ _ (Qu (k:=0) Z)) (Qh (hφ _ (Qu (k:=2) Z)) Qv))))) (fun _ _ _ hR=>by obtain ⟨rfl,rfl,rfl⟩:=hR; exact ⟨Z,(fun _ h=>Q1O h)⟩) Z Z (H':=V8 ..) Z ?_
 rintro _ _ _ ⟨rfl,rfl,rfl⟩
 refine Q3 (Qy [0,1,2] [1] Z Z (xP hok 7 Z (xS hok 8 Z (wP Z (Q3 (Qy [0,1,2] [] Z Z (QL hok Z (Q4 (Q5 [4] (S':=[_]) Z (QP ?_))))))))))
 have hE:=(Zi hm).symm
 replace hE:=hE.symm
 subst hE
 refine QH (Hr:=V7 ..) [1,2,3,4,5,6,7] Tryz.results45 (QD Z) ⟨Z,Z,Z⟩ (asK [1] Z) Z Z (.inl Z)
theorem Q8i (N:Nat) (a9:OA) (a6:Nat) (a7:Nat) (l0:List Q1) (aG:Nat) (aA:Nat) (aB:Addr) (aC:Nat) (aD:Nat) (l1:List Int) (aE:OA) (aF:Nat) (a1:Nat) (l2:List Q1) (a2:Nat) (e3:List (ByteArray × Bool)) (a8:Nat) (a4:Int) (a3:OA) (a5:Nat) (l5:List Int) (o0:Int) (hm:Q2S N l0 l1 l2 e3 a4 l5 = some o0):Q1R Tryz.prog 44 [.slice a9 a6 a7,.func (.func 45) #[] #[.pointer (some ⟨aG,0,none⟩),.pointer (some ⟨a8,0,none⟩)]] [.sli 1 Qi a3 a5 l5,tF] [.own 45 2 Q9 (.slice a9 a6 a7) l0,.blk aG [.pointer (some ⟨aA,0,none⟩)] 30,.blk aA [.slice (some aB) aC aD,.slice a9 a6 a7,.slice aE aF a1,.map (some a2)] 66,.own 3 1 Qi (.slice (some aB) aC aD) l1,.own 45 2 Q9 (.slice aE aF a1) l2,Q2s (Q1g (QQ Q2t)) false QW a2 e3,.blk a8 [.int .i64 a4,.slice a3 l5.length a5] 45] (fun v Φr Hr=>v = .int .i64 o0 ∧ Φr = [.sli 1 Qi a3 a5 l5] ∧ Hr = [.own 45 2 Q9 (.slice a9 a6 a7) l0,.blk aG [.pointer (some ⟨aA,0,none⟩)] 30,.blk aA [.slice (some aB) aC aD,.slice a9 a6 a7,.slice aE aF a1,.map (some a2)] 66,.own 3 1 Qi (.slice (some aB) aC aD) l1,.own 45 2 Q9 (.slice aE aF a1) l2,Q2s (Q1g (QQ Q2t)) false QW a2 e3,.blk a8 [.int .i64 a4,.slice a3 l5.length a5] 45]):=by
 unfold Q2S at hm
 refine QZ Tryz.func44 Z Tryz.ntmps44 Z (S:=[_,_]) Z (fun C=>(Q6 (Q2 (wP Z (Q3 (Q4 (Q5 [0,1] (S':=[_,_]) Z (Q6 ?_))))))))
 obtain ⟨aN,hm,hLj_1⟩:=Q35 hm
 refine Q18 (σ:=Unit) (fun _=>aN = .inl ()) (fun _=>[]) (fun _=>[.sli 1 Qi a3 a5 l5,tF]) (fun _=>[.own 45 2 Q9 (.slice a9 a6 a7) l0,.blk aG [.pointer (some ⟨aA,0,none⟩)] 30,.blk aA [.slice (some aB) aC aD,.slice a9 a6 a7,.slice aE aF a1,.map (some a2)] 66,.own 3 1 Qi (.slice (some aB) aC aD) l1,.own 45 2 Q9 (.slice aE aF a1) l2,Q2s (Q1g (QQ Q2t)) false QW a2 e3,.blk a8 [.int .i64 a4,.slice a3 l5.length a5] 45]) ?_ ?_
 refine Q6 (Q2 (wP Z (QK 0 Z (fun aV _=>(wN Z QB (Qz (d:=7) (v':=.int .i64 ((l0.length:Nat):Int)) (S':=V3 ..) Z Z (Q4A aV) (wP Z (Q3 (Q4 (Q5 [8,7,0,1] (S':=V4 ..) Z (Qm (Q1f (σ:=Nat × Nat) (fun (aH,a0)=>Q1o (Q1A N l0 l1 l2 e3 a4 l5) aH a0 = some aN) (fun (aH,a0)=>aH) (fun (aH,a0)=>[(8,.int .i64 ((a0:Nat):Int)),(7,.int .i64 ((l0.length:Nat):Int)),(0,.slice a9 a6 a7),(1,.func (.func 45) #[] #[.pointer (some ⟨aG,0,none⟩),.pointer (some ⟨a8,0,none⟩)])]) (fun (aH,a0)=>[.sli 1 Qi a3 a5 l5,tF]) (fun (aH,a0)=>[.own 45 2 Q9 (.slice a9 a6 a7) l0,.blk aG [.pointer (some ⟨aA,0,none⟩)] 30,.blk aA [.slice (some aB) aC aD,.slice a9 a6 a7,.slice aE aF a1,.map (some a2)] 66,.own 3 1 Qi (.slice (some aB) aC aD) l1,.own 45 2 Q9 (.slice aE aF a1) l2,Q2s (Q1g (QQ Q2t)) false QW a2 e3,.blk a8 [.int .i64 a4,.slice a3 l5.length a5] 45]) (N,0) hm [8,7,0,1] Z (asK [0,1] Z) Z (fun s_ hm=>?_)))))))))))))
 obtain ⟨aH,a0⟩:=s_
 try dsimp only at hm ⊢
 obtain ⟨aY,aZ,aR,hq,hLu1⟩:=Q1d hm
 clear hm
 subst aR
 replace hm:=hq
 clear hq
 unfold Q1A at hm
 try dsimp only at hm
 refine Q6 (Q2 (wP Z (Qz (d:=9) (v':=.bool (decide (a0 < l0.length))) (S':=V4 ..) Z Z (Q3f (a:=a0) (b:=l0.length)) (Q3 (Q4 (Q6 ?_))))))
 refine QA Z (fun aQ=>?_) (fun aQ=>?_)
 replace hm:=Q1z hm aQ
 refine Q5 [8,7,0,1] (S':=V4 ..) Z (Qs (Q4 (Q6 (Qm (Q6 (Q2 (wP Z (wP Z (Q3 (Q4 (Q5 [5,8,7,0,1] (S':=V5 ..) Z (Q6 (Q2 ?_)))))))))))))
 refine wP Z (wP Z (wP Z ?_))
 obtain ⟨aM,aO,hm⟩:=Q7 hm
 refine Q2E 0 a0 Z Z Z Zq Z Z Z Z Z (Qw aO) QB Qe (fun aW aS=>?_)
 subst aS
 refine Qk Qa 0 a0 0 Z Z Z Zq Z Z Z aO Qe QS (v:=fun aK=>.agg #[.int .i64 (aM.rule),.slice aK.1 aM.ids.length aK.2]) (fun _=>Z) (fun _=>Z) (fun aK _=>?_)
 obtain ⟨b0,aT,hm⟩:=Q7 hm
 refine wl_callDyn [1,2,3,0,4,5,6] [] Z Z Z Zq Z Z Z fn_45 Z Z (Q8z N aM.rule aK.1 aK.2 aM.ids aG aA aB aC aD l1 (some ⟨aW,0,none⟩) a6 a7 l0 aE aF a1 l2 a2 e3 a8 a4 a3 a5 l5 _ aT) (asK [0,1,2] Z) Z (H':=[]) Z ?_
 rintro _ _ _ ⟨rfl,rfl,rfl⟩
 refine Q3 (Q4 (Q5 [16,5,8,7,0,1] (S':=V6 ..) Z ?_))
 refine QA Z (fun aL=>?_) (fun aL=>?_)
 replace hm:=Q1z hm aL
 refine Q5 [5] (S':=[_]) Z (Q6 (Q2 (wP Z (wP Z (Q3 (Q4 (Q5 [4] (S':=[_]) Z (QP (Q11 (Qn (Qn (Q11 (Qn ?_)))))))))))))
 have hE:=(Zi hm).symm
 replace hE:=QO hLu1 hE
 replace hE:=QO hLj_1 hE
 replace hE:=hE.symm
 subst hE
 refine QH (Hr:=V7 ..) [3,0,1,2,4,5,6] Tryz.results44 (QD Z) ⟨Z,Z,Z⟩ (asK [0] Z) Z Z (.inl Z)
 replace hm:=Q1y hm aL
 refine Q5 [8,7,0,1] (S':=V4 ..) Z (Qs (Qj (Q4 (Q2 (wP Z ?_)))))
 obtain ⟨aU,hm⟩:=Qd hm
 refine Qz (d:=18) (v':=.int .i64 ((a0 + 1:Nat):Int)) (S':=V4 ..) Z Z (Q1i (a:=a0) (b:=1) aU) (QI (S':=V4 ..) Z Z Z Z Z (Q3 ?_))
 have hE:=(Zi hm).symm
 replace hE:=Q14 hLu1 hE
 refine Q1m [3,0,1,2,4,5,6] Z (H':=V7 ..) Z ?_
 refine Q1a (_,a0 + 1) (Nat.lt_succ_self _) hE [8,7,0,1] Z (asK [0,3] Z) Z
 replace hm:=Q1y hm aQ
 refine Q5 [] (S':=[]) Z (Q19 (Qc (Qc (Qt ?_))))
 have hE:=(Zi hm).symm
 replace hE:=QO hLu1 hE
 refine Qp () hE [] Z (asK [0,1] Z) Z
 rintro _ hE
 try dsimp only
 have hm:=Q14 hLj_1 hE
 try dsimp only at hm
 refine Q6 (Q2 (wP Z (Q3 (Q4 (QP ?_)))))
 have hE:=(Zi hm).symm
 replace hE:=hE.symm
 subst hE
 refine QH (Hr:=V7 ..) [0,1,2,3,4,5,6] Tryz.results44 (QD Z) ⟨Z,Z,Z⟩ (asK [0] Z) Z Z (.inl Z)
theorem Delete46_n (p:OA) (c k:Nat) (L:List Q1) (hk:k < L.length):Q1R Tryz.prog 46 [.slice p L.length c,.int .i64 ((k:Nat):Int),.int .i64 ((k + 1:Nat):Int)] [] [.own 45 2 Q9 (.slice p L.length c) L] (fun v Φr Hr=>∃ p' c',v = .slice p' (L.take k ++ L.drop (k + 1)).length c' ∧ Φr = [] ∧ Hr = [.own 45 2 Q9 v (L.take k ++ L.drop (k + 1))]):=by
 refine QZ Tryz.func46 Z Tryz.ntmps46 Z (S:=V3 ..) Z (fun C=>(wc_ownSome 0 Z (by omega) (fun g0 e0 a6 a7=>?_)))
 subst e0
 refine Q6 (Q2 (wP Z (Q3 (Q4 (Q6 (Q2 (wP Z (wP Z (wP Z (wP Z (wN Z QB (wl_slice3 Z Z Z Zq Z Z Z Z Z Z Z Z QB Qe (by omega) (by omega) (by omega) (fun a8=>(Q3 ?_))))))))))))))
 refine Q4 (Q5 [6,0,1,2] (S':=V4 ..) Z (Q6 (Q6 (Q2 (wP Z (wP Z (wP Z (Q3 (Q4 (Q5 [16,6,0,1,2] (S':=V5 ..) Z ?_))))))))))
 refine QA Z (fun a2=>?_) (fun a2=>?_)
 replace a2:=eq_of_beq a2
 exfalso
 omega
 replace a2:=ne_of_beq_false a2
 refine Qs (Q4 (Q6 (Q2 (wP Z (wN Z QB (wP Z (Q3 (Q4 (Q5 [7,16,6,0,1,2] (S':=V6 ..) Z (Q6 ?_))))))))))
 refine Q18 (σ:=Addr) (fun a0=>k + 1 < c → a0 = ⟨g0,(k + 1) * 2,none⟩) (fun a0=>[(0,.slice (some ⟨g0,0,none⟩) ((L.take k ++ L.drop (k + 1)).length) c),(7,.int .i64 ((L.length:Nat):Int)),(16,.bool (((k:Nat):Int) == ((k + 1:Nat):Int))),(6,V1),(1,.int .i64 ((k:Nat):Int)),(2,.int .i64 ((k + 1:Nat):Int))]) (fun a0=>[]) (fun a0=>[.own 45 2 Q9 (.slice (some ⟨g0,0,none⟩) ((L.take k ++ L.drop (k + 1)).length) c) (L.take k ++ L.drop (k + 1))]) ?_ ?_
 ·
  refine QV [0,1,3,4] Z Z (fun hok=>(xP hok 0 Z (xP hok 1 Z (xP hok 3 Z (xP hok 4 Z ?_)))))
  refine Q1W hok 2 5 Z Z Z Z Z Z ?_ ?_
  rotate_left
  focus
   refine wl_sliceFrom Z Z Z Zq Z Z Z Z QB Qe (by omega) (by omega) (fun a0 a1=>(Q3 (Qy [] [] Z Z (xS hok 2 Z (Q7D Z Z Z Zq Z Z Z Z QB Qe (by omega) (fun _ h=>by cases h; rfl) ?_)))))
  rotate_right
  focus
   refine Q7D Z Z Z Zq Z Z Z Z QB Qe (by omega) (fun _ h=>by cases h; rfl) (Q3 (Qy [] [] Z Z (xS hok 5 Z (wl_sliceFrom Z Z Z Zq Z Z Z Z QB Qe (by omega) (by omega) (fun a0 a1=>?_)))))
  all_goals
   refine Q3 (Qy [] [] Z Z (xS hok 6 Z (wl_appendSelf 0 k (k + 1) Z Z Z Zq Z Z Z Z (by omega) (by omega) (fun h=>a1 (by omega)) QB Q7P (H2:=[.own 45 2 Q9 (.slice (some ⟨g0,0,none⟩) ((L.take k ++ L.drop (k + 1)).length) c) (L.take k ++ L.drop (k + 1))]) Z (fun _=>(Q3 (Qy [] [] Z Z (xS hok 7 Z (QI (S':=V12 ..) Z Z Z Z Z (Q3 (Qy [] [] Z Z (QL hok Z ?_)))))))))))
   refine Qp (a0) a1 [0,7,16,6,1,2] Z (asK [] Z) Z
 rintro a0 a1
 try dsimp only
 refine Q6 (Q2 (wP Z (wP Z (wN Z QB (wP Z (wl_sliceMid Z Z Z Zq Z Z Z Z Z Z QB Qe (by simp; omega) (by omega) (fun a9 a4=>(wl_clearTail 0 Z Z Z Z Z (fun h=>a4 (by simp at h ⊢; omega)) (by simp; omega) QB Q42 Z Z Z (Q3 (Q4 (Q5 [0,7,16,6,1,2] (S':=V6 ..) Z (Q6 (Q2 (wP Z ?_))))))))))))))
 refine QI (S':=V6 ..) Z Z Z Z Z (Q3 (Q4 (Q5 [6,0,7,16,1,2] (S':=V6 ..) Z (QP (QH (Hr:=[.own 45 2 Q9 (.slice (some ⟨g0,0,none⟩) ((L.take k ++ L.drop (k + 1)).length) c) (L.take k ++ L.drop (k + 1))]) [0] Tryz.results46 (QD Z) ?_ (asK [] Z) Z Z (.inl Z))))))
 exact ⟨_,_,Z,Z,Z⟩
theorem Delete46_s (p:OA) (c:Nat) (i:Int) (L:List Q1) (h0 : 0 ≤ i) (hk:i.toNat < L.length):Q1R Tryz.prog 46 [.slice p L.length c,.int .i64 i,.int .i64 (i + 1)] [] [.own 45 2 Q9 (.slice p L.length c) L] (fun v Φr Hr=>∃ p' c',v = .slice p' (L.take i.toNat ++ L.drop (i.toNat + 1)).length c' ∧ Φr = [] ∧ Hr = [.own 45 2 Q9 v (L.take i.toNat ++ L.drop (i.toNat + 1))]):=by
 obtain ⟨k,rfl⟩:=Int.eq_ofNat_of_zero_le h0
 have e1:((k:Int) + 1) = ((k + 1:Nat):Int):=by omega
 rw [e1]
 exact Delete46_n p c k L hk

theorem Q9I (N:Nat) (a9:Nat) (a5:Addr) (a6:Nat) (a7:Nat) (l0:List Int) (aG:OA) (aO:Nat) (aH:Nat) (l1:List Q1) (aA:OA) (aB:Nat) (aC:Nat) (l2:List Q1) (a0:Nat) (e3:List (ByteArray × Bool)) (a4:Int) (a2:OA) (a3:Nat) (l5:List Int) (o0:Nat) (o1:List Int) (o4:List Q1) (o8:List Q1) (aV:List (ByteArray × Bool)) (hm:Q1L N l0 l1 l2 e3 a4 l5 = some (o0,o1,o4,o8,aV)):Q1R Tryz.prog 23 [.pointer (some ⟨a9,0,none⟩),.agg #[.int .i64 a4,.slice a2 l5.length a3]] [.sli 1 Qi a2 a3 l5,tF] [.blk a9 [.slice (some a5) a6 a7,.slice aG aO aH,.slice aA aB aC,.map (some a0)] 66,.own 3 1 Qi (.slice (some a5) a6 a7) l0,.own 45 2 Q9 (.slice aG aO aH) l1,.own 45 2 Q9 (.slice aA aB aC) l2,Q2s (Q1g (QQ Q2t)) false QW a0 e3] (fun v Φr Hr=>∃ (o2:OA) (o3:Nat) (o5:Nat) (o6:OA) (o7:Nat) (o9:Nat),v = .int .i64 ((o0:Nat):Int) ∧ Φr = [] ∧ Hr = [.blk a9 [.slice (some a5) a6 a7,.slice o2 o5 o3,.slice o6 o9 o7,.map (some a0)] 66,.own 3 1 Qi (.slice (some a5) a6 a7) o1,.own 45 2 Q9 (.slice o2 o5 o3) o4,.own 45 2 Q9 (.slice o6 o9 o7) o8,Q2s (Q1g (QQ Q2t)) false QW a0 aV]):=by
 unfold Q1L at hm
 refine QZ Tryz.func23 Z Tryz.ntmps23 Z (S:=[_,_]) Z (fun C=>(Q6 (Q2 (wB Z (fun g2=>(wB Z (fun g3=>(wP Z (Q3 (Q4 (Q5 [3,2] (S':=[_,_]) Z (Q6 (Q6 (Q2 (wD 1 0 Z Q6d Q6c Z ?_)))))))))))))))
 obtain ⟨_,b3,hm⟩:=Q7 hm
 try dsimp only at hm
 refine wC [2,3,4,5,6] [0,1] Z fn_32 Z (Q3B N a9 a5 a6 a7 l0 aG aO aH l1 aA aB aC l2 a0 e3 b3) (asK [1] Z) Z (H':=[_,_]) Z ?_
 rintro _ _ _ ⟨rfl,rfl,rfl⟩
 refine wP Z (Q3 (Q4 (Q5 [8,3,2] (S':=V3 ..) Z (Q4q Z (Q5 [3,2] (S':=[_,_]) Z (Qs (Q4 (Q6 (Q2 (wD 6 0 Z Q6d Q6c Z (wP Z (wF Z Q5W (wD 0 1 Z Q1X Q3D Z ?_)))))))))))))
 refine Qa8 Z Z Z Zq Z Z (QK 2 Z (fun aP _=>?_))
 subst aP
 obtain ⟨a1,aW,hm⟩:=Q7 hm
 refine wC [2,6,0,1,3,4,5] [] Z fn_44 Z (Q8i N aG l1.length aH l1 g2 a9 a5 a6 a7 l0 aA aB aC l2 a0 e3 g3 a4 a2 a3 l5 _ aW) (asK [0,1] Z) Z (H':=[]) Z ?_
 rintro _ _ _ ⟨rfl,rfl,rfl⟩
 refine wP Z (Q3 (Q4 (Q5 [5,3,2] (S':=V3 ..) Z (Q6 (Q6 (Q2 (wP Z (wP Z (Q3 (Q4 (Q5 [16,5,3,2] (S':=V4 ..) Z ?_)))))))))))
 refine QA Z (fun aI=>?_) (fun aI=>?_)
 replace hm:=Q1z hm aI
 refine Q5 [] (S':=[]) Z (Q6 (Q2 (wP Z (Q3 (Q4 (QP (Qn ?_)))))))
 have hE:=(Zi hm).symm
 obtain ⟨hE0,hF1⟩:=Prod.mk.inj hE
 obtain ⟨hE1,hF2⟩:=Prod.mk.inj hF1
 obtain ⟨hE2,hF3⟩:=Prod.mk.inj hF2
 obtain ⟨hE3,hE4⟩:=Prod.mk.inj hF3
 clear hE hF1 hF2 hF3
 replace hE0:=hE0.symm
 subst hE0
 replace hE1:=hE1.symm
 subst hE1
 replace hE2:=hE2.symm
 subst hE2
 replace hE3:=hE3.symm
 subst hE3
 replace hE4:=hE4.symm
 subst hE4
 refine QH (Hr:=V5 ..) [2,3,0,4,5] Tryz.results23 (QD Z) ⟨aG,aH,l1.length,aA,aC,aB,Z,Z,Z⟩ (asK [] Z) Z Z (.inl Z)
 replace hm:=Q1y hm aI
 refine Q5 [5,3,2] (S':=V3 ..) Z (Qs (Q4 (Q6 ?_)))
 obtain ⟨aX,hm⟩:=Qd hm
 obtain ⟨aY,hm⟩:=Qd hm
 obtain ⟨aQ,hm⟩:=Qd hm
 refine QV [0,1,2,3,4,5,6,7,9,10] Z Z (fun hok=>(Qq hok 0 1 0 Z Z Z Zq Z Z Z Z (cs:=[_]) Z Q6d Q6c Z Z (Qq hok 1 1 0 Z Z Z Zq Z Z Z Z (cs:=[_]) Z Q6d Q6c Z Z (xP hok 2 Z (Ql hok 3 Z Z Z Zq Z Z Z Q5W (Qq hok 4 2 1 Z Z Z Zq Z Z Z Z (cs:=[_]) Z Q1X Q3D Z Z (xP hok 5 Z (xP hok 6 Z (xP hok 7 Z (Q1e (d:=24) (v':=.int .i64 (a1 + 1)) (S':=V10 ..) Z Z (i64_in aX) (xS hok 8 Z (wC [0] [1,2,3,4,5,6] Z fn_46 Z (Delete46_s aG aH a1 l1 aY aQ) (asK [] Z) Z (H':=V6 ..) Z ?_))))))))))))
 rintro _ _ _ ⟨aR,aS,rfl,rfl,rfl⟩
 refine Q3 (Qy [0,0,2] [1,1] Z Z (xP hok 9 Z (Ql hok 10 Z Z Z Zq Z Z Z Q5W (xS hok 11 Z (wS 2 1 Z Q1X (all':=V4 ..) Z (H':=V7 ..) Z (Q3 (Qy [0,0,2] [] Z Z (QL hok Z (Q4 (Q5 [3,2] (S':=[_,_]) Z (Q6 ?_)))))))))))
 obtain ⟨aZ,b0,hm⟩:=Q7 hm
 refine QV [0,1,2,3,4] Z Z (fun hok=>(Qq hok 0 1 0 Z Z Z Zq Z Z Z Z (cs:=[_]) Z Q6d Q6c Z Z (xP hok 1 Z (Ql hok 2 Z Z Z Zq Z Z Z Q9H (Qq hok 3 2 3 Z Z Z Zq Z Z Z Z (cs:=[_]) Z tS_64 tA_64 Z Z (Qq hok 4 6 0 Z Z Z Zq Z Z Z Z (cs:=[_,_]) Z Qe QS Z Z (xS hok 5 Z (wC [] [0,1,2,3,4,5,6] Z fn_42 Z (Q3U N a4 a2 a3 l5 _ b0) (asK [0,2] Z) Z (H':=V7 ..) Z ?_))))))))
 rintro _ _ _ ⟨rfl,rfl,rfl⟩
 refine Q3 (Qy [0,0,2] [2,1] Z Z (xS hok 6 Z (Q7C (i:=aZ) (u:=true) (cs:=[.bool true]) ltB 5 Z Z (.inl Z) Z Z Z Z Q8I trivial Z (fun F w hφ=>⟨(),Z,Qv⟩) (H':=[.own 45 2 Q9 (.slice aR ((l1.take a1.toNat ++ l1.drop (a1.toNat + 1)).length) aS) (l1.take a1.toNat ++ l1.drop (a1.toNat + 1)),.blk g2 [.pointer (some ⟨a9,0,none⟩)] 30,.blk a9 [.slice (some a5) a6 a7,.slice aR ((l1.take a1.toNat ++ l1.drop (a1.toNat + 1)).length) aS,.slice aA aB aC,.map (some a0)] 66,.own 3 1 Qi (.slice (some a5) a6 a7) l0,.own 45 2 Q9 (.slice aA aB aC) l2,Q2s (Q1g (QQ Q2t)) false QW a0 (Q61 ltB aZ true e3),.blk g3 [.int .i64 a4,.slice a2 l5.length a3] 45]) Z (Q3 (Qy [0,0,2] [] Z Z (QL hok Z (Q4 (Q5 [3,2] (S':=[_,_]) Z (Q6 ?_)))))))))
 obtain ⟨_,b1,hm⟩:=Q7 hm
 try dsimp only at hm
 obtain ⟨aN,hm⟩:=Qd hm
 refine QV [0,1,2,3,4,5,9,10] Z Z (fun hok=>(Qq hok 0 1 0 Z Z Z Zq Z Z Z Z (cs:=[_]) Z Q6d Q6c Z Z (Qq hok 1 1 0 Z Z Z Zq Z Z Z Z (cs:=[_]) Z Q6d Q6c Z Z (xP hok 2 Z (Ql hok 3 Z Z Z Zq Z Z Z Q6b (Qq hok 4 2 2 Z Z Z Zq Z Z Z Z (cs:=[_]) Z Q1X Q3D Z Z (Qq hok 5 6 0 Z Z Z Zq Z Z Z Z (cs:=[_,_]) Z Qe QS Z Z (xS hok 6 Z (wC [] [0,1,2,3,4,5,6] Z fn_33 Z (Q5d N a4 a2 a3 l5 b1) (asK [0,2] Z) Z (H':=V7 ..) Z ?_)))))))))
 rintro _ _ _ ⟨aD,aE,rfl,rfl,rfl⟩
 refine Q3 (Qy [0,0,2] [3,2,2] Z Z (xS hok 7 Z (QE Z Z Z Zq Z QB Qe Q42 Z (zs:=[.int .i64 0,V1]) (by kernel_rfl) Z (out:=[_,_]) Z (fun bI=>(Q3 (Qy [0,0,2] [8,4,3,3] Z Z (xS hok 8 Z (Q6B 1 Z (H':=V8 ..) Z (Q4Q (.sli 1 Qi aD aE l5) (fun F w hφ=>Q1n (hφ _ (Qu (k:=0) Z))) (Q2w ([(⟨a4,l5⟩ : Q1)]) 5 0 Z Z Z Zq Z Z Z Z Z (fun F w hφ=>⟨[.int .i64 a4,.slice aD l5.length aE],[],Z,Z,⟨(aD,aE),Z,(Qh (hφ _ (Qu (k:=0) Z)) Qv)⟩,Z⟩) QB Q7P Z Z (Nat.le_trans aN (by decide)) (Nat.le_trans (Nat.mul_le_mul_right _ aN) (by decide)) (H2:=fun aJ aK=>[_,_,_,_,_,.own 45 2 Q9 (.slice aJ ((l2 ++ ([(⟨a4,l5⟩ : Q1)])).length) aK) (l2 ++ ([(⟨a4,l5⟩ : Q1)])),_,_]) (fun _ _=>Z) (fun aJ aK=>(Q3E 0 Z (H':=V7 ..) Z (Q3 (Qy [2,2,4] [6,1,1] Z Z (xP hok 9 Z ?_)))))))))))))))
 refine Ql hok 10 Z Z Z Zq Z Z Z Q6b (xS hok 11 Z (wS 2 2 Z Q1X (all':=V4 ..) Z (H':=V7 ..) Z (Q3 (Qy [0,1,2,2,4] [] Z Z (QL hok Z (Q4 (Q5 [2] (S':=[_]) Z (Q6 ?_))))))))
 obtain ⟨⟨aT,b4⟩,b2,hm⟩:=Q7 hm
 try dsimp only at hm
 obtain ⟨aL,hm⟩:=Qd hm
 refine QV [0,1,2,3,4,5,6,7] Z Z (fun hok=>(Qq hok 0 1 0 Z Z Z Zq Z Z Z Z (cs:=[_]) Z Q6d Q6c Z Z (xP hok 1 Z (Ql hok 2 Z Z Z Zq Z Z Z Q6b (Qq hok 3 2 2 Z Z Z Zq Z Z Z Z (cs:=[_]) Z Q1X Q3D Z Z (Qq hok 4 1 0 Z Z Z Zq Z Z Z Z (cs:=[_]) Z Q6d Q6c Z Z (xP hok 5 Z (Ql hok 6 Z Z Z Zq Z Z Z Q6j (Qq hok 7 2 0 Z Z Z Zq Z Z Z Z (cs:=[_]) Z Q8d Q8c Z Z (xS hok 8 Z (Q6M Z Z Z Zq Z Z Z (Q3 (Qy [0,1,2,2,4] [1,2,1] Z Z (xS hok 9 Z ?_))))))))))))))
 refine wC [4,3] [0,1,2,5,6] Z fn_43 Z (Q2J N aJ ((l2 ++ ([(⟨a4,l5⟩ : Q1)])).length) aK (l2 ++ ([(⟨a4,l5⟩ : Q1)])) a5 a6 a7 l0 _ _ b2) (asK [4] Z) Z (H':=V5 ..) Z ?_
 rintro _ _ _ ⟨b5,rfl,rfl,rfl⟩
 refine QK 0 Z (fun aM _=>?_)
 subst aM
 refine Q28 0 (φ':=.own 45 2 Q9 (.slice aJ ((l2 ++ ([(⟨a4,l5⟩ : Q1)])).length) aK) aT) Z (by rw [aL]) (H':=V7 ..) Z (Q3 (Qy [0,1,2,2,4] [4,3,3] Z Z (QL hok Z (Q4 (Q5 [] (S':=[]) Z (Q6 (Q2 (wP Z (Q3 (Q4 (QP ?_)))))))))))
 have hE:=(Zi hm).symm
 obtain ⟨hE0,hF1⟩:=Prod.mk.inj hE
 obtain ⟨hE1,hF2⟩:=Prod.mk.inj hF1
 obtain ⟨hE2,hF3⟩:=Prod.mk.inj hF2
 obtain ⟨hE3,hE4⟩:=Prod.mk.inj hF3
 clear hE hF1 hF2 hF3
 replace hE0:=hE0.symm
 subst hE0
 replace hE1:=hE1.symm
 subst hE1
 replace hE2:=hE2.symm
 subst hE2
 replace hE3:=hE3.symm
 subst hE3
 replace hE4:=hE4.symm
 subst hE4
 refine QH (Hr:=V5 ..) [4,1,2,0,5] Tryz.results23 (QD Z) ⟨aR,aS,(l1.take a1.toNat ++ l1.drop (a1.toNat + 1)).length,aJ,aK,(l2 ++ ([(⟨a4,l5⟩ : Q1)])).length,Z,Z,Z⟩ (asK [] Z) Z Z (.inl Z)
theorem Q8A (N:Nat) (a0:Int) (aI:OA) (aJ:Nat) (l1:List Int) (aK:Nat) (aC:Nat) (a9:Addr) (aD:Nat) (aA:Nat) (l2:List Int) (aE:OA) (aF:Nat) (aG:Nat) (l3:List Q1) (a3:OA) (a4:Nat) (a5:Nat) (l4:List Q1) (a7:Nat) (e5:List (ByteArray × Bool)) (aB:Nat) (a6:Int) (a1:Addr) (a8:Nat) (a2:Nat) (l7:List Int) (o0:Bool) (hm:Q3d N a0 l1 l2 l3 l4 e5 a6 l7 = some o0):Q1R Tryz.prog 45 [.agg #[.int .i64 a0,.slice aI l1.length aJ],.pointer (some ⟨aK,0,none⟩),.pointer (some ⟨aB,0,none⟩)] [.sli 1 Qi aI aJ l1,tF] [.blk aK [.pointer (some ⟨aC,0,none⟩)] 30,.blk aC [.slice (some a9) aD aA,.slice aE aF aG,.slice a3 a4 a5,.map (some a7)] 66,.own 3 1 Qi (.slice (some a9) aD aA) l2,.own 45 2 Q9 (.slice aE aF aG) l3,.own 45 2 Q9 (.slice a3 a4 a5) l4,Q2s (Q1g (QQ Q2t)) false QW a7 e5,.blk aB [.int .i64 a6,.slice (some a1) a8 a2] 45,.own 3 1 Qi (.slice (some a1) a8 a2) l7] (fun v Φr Hr=>v = .bool o0 ∧ Φr = [] ∧ Hr = [.blk aK [.pointer (some ⟨aC,0,none⟩)] 30,.blk aC [.slice (some a9) aD aA,.slice aE aF aG,.slice a3 a4 a5,.map (some a7)] 66,.own 3 1 Qi (.slice (some a9) aD aA) l2,.own 45 2 Q9 (.slice aE aF aG) l3,.own 45 2 Q9 (.slice a3 a4 a5) l4,Q2s (Q1g (QQ Q2t)) false QW a7 e5,.blk aB [.int .i64 a6,.slice (some a1) a8 a2] 45,.own 3 1 Qi (.slice (some a1) a8 a2) l7]):=by
 unfold Q3d at hm
 refine QZ Tryz.func45 Z Tryz.ntmps45 Z (S:=V3 ..) Z (fun C=>(Q6 (Q2 (wB Z (fun g3=>(wP Z (Q3 (Q4 (Q5 [3,1,2] (S':=V3 ..) Z (Q6 ?_))))))))))
 obtain ⟨aU,aM,hm⟩:=Q7 hm
 refine QV [0,1,2,3,4,5,7] Z Z (fun hok=>(Qq hok 0 1 0 Z Z Z Zq Z Z Z Z (cs:=[_]) Z Q6d Q6c Z Z (xP hok 1 Z (Ql hok 2 Z Z Z Zq Z Z Z Q6j (Qq hok 3 2 0 Z Z Z Zq Z Z Z Z (cs:=[_]) Z Q8d Q8c Z Z (Qq hok 4 7 0 Z Z Z Zq Z Z Z Z (cs:=[_,_]) Z Qe QS Z Z (Qq hok 5 0 0 Z Z Z Zq Z Z Z Z (cs:=[_,_]) Z Qe QS Z Z (xS hok 6 Z (QK 3 Z (fun aL _=>?_))))))))))
 subst aL
 refine QK 8 Z (fun aH _=>?_)
 subst aH
 refine Q2k [] [0,1,2,3,4,5,6,7,8] [3,8] Z Z Z Zq Z Z Q66 Z (Q5v N (some a9) aA l2 a6 (some a1) a2 l7 a0 aI aJ l1 _ aM) (fun F w hφ hh=>(Qh (Q1n (hh _ (Qu (k:=0) Z))) (Qh (Q1n (hh _ (Qu (k:=1) Z))) (Qh (hφ _ (Qu (k:=0) Z)) (Qh (hφ _ (Qu (k:=1) Z)) Qv))))) (fun _ _ _ hR=>by obtain ⟨rfl,rfl,rfl⟩:=hR; exact ⟨Z,(fun _ h=>Q1O h)⟩) Z Z (H':=V9 ..) Z ?_
 rintro _ _ _ ⟨rfl,rfl,rfl⟩
 refine Q3 (Qy [0,1] [1] Z Z (xP hok 7 Z (xS hok 8 Z (wP Z (Q3 (Qy [0,1] [] Z Z (QL hok Z (Q4 (Q5 [4] (S':=[_]) Z (QP ?_))))))))))
 have hE:=(Zi hm).symm
 replace hE:=hE.symm
 subst hE
 refine QH (Hr:=V8 ..) [1,2,3,4,5,6,7,8] Tryz.results45 (QD Z) ⟨Z,Z,Z⟩ (asK [] Z) Z Z (.inl Z)
theorem Q8j (N:Nat) (aA:OA) (a7:Nat) (a8:Nat) (l0:List Q1) (aH:Nat) (aB:Nat) (aC:Addr) (aD:Nat) (aE:Nat) (l1:List Int) (aF:OA) (aG:Nat) (a1:Nat) (l2:List Q1) (a2:Nat) (e3:List (ByteArray × Bool)) (a9:Nat) (a4:Int) (a3:Addr) (a5:Nat) (a6:Nat) (l5:List Int) (o0:Int) (hm:Q2S N l0 l1 l2 e3 a4 l5 = some o0):Q1R Tryz.prog 44 [.slice aA a7 a8,.func (.func 45) #[] #[.pointer (some ⟨aH,0,none⟩),.pointer (some ⟨a9,0,none⟩)]] [tF] [.own 45 2 Q9 (.slice aA a7 a8) l0,.blk aH [.pointer (some ⟨aB,0,none⟩)] 30,.blk aB [.slice (some aC) aD aE,.slice aA a7 a8,.slice aF aG a1,.map (some a2)] 66,.own 3 1 Qi (.slice (some aC) aD aE) l1,.own 45 2 Q9 (.slice aF aG a1) l2,Q2s (Q1g (QQ Q2t)) false QW a2 e3,.blk a9 [.int .i64 a4,.slice (some a3) a5 a6] 45,.own 3 1 Qi (.slice (some a3) a5 a6) l5] (fun v Φr Hr=>v = .int .i64 o0 ∧ Φr = [] ∧ Hr = [.own 45 2 Q9 (.slice aA a7 a8) l0,.blk aH [.pointer (some ⟨aB,0,none⟩)] 30,.blk aB [.slice (some aC) aD aE,.slice aA a7 a8,.slice aF aG a1,.map (some a2)] 66,.own 3 1 Qi (.slice (some aC) aD aE) l1,.own 45 2 Q9 (.slice aF aG a1) l2,Q2s (Q1g (QQ Q2t)) false QW a2 e3,.blk a9 [.int .i64 a4,.slice (some a3) a5 a6] 45,.own 3 1 Qi (.slice (some a3) a5 a6) l5]):=by
 unfold Q2S at hm
 refine QZ Tryz.func44 Z Tryz.ntmps44 Z (S:=[_,_]) Z (fun C=>(Q6 (Q2 (wP Z (Q3 (Q4 (Q5 [0,1] (S':=[_,_]) Z (Q6 ?_))))))))
 obtain ⟨aN,hm,hLj_1⟩:=Q35 hm
 refine Q18 (σ:=Unit) (fun _=>aN = .inl ()) (fun _=>[]) (fun _=>[tF]) (fun _=>[.own 45 2 Q9 (.slice aA a7 a8) l0,.blk aH [.pointer (some ⟨aB,0,none⟩)] 30,.blk aB [.slice (some aC) aD aE,.slice aA a7 a8,.slice aF aG a1,.map (some a2)] 66,.own 3 1 Qi (.slice (some aC) aD aE) l1,.own 45 2 Q9 (.slice aF aG a1) l2,Q2s (Q1g (QQ Q2t)) false QW a2 e3,.blk a9 [.int .i64 a4,.slice (some a3) a5 a6] 45,.own 3 1 Qi (.slice (some a3) a5 a6) l5]) ?_ ?_
 refine Q6 (Q2 (wP Z (QK 0 Z (fun aW _=>(wN Z QB (Qz (d:=7) (v':=.int .i64 ((l0.length:Nat):Int)) (S':=V3 ..) Z Z (Q4A aW) (wP Z (Q3 (Q4 (Q5 [8,7,0,1] (S':=V4 ..) Z (Qm (Q1f (σ:=Nat × Nat) (fun (aI,a0)=>Q1o (Q1A N l0 l1 l2 e3 a4 l5) aI a0 = some aN) (fun (aI,a0)=>aI) (fun (aI,a0)=>[(8,.int .i64 ((a0:Nat):Int)),(7,.int .i64 ((l0.length:Nat):Int)),(0,.slice aA a7 a8),(1,.func (.func 45) #[] #[.pointer (some ⟨aH,0,none⟩),.pointer (some ⟨a9,0,none⟩)])]) (fun (aI,a0)=>[tF]) (fun (aI,a0)=>[.own 45 2 Q9 (.slice aA a7 a8) l0,.blk aH [.pointer (some ⟨aB,0,none⟩)] 30,.blk aB [.slice (some aC) aD aE,.slice aA a7 a8,.slice aF aG a1,.map (some a2)] 66,.own 3 1 Qi (.slice (some aC) aD aE) l1,.own 45 2 Q9 (.slice aF aG a1) l2,Q2s (Q1g (QQ Q2t)) false QW a2 e3,.blk a9 [.int .i64 a4,.slice (some a3) a5 a6] 45,.own 3 1 Qi (.slice (some a3) a5 a6) l5]) (N,0) hm [8,7,0,1] Z (asK [0] Z) Z (fun s_ hm=>?_)))))))))))))
 obtain ⟨aI,a0⟩:=s_
 try dsimp only at hm ⊢
 obtain ⟨aZ,b0,aS,hq,hLu1⟩:=Q1d hm
 clear hm
 subst aS
 replace hm:=hq
 clear hq
 unfold Q1A at hm
 try dsimp only at hm
 refine Q6 (Q2 (wP Z (Qz (d:=9) (v':=.bool (decide (a0 < l0.length))) (S':=V4 ..) Z Z (Q3f (a:=a0) (b:=l0.length)) (Q3 (Q4 (Q6 ?_))))))
 refine QA Z (fun aR=>?_) (fun aR=>?_)
 replace hm:=Q1z hm aR
 refine Q5 [8,7,0,1] (S':=V4 ..) Z (Qs (Q4 (Q6 (Qm (Q6 (Q2 (wP Z (wP Z (Q3 (Q4 (Q5 [5,8,7,0,1] (S':=V5 ..) Z (Q6 (Q2 ?_)))))))))))))
 refine wP Z (wP Z (wP Z ?_))
 obtain ⟨aM,aO,hm⟩:=Q7 hm
 refine Q2E 0 a0 Z Z Z Zq Z Z Z Z Z (Qw aO) QB Qe (fun aX aT=>?_)
 subst aT
 refine Qk Qa 0 a0 0 Z Z Z Zq Z Z Z aO Qe QS (v:=fun aK=>.agg #[.int .i64 (aM.rule),.slice aK.1 aM.ids.length aK.2]) (fun _=>Z) (fun _=>Z) (fun aK _=>?_)
 obtain ⟨b1,aU,hm⟩:=Q7 hm
 refine wl_callDyn [1,2,3,0,4,5,6,7] [] Z Z Z Zq Z Z Z fn_45 Z Z (Q8A N aM.rule aK.1 aK.2 aM.ids aH aB aC aD aE l1 (some ⟨aX,0,none⟩) a7 a8 l0 aF aG a1 l2 a2 e3 a9 a4 a3 a5 a6 l5 _ aU) (asK [0,1] Z) Z (H':=[]) Z ?_
 rintro _ _ _ ⟨rfl,rfl,rfl⟩
 refine Q3 (Q4 (Q5 [16,5,8,7,0,1] (S':=V6 ..) Z ?_))
 refine QA Z (fun aL=>?_) (fun aL=>?_)
 replace hm:=Q1z hm aL
 refine Q5 [5] (S':=[_]) Z (Q6 (Q2 (wP Z (wP Z (Q3 (Q4 (Q5 [4] (S':=[_]) Z (QP (Q11 (Qn (Qn (Q11 (Qn ?_)))))))))))))
 have hE:=(Zi hm).symm
 replace hE:=QO hLu1 hE
 replace hE:=QO hLj_1 hE
 replace hE:=hE.symm
 subst hE
 refine QH (Hr:=V8 ..) [3,0,1,2,4,5,6,7] Tryz.results44 (QD Z) ⟨Z,Z,Z⟩ (asK [] Z) Z Z (.inl Z)
 replace hm:=Q1y hm aL
 refine Q5 [8,7,0,1] (S':=V4 ..) Z (Qs (Qj (Q4 (Q2 (wP Z ?_)))))
 obtain ⟨aV,hm⟩:=Qd hm
 refine Qz (d:=18) (v':=.int .i64 ((a0 + 1:Nat):Int)) (S':=V4 ..) Z Z (Q1i (a:=a0) (b:=1) aV) (QI (S':=V4 ..) Z Z Z Z Z (Q3 ?_))
 have hE:=(Zi hm).symm
 replace hE:=Q14 hLu1 hE
 refine Q1m [3,0,1,2,4,5,6,7] Z (H':=V8 ..) Z ?_
 refine Q1a (_,a0 + 1) (Nat.lt_succ_self _) hE [8,7,0,1] Z (asK [1] Z) Z
 replace hm:=Q1y hm aR
 refine Q5 [] (S':=[]) Z (Q19 (Qc (Qc (Qt ?_))))
 have hE:=(Zi hm).symm
 replace hE:=QO hLu1 hE
 refine Qp () hE [] Z (asK [0] Z) Z
 rintro _ hE
 try dsimp only
 have hm:=Q14 hLj_1 hE
 try dsimp only at hm
 refine Q6 (Q2 (wP Z (Q3 (Q4 (QP ?_)))))
 have hE:=(Zi hm).symm
 replace hE:=hE.symm
 subst hE
 refine QH (Hr:=V8 ..) [0,1,2,3,4,5,6,7] Tryz.results44 (QD Z) ⟨Z,Z,Z⟩ (asK [] Z) Z Z (.inl Z)
theorem Q7i (N:Nat) (a9:Nat) (a5:Addr) (a6:Nat) (a7:Nat) (l0:List Int) (aH:OA) (aQ:Nat) (aI:Nat) (l1:List Q1) (aA:OA) (aB:Nat) (aC:Nat) (l2:List Q1) (a0:Nat) (e3:List (ByteArray × Bool)) (a4:Int) (a1:Addr) (aG:Nat) (a2:Nat) (l5:List Int) (o0:Nat) (o1:List Int) (o4:List Q1) (o8:List Q1) (aX:List (ByteArray × Bool)) (hm:Q1L N l0 l1 l2 e3 a4 l5 = some (o0,o1,o4,o8,aX)):Q1R Tryz.prog 23 [.pointer (some ⟨a9,0,none⟩),.agg #[.int .i64 a4,.slice (some a1) aG a2]] [tF] [.blk a9 [.slice (some a5) a6 a7,.slice aH aQ aI,.slice aA aB aC,.map (some a0)] 66,.own 3 1 Qi (.slice (some a5) a6 a7) l0,.own 45 2 Q9 (.slice aH aQ aI) l1,.own 45 2 Q9 (.slice aA aB aC) l2,Q2s (Q1g (QQ Q2t)) false QW a0 e3,.own 3 1 Qi (.slice (some a1) aG a2) l5] (fun v Φr Hr=>∃ (o2:OA) (o3:Nat) (o5:Nat) (o6:OA) (o7:Nat) (o9:Nat),v = .int .i64 ((o0:Nat):Int) ∧ Φr = [] ∧ Hr = [.blk a9 [.slice (some a5) a6 a7,.slice o2 o5 o3,.slice o6 o9 o7,.map (some a0)] 66,.own 3 1 Qi (.slice (some a5) a6 a7) o1,.own 45 2 Q9 (.slice o2 o5 o3) o4,.own 45 2 Q9 (.slice o6 o9 o7) o8,Q2s (Q1g (QQ Q2t)) false QW a0 aX,.own 3 1 Qi (.slice (some a1) aG a2) l5]):=by
 unfold Q1L at hm
 refine QZ Tryz.func23 Z Tryz.ntmps23 Z (S:=[_,_]) Z (fun C=>(Q6 (Q2 (wB Z (fun g2=>(wB Z (fun g3=>(wP Z (Q3 (Q4 (Q5 [3,2] (S':=[_,_]) Z (Q6 (Q6 (Q2 (wD 1 0 Z Q6d Q6c Z ?_)))))))))))))))
 obtain ⟨_,b5,hm⟩:=Q7 hm
 try dsimp only at hm
 refine wC [2,3,4,5,6] [0,1,7] Z fn_32 Z (Q3B N a9 a5 a6 a7 l0 aH aQ aI l1 aA aB aC l2 a0 e3 b5) (asK [0] Z) Z (H':=V3 ..) Z ?_
 rintro _ _ _ ⟨rfl,rfl,rfl⟩
 refine wP Z (Q3 (Q4 (Q5 [8,3,2] (S':=V3 ..) Z (Q4q Z (Q5 [3,2] (S':=[_,_]) Z (Qs (Q4 (Q6 (Q2 (wD 6 0 Z Q6d Q6c Z (wP Z (wF Z Q5W (wD 0 1 Z Q1X Q3D Z ?_)))))))))))))
 refine Qa8 Z Z Z Zq Z Z (QK 2 Z (fun aR _=>?_))
 subst aR
 obtain ⟨a3,aY,hm⟩:=Q7 hm
 refine wC [2,6,0,1,3,4,5,7] [] Z fn_44 Z (Q8j N aH l1.length aI l1 g2 a9 a5 a6 a7 l0 aA aB aC l2 a0 e3 g3 a4 a1 aG a2 l5 _ aY) (asK [0] Z) Z (H':=[]) Z ?_
 rintro _ _ _ ⟨rfl,rfl,rfl⟩
 refine wP Z (Q3 (Q4 (Q5 [5,3,2] (S':=V3 ..) Z (Q6 (Q6 (Q2 (wP Z (wP Z (Q3 (Q4 (Q5 [16,5,3,2] (S':=V4 ..) Z ?_)))))))))))
 refine QA Z (fun aJ=>?_) (fun aJ=>?_)
 replace hm:=Q1z hm aJ
 refine Q5 [] (S':=[]) Z (Q6 (Q2 (wP Z (Q3 (Q4 (QP (Qn ?_)))))))
 have hE:=(Zi hm).symm
 obtain ⟨hE0,hF1⟩:=Prod.mk.inj hE
 obtain ⟨hE1,hF2⟩:=Prod.mk.inj hF1
 obtain ⟨hE2,hF3⟩:=Prod.mk.inj hF2
 obtain ⟨hE3,hE4⟩:=Prod.mk.inj hF3
 clear hE hF1 hF2 hF3
 replace hE0:=hE0.symm
 subst hE0
 replace hE1:=hE1.symm
 subst hE1
 replace hE2:=hE2.symm
 subst hE2
 replace hE3:=hE3.symm
 subst hE3
 replace hE4:=hE4.symm
 subst hE4
 refine QH (Hr:=V6 ..) [2,3,0,4,5,7] Tryz.results23 (QD Z) ⟨aH,aI,l1.length,aA,aC,aB,Z,Z,Z⟩ (asK [] Z) Z Z (.inl Z)
 replace hm:=Q1y hm aJ
 refine Q5 [5,3,2] (S':=V3 ..) Z (Qs (Q4 (Q6 ?_)))
 obtain ⟨aZ,hm⟩:=Qd hm
 obtain ⟨b0,hm⟩:=Qd hm
 obtain ⟨aS,hm⟩:=Qd hm
 refine QV [0,1,2,3,4,5,6,7,9,10] Z Z (fun hok=>(Qq hok 0 1 0 Z Z Z Zq Z Z Z Z (cs:=[_]) Z Q6d Q6c Z Z (Qq hok 1 1 0 Z Z Z Zq Z Z Z Z (cs:=[_]) Z Q6d Q6c Z Z (xP hok 2 Z (Ql hok 3 Z Z Z Zq Z Z Z Q5W (Qq hok 4 2 1 Z Z Z Zq Z Z Z Z (cs:=[_]) Z Q1X Q3D Z Z (xP hok 5 Z (xP hok 6 Z (xP hok 7 Z (Q1e (d:=24) (v':=.int .i64 (a3 + 1)) (S':=V10 ..) Z Z (i64_in aZ) (xS hok 8 Z (wC [0] [1,2,3,4,5,6,7] Z fn_46 Z (Delete46_s aH aI a3 l1 b0 aS) (asK [] Z) Z (H':=V7 ..) Z ?_))))))))))))
 rintro _ _ _ ⟨aT,aU,rfl,rfl,rfl⟩
 refine Q3 (Qy [0] [1,1] Z Z (xP hok 9 Z (Ql hok 10 Z Z Z Zq Z Z Z Q5W (xS hok 11 Z (wS 2 1 Z Q1X (all':=V4 ..) Z (H':=V8 ..) Z (Q3 (Qy [0] [] Z Z (QL hok Z (Q4 (Q5 [3,2] (S':=[_,_]) Z (Q6 ?_)))))))))))
 obtain ⟨b1,b2,hm⟩:=Q7 hm
 refine QV [0,1,2,3,4] Z Z (fun hok=>(Qq hok 0 1 0 Z Z Z Zq Z Z Z Z (cs:=[_]) Z Q6d Q6c Z Z (xP hok 1 Z (Ql hok 2 Z Z Z Zq Z Z Z Q9H (Qq hok 3 2 3 Z Z Z Zq Z Z Z Z (cs:=[_]) Z tS_64 tA_64 Z Z (Qq hok 4 6 0 Z Z Z Zq Z Z Z Z (cs:=[_,_]) Z Qe QS Z Z (xS hok 5 Z (QK 7 Z (fun aO _=>?_)))))))))
 subst aO
 refine Q2k [] [0,1,2,3,4,5,6,7] [7] Z Z Z Zq Z Z fn_42 Z (Q3U N a4 (some a1) a2 l5 _ b2) (fun F w hφ hh=>(Qh (Q1n (hh _ (Qu (k:=0) Z))) (Qh (hφ _ (Qu (k:=0) Z)) Qv))) (fun _ _ _ hR=>by obtain ⟨rfl,rfl,rfl⟩:=hR; exact ⟨Z,(fun _ h=>Q1O h)⟩) Z Z (H':=V8 ..) Z ?_
 rintro _ _ _ ⟨rfl,rfl,rfl⟩
 refine Q3 (Qy [0] [2,1] Z Z (xS hok 6 Z (Q7C (i:=b1) (u:=true) (cs:=[.bool true]) ltB 5 Z Z (.inl Z) Z Z Z Z Q8I trivial Z (fun F w hφ=>⟨(),Z,Qv⟩) (H':=[.own 45 2 Q9 (.slice aT ((l1.take a3.toNat ++ l1.drop (a3.toNat + 1)).length) aU) (l1.take a3.toNat ++ l1.drop (a3.toNat + 1)),.blk g2 [.pointer (some ⟨a9,0,none⟩)] 30,.blk a9 [.slice (some a5) a6 a7,.slice aT ((l1.take a3.toNat ++ l1.drop (a3.toNat + 1)).length) aU,.slice aA aB aC,.map (some a0)] 66,.own 3 1 Qi (.slice (some a5) a6 a7) l0,.own 45 2 Q9 (.slice aA aB aC) l2,Q2s (Q1g (QQ Q2t)) false QW a0 (Q61 ltB b1 true e3),.blk g3 [.int .i64 a4,.slice (some a1) l5.length a2] 45,.own 3 1 Qi (.slice (some a1) l5.length a2) l5]) Z (Q3 (Qy [0] [] Z Z (QL hok Z (Q4 (Q5 [3,2] (S':=[_,_]) Z (Q6 ?_)))))))))
 obtain ⟨_,b3,hm⟩:=Q7 hm
 try dsimp only at hm
 obtain ⟨aP,hm⟩:=Qd hm
 refine QV [0,1,2,3,4,5,9,10] Z Z (fun hok=>(Qq hok 0 1 0 Z Z Z Zq Z Z Z Z (cs:=[_]) Z Q6d Q6c Z Z (Qq hok 1 1 0 Z Z Z Zq Z Z Z Z (cs:=[_]) Z Q6d Q6c Z Z (xP hok 2 Z (Ql hok 3 Z Z Z Zq Z Z Z Q6b (Qq hok 4 2 2 Z Z Z Zq Z Z Z Z (cs:=[_]) Z Q1X Q3D Z Z (Qq hok 5 6 0 Z Z Z Zq Z Z Z Z (cs:=[_,_]) Z Qe QS Z Z (xS hok 6 Z (Q2k [] [0,1,2,3,4,5,6,7] [7] Z Z Z Zq Z Z fn_33 Z (Q5d N a4 (some a1) a2 l5 b3) (fun F w hφ hh=>(Qh (Q1n (hh _ (Qu (k:=0) Z))) (Qh (hφ _ (Qu (k:=0) Z)) Qv))) (fun _ _ _ hR=>by obtain ⟨_,_,rfl,rfl,rfl⟩:=hR; exact ⟨Z,(Q7d (Q7N Q6I) (fun _ h=>Q1O h))⟩) Z Z (H':=V8 ..) Z ?_)))))))))
 rintro _ _ _ ⟨aD,aE,rfl,rfl,rfl⟩
 refine Q3 (Qy [0] [3,2,2] Z Z (xS hok 7 Z (QE Z Z Z Zq Z QB Qe Q42 Z (zs:=[.int .i64 0,V1]) (by kernel_rfl) Z (out:=[_,_]) Z (fun bK=>(Q3 (Qy [0] [8,4,3,3] Z Z (xS hok 8 Z (Q6B 1 Z (H':=V9 ..) Z (Q4Q (.sli 1 Qi aD aE l5) (fun F w hφ=>Q1n (hφ _ (Qu (k:=0) Z))) (Q2w ([(⟨a4,l5⟩ : Q1)]) 5 0 Z Z Z Zq Z Z Z Z Z (fun F w hφ=>⟨[.int .i64 a4,.slice aD l5.length aE],[],Z,Z,⟨(aD,aE),Z,(Qh (hφ _ (Qu (k:=0) Z)) Qv)⟩,Z⟩) QB Q7P Z Z (Nat.le_trans aP (by decide)) (Nat.le_trans (Nat.mul_le_mul_right _ aP) (by decide)) (H2:=fun aK aL=>[_,_,_,_,_,.own 45 2 Q9 (.slice aK ((l2 ++ ([(⟨a4,l5⟩ : Q1)])).length) aL) (l2 ++ ([(⟨a4,l5⟩ : Q1)])),_,_,_]) (fun _ _=>Z) (fun aK aL=>(Q3E 0 Z (H':=V8 ..) Z (Q3 (Qy [2] [6,1,1] Z Z (xP hok 9 Z ?_)))))))))))))))
 refine Ql hok 10 Z Z Z Zq Z Z Z Q6b (xS hok 11 Z (wS 2 2 Z Q1X (all':=V4 ..) Z (H':=V8 ..) Z (Q3 (Qy [0,1,2] [] Z Z (QL hok Z (Q4 (Q5 [2] (S':=[_]) Z (Q6 ?_))))))))
 obtain ⟨⟨aV,b6⟩,b4,hm⟩:=Q7 hm
 try dsimp only at hm
 obtain ⟨aM,hm⟩:=Qd hm
 refine QV [0,1,2,3,4,5,6,7] Z Z (fun hok=>(Qq hok 0 1 0 Z Z Z Zq Z Z Z Z (cs:=[_]) Z Q6d Q6c Z Z (xP hok 1 Z (Ql hok 2 Z Z Z Zq Z Z Z Q6b (Qq hok 3 2 2 Z Z Z Zq Z Z Z Z (cs:=[_]) Z Q1X Q3D Z Z (Qq hok 4 1 0 Z Z Z Zq Z Z Z Z (cs:=[_]) Z Q6d Q6c Z Z (xP hok 5 Z (Ql hok 6 Z Z Z Zq Z Z Z Q6j (Qq hok 7 2 0 Z Z Z Zq Z Z Z Z (cs:=[_]) Z Q8d Q8c Z Z (xS hok 8 Z (Q6M Z Z Z Zq Z Z Z (Q3 (Qy [0,1,2] [1,2,1] Z Z (xS hok 9 Z ?_))))))))))))))
 refine wC [4,3] [0,1,2,5,6,7] Z fn_43 Z (Q2J N aK ((l2 ++ ([(⟨a4,l5⟩ : Q1)])).length) aL (l2 ++ ([(⟨a4,l5⟩ : Q1)])) a5 a6 a7 l0 _ _ b4) (asK [2] Z) Z (H':=V6 ..) Z ?_
 rintro _ _ _ ⟨b7,rfl,rfl,rfl⟩
 refine QK 0 Z (fun aN _=>?_)
 subst aN
 refine Q28 0 (φ':=.own 45 2 Q9 (.slice aK ((l2 ++ ([(⟨a4,l5⟩ : Q1)])).length) aL) aV) Z (by rw [aM]) (H':=V8 ..) Z (Q3 (Qy [0,1,2] [4,3,3] Z Z (QL hok Z (Q4 (Q5 [] (S':=[]) Z (Q6 (Q2 (wP Z (Q3 (Q4 (QP ?_)))))))))))
 have hE:=(Zi hm).symm
 obtain ⟨hE0,hF1⟩:=Prod.mk.inj hE
 obtain ⟨hE1,hF2⟩:=Prod.mk.inj hF1
 obtain ⟨hE2,hF3⟩:=Prod.mk.inj hF2
 obtain ⟨hE3,hE4⟩:=Prod.mk.inj hF3
 clear hE hF1 hF2 hF3
 replace hE0:=hE0.symm
 subst hE0
 replace hE1:=hE1.symm
 subst hE1
 replace hE2:=hE2.symm
 subst hE2
 replace hE3:=hE3.symm
 subst hE3
 replace hE4:=hE4.symm
 subst hE4
 refine QH (Hr:=V6 ..) [4,1,2,0,5,7] Tryz.results23 (QD Z) ⟨aT,aU,(l1.take a3.toNat ++ l1.drop (a3.toNat + 1)).length,aK,aL,(l2 ++ ([(⟨a4,l5⟩ : Q1)])).length,Z,Z,Z⟩ (asK [] Z) Z Z (.inl Z)
theorem Q50 (N:Nat) (aP:Nat) (aH:Addr) (aI:Nat) (aJ:Nat) (l0:List Int) (aK:OA) (aL:Nat) (aM:Nat) (l1:List Q1) (aE:OA) (aF:Nat) (aG:Nat) (l2:List Q1) (aC:Nat) (e3:List (ByteArray × Bool)) (o2:List Q1) (hm:Q2F N l0 l1 l2 e3 = some o2):Q1R Tryz.prog 15 [.pointer (some ⟨aP,0,none⟩)] [tF] [.blk aP [.slice (some aH) aI aJ,.slice aK aL aM,.slice aE aF aG,.map (some aC)] 66,.own 3 1 Qi (.slice (some aH) aI aJ) l0,.own 45 2 Q9 (.slice aK aL aM) l1,.own 45 2 Q9 (.slice aE aF aG) l2,Q2s (Q1g (QQ Q2t)) false QW aC e3] (fun v Φr Hr=>∃ (o0:OA) (o1:Nat) (o3:Nat),v = .slice o0 o3 o1 ∧ Φr = [] ∧ Hr = [Q1l Qb 45 2 (.slice o0 o3 o1) o2,.blk aP [.slice (some aH) aI aJ,.slice aK aL aM,.slice aE aF aG,.map (some aC)] 66,.own 3 1 Qi (.slice (some aH) aI aJ) l0,.own 45 2 Q9 (.slice aK aL aM) l1,.own 45 2 Q9 (.slice aE aF aG) l2,Q2s (Q1g (QQ Q2t)) false QW aC e3]):=by
 unfold Q2F at hm
 refine QZ Tryz.func15 Z Tryz.ntmps15 Z (S:=[_]) Z (fun C=>(Q6 (Q2 (wP Z (Q3 (Q4 (Q5 [0] (S':=[_]) Z (Q6 (Q6 (Q2 (wP Z ?_)))))))))))
 obtain ⟨_,b6,hm⟩:=Q7 hm
 try dsimp only at hm
 refine wC [0,1,2,3,4] [] Z fn_32 Z (Q3B N aP aH aI aJ l0 aK aL aM l1 aE aF aG l2 aC e3 b6) (asK [0] Z) Z (H':=[]) Z ?_
 rintro _ _ _ ⟨rfl,rfl,rfl⟩
 refine wP Z (Q3 (Q4 (Q5 [8,0] (S':=[_,_]) Z (Q4q Z (Q5 [0] (S':=[_]) Z (Qs (Q4 (Q6 (Q2 (wP Z (Q3 (Q4 (Q6 ?_)))))))))))))
 obtain ⟨aW,hm,hLj_1⟩:=Q7 hm
 refine Q18 (σ:=(List Q1) × OA × Nat × Nat) (fun (a9,a2,a3,a4)=>aW = a9) (fun (a9,a2,a3,a4)=>[(3,.slice a2 a4 a3)]) (fun (a9,a2,a3,a4)=>[tF]) (fun (a9,a2,a3,a4)=>[Q1l Qb 45 2 (.slice a2 a4 a3) a9,.blk aP [.slice (some aH) aI aJ,.slice aK aL aM,.slice aE aF aG,.map (some aC)] 66,.own 3 1 Qi (.slice (some aH) aI aJ) l0,.own 45 2 Q9 (.slice aK aL aM) l1,.own 45 2 Q9 (.slice aE aF aG) l2,Q2s (Q1g (QQ Q2t)) false QW aC e3]) ?_ ?_
 refine Q6 (Q2 (wP Z (wP Z (wF Z Q6b (wD 0 2 Z Q1X Q3D Z (QK 3 Z (fun aZ _=>(wN Z QB (Qz (d:=13) (v':=.int .i64 ((l2.length:Nat):Int)) (S':=V6 ..) Z Z (Q4A aZ) (wP Z (Q3 (Q4 (Q5 [14,13,12,3] (S':=V4 ..) Z (Qm ?_))))))))))))))
 refine wc_sh [Q1l Qb 45 2 (V1) [],_,_,_,_,_] (fun _ h=>h.treeNil Qb 45 2) (Q6L [4,0,1,2,3,5] Z (H':=V6 ..) Z (Q1f (σ:=Nat × Nat × (List Q1) × OA × Nat × Nat) (fun (aN,a1,a0,a6,a7,a8)=>Q1o (Q3X N l2) aN (a1,a0) = some aW) (fun (aN,a1,a0,a6,a7,a8)=>aN) (fun (aN,a1,a0,a6,a7,a8)=>[(14,.int .i64 ((a1:Nat):Int)),(13,.int .i64 ((l2.length:Nat):Int)),(12,.slice aE aF aG),(3,.slice a6 a8 a7)]) (fun (aN,a1,a0,a6,a7,a8)=>[tF]) (fun (aN,a1,a0,a6,a7,a8)=>[.own 45 2 Q9 (.slice aE aF aG) l2,Q1l Qb 45 2 (.slice a6 a8 a7) a0,.blk aP [.slice (some aH) aI aJ,.slice aK aL aM,.slice aE aF aG,.map (some aC)] 66,.own 3 1 Qi (.slice (some aH) aI aJ) l0,.own 45 2 Q9 (.slice aK aL aM) l1,Q2s (Q1g (QQ Q2t)) false QW aC e3]) (N,0,[],none,0,0) hm [14,13,12,3] Z (asK [0] Z) Z (fun s_ hm=>?_)))
 obtain ⟨aN,a1,a0,a6,a7,a8⟩:=s_
 try dsimp only at hm ⊢
 obtain ⟨bB,bC,b0,hq,hLu1⟩:=Q1d hm
 clear hm
 subst b0
 replace hm:=hq
 clear hq
 unfold Q3X at hm
 try dsimp only at hm
 refine Q6 (Q2 (wP Z (Qz (d:=15) (v':=.bool (decide (a1 < l2.length))) (S':=V4 ..) Z Z (Q3f (a:=a1) (b:=l2.length)) (Q3 (Q4 (Q6 ?_))))))
 refine QA Z (fun aS=>?_) (fun aS=>?_)
 replace hm:=Q1z hm aS
 refine Q5 [14,13,12,3] (S':=V4 ..) Z (Qs (Q4 (Q6 (Qm (Q6 (Q2 ?_))))))
 obtain ⟨a5,aX,hm⟩:=Q7 hm
 refine Q2E 0 a1 Z Z Z Zq Z Z Z Z Z (Qw aX) QB Qe (fun bD b1=>?_)
 subst b1
 refine Qk Qa 0 a1 0 Z Z Z Zq Z Z Z aX Qe QS (v:=fun aT=>.agg #[.int .i64 (a5.rule),.slice aT.1 a5.ids.length aT.2]) (fun _=>Z) (fun _=>Z) (fun aT _=>(Q25 Z Z Z Zq Z Q42 Z (fun g5=>(wS 0 0 Z Qe (all':=[_,_]) Z (H':=V7 ..) Z (Q3 (Q4 (Q5 [5,14,13,12,3] (S':=V5 ..) Z (Q2 (wP Z (Q1V 0 0 Z Z Z Zq Z Z Z (cs:=[_,_]) Z Qe QS Z Z ?_))))))))))
 obtain ⟨_,b2,hm⟩:=Q7 hm
 try dsimp only at hm
 refine wC [] [0,1,2,3,4,5,6] Z fn_33 Z (Q5d N a5.rule aT.1 aT.2 a5.ids b2) (asK [0,1] Z) Z (H':=V7 ..) Z ?_
 rintro _ _ _ ⟨aA,aB,rfl,rfl,rfl⟩
 refine QE Z Z Z Zq Z QB Qe Q42 Z (zs:=[.int .i64 0,V1]) (by kernel_rfl) Z (out:=[_,_]) Z (fun bE=>(Q2o 4 Z (fun b3 _=>?_)))
 subst b3
 refine Q46 4 Z (fun aD aU=>?_)
 obtain ⟨b4,hm⟩:=Qd hm
 have aO:List.map (fun x:Q1 × (OA × Nat)=>x.1) (aD ++ [(a5,(aA,aB))]) = a0 ++ [a5]:=Q88 aU (us:=[a5]) rfl
 have aV:aD.length + ([(a5,(aA,aB))] : List (Q1 × (OA × Nat))).length ≤ 4398046511104:=by rw [Q3g aU]; exact b4
 refine Q2w (R:=Qb.pair) ([(a5,(aA,aB))]) 5 1 Z Z Z Zq Z Z Z Z Z (fun F w hφ=>⟨[.int .i64 (a5.rule),.slice aA a5.ids.length aB],[],Z,Z,Z,Z⟩) QB Q7P Z Z (Nat.le_trans aV (by decide)) (Nat.le_trans (Nat.mul_le_mul_right _ aV) (by decide)) (H2:=fun aQ aR=>[_,_,_,_,_,.own 45 2 Qb.pair (.slice aQ ((aD ++ [(a5,(aA,aB))]).length) aR) (aD ++ [(a5,(aA,aB))]),_,_,_,_]) (fun _ _=>Z) (fun aQ aR=>(Q3E 1 Z (H':=V9 ..) Z (Qz (d:=22) (v':=.slice aQ ((a0 ++ [a5]).length) aR) (S':=V9 ..) Z Z (by rw [Q3g aO]) (Q28 4 (φ':=.own 45 2 Qb.pair (.slice aQ ((a0 ++ [a5]).length) aR) (aD ++ [(a5,(aA,aB))])) Z (by rw [Q3g aO]) (H':=V9 ..) Z (Q55 [1,0,2,3,4,5,6,7,8] Z (H':=V9 ..) Z (Q2x [Q2j Qb (aD ++ [(a5,(aA,aB))]) none,_,_,_,_,_,_,_] (fun _ h=>QY.bagPush (T:=Qb) (x:=a5) (r:=(aA,aB)) (zs:=aD) (H:=V8 ..) h 0 Z) (Q2x [_,_,Q1l Qb 45 2 (.slice aQ ((a0 ++ [a5]).length) aR) (a0 ++ [a5]),_,_,_,_] (fun _ h=>h.treeIn 3 0 Z Z Z aO) (QI (S':=V9 ..) Z Z Z Z Z (Q3 (Qj (Q4 (Q5 [3,14,13,12] (S':=V4 ..) Z (Q2 (wP Z ?_))))))))))))))
 obtain ⟨b5,hm⟩:=Qd hm
 refine Qz (d:=23) (v':=.int .i64 ((a1 + 1:Nat):Int)) (S':=V4 ..) Z Z (Q1i (a:=a1) (b:=1) b5) (QI (S':=V4 ..) Z Z Z Z Z (Q3 ?_))
 have hE:=(Zi hm).symm
 replace hE:=Q14 hLu1 hE
 refine Q1m [1,2,3,4,5,6] Z (H':=V6 ..) Z ?_
 refine Q1a (_,a1 + 1,a0 ++ [a5],aQ,aR,(a0 ++ [a5]).length) (Nat.lt_succ_self _) hE [14,13,12,3] Z (asK [1] Z) Z
 replace hm:=Q1y hm aS
 refine Q5 [3] (S':=[_]) Z (Q19 (Qc (Qc (Qt ?_))))
 have hE:=(Zi hm).symm
 replace hE:=QO hLu1 hE
 refine Q1m [1,2,3,4,0,5] Z (H':=V6 ..) Z ?_
 refine Qp (a0,a6,a7,a8) hE [3] Z (asK [0] Z) Z
 rintro ⟨a9,a2,a3,a4⟩ hE
 try dsimp only
 have hm:=hLj_1
 try rw [hE] at hm
 refine Q6 (Q2 (wP Z (wP Z (Q3 (Q4 (Q5 [2] (S':=[_]) Z (QP ?_)))))))
 have hE:=(Zi hm).symm
 replace hE:=hE.symm
 subst hE
 refine QH (Hr:=V6 ..) [0,1,2,3,4,5] Tryz.results15 (QD Z) ⟨a2,a3,a4,Z,Z,Z⟩ (asK [] Z) Z Z (.inl Z)
theorem Q5J (N:Nat)   (hm:Q2G N = some ()):Q1R Tryz.prog 5 [] [tF] [] (fun v Φr Hr=>v = .bool true ∧ Φr = [] ∧ Hr = []):=by
 unfold Q2G at hm
 refine QZ Tryz.func5 Z Tryz.ntmps5 Z (S:=[]) Z (fun C=>(Q6 (Q2 (wP Z (Q3 (Q4 (Q5 [] (S':=[]) Z (Q6 (Q2 (QE Z Z Z Zq Z Q1j Q1w Q7g Z (zs:=[.int .i64 0,.int .i64 0]) (by kernel_rfl) Z (out:=[_,_]) Z (fun g3=>(Q3V (sz:=1) (m:=2) Qi ([0,5]) 0 Z (fun F w hφ=>⟨[.int .i64 0],[.int .i64 5],Z,Z,⟨(),Z,Qv⟩,⟨[.int .i64 5],[],Z,Z,⟨(),Z,Qv⟩,Z⟩⟩) Z (by decide) (H':=[_]) Z ?_))))))))))))
 obtain ⟨v4,fM,hm⟩:=Q7 hm
 refine wC [0] [] Z fn_6 Z (Q9t N ⟨g3,0,none⟩ ([0,5].length) 2 [0,5] _ fM) (asK [0] Z) Z (H':=[]) Z ?_
 rintro _ _ _ ⟨a0,a1,fU,rfl,rfl,rfl⟩
 obtain ⟨c7,hm⟩:=Qd hm
 refine Q4F 1 (v':=.slice (some ⟨g3,0,none⟩) ([0,5].length) 2) Z (by rw [c7]) (Q25 Z Z Z Zq Z tZ_28 Z (fun g1=>(wS 0 0 Z Q6s (all':=[_,_]) Z (H':=V3 ..) Z (Q3 (Q4 (Q5 [1] (S':=[_]) Z (Q6 (Q6 ?_))))))))
 obtain ⟨_,fN,hm⟩:=Q7 hm
 try dsimp only at hm
 obtain ⟨_,fO,hm⟩:=Q7 hm
 try dsimp only at hm
 obtain ⟨g2,e7,hm⟩:=Q7 hm
 obtain ⟨d5,hm⟩:=Qd hm
 obtain ⟨_,e8,hm⟩:=Q7 hm
 try dsimp only at hm
 obtain ⟨_,e9,hm⟩:=Q7 hm
 try dsimp only at hm
 obtain ⟨g4,eA,hm⟩:=Q7 hm
 obtain ⟨d6,hm⟩:=Qd hm
 obtain ⟨_,eB,hm⟩:=Q7 hm
 try dsimp only at hm
 obtain ⟨_,eC,hm⟩:=Q7 hm
 try dsimp only at hm
 obtain ⟨g5,eD,hm⟩:=Q7 hm
 obtain ⟨d7,hm⟩:=Qd hm
 obtain ⟨_,eE,hm⟩:=Q7 hm
 try dsimp only at hm
 obtain ⟨_,eF,hm⟩:=Q7 hm
 try dsimp only at hm
 obtain ⟨g7,eG,hm⟩:=Q7 hm
 obtain ⟨d8,hm⟩:=Qd hm
 refine wc_ownLen 1 Z (fun c8 _=>?_)
 subst c8
 refine wc_flow (Y:=Nat) (H0:=[.blk g1 [V1,.slice a0 v4.length a1] 28,.own 38 5 QM (.slice a0 v4.length a1) v4,.own 3 1 Qi (.slice (some ⟨g3,0,none⟩) ([0,5].length) 2) ([0,5])]) [⟨5,[0],[],34,[],fun _=>.agg #[V1,.slice a0 v4.length a1],fun _=>[],fun _=>[]⟩,⟨6,[1],[],2,[],fun E=>.slice (some ⟨(E 1),0,none⟩) 2 2,fun _=>[],fun E=>[.blk (E 1) [.int .i64 9,.int .i64 8] 3]⟩,⟨7,[1,2],[1],5,[],fun E=>.agg #[.int .i64 0,.slice (some ⟨(E 1),0,none⟩) ([9,8].length) 2],fun _=>[],fun E=>[.own 3 1 Qi (.slice (some ⟨(E 1),0,none⟩) ([9,8].length) 2) ([9,8])]⟩,⟨8,[3],[],4,[],fun E=>.slice (some ⟨(E 3),0,none⟩) 2 2,fun _=>[],fun E=>[.blk (E 3) [.int .i64 9,.int .i64 7] 3]⟩,⟨9,[1,2,3,4],[3],5,[],fun E=>.agg #[.int .i64 0,.slice (some ⟨(E 3),0,none⟩) ([9,7].length) 2],fun _=>[],fun E=>[.own 3 1 Qi (.slice (some ⟨(E 3),0,none⟩) ([9,7].length) 2) ([9,7])]⟩,⟨10,[0,1,2,3,4,5],[0,2,4],34,[],fun _=>.bool true,fun _=>[.sli 2 QR none 0 ([] : List Qr)],fun _=>[]⟩,⟨11,[0,1,2,3,4,5,6],[5],34,[],fun _=>.bool false,fun _=>[],fun _=>[]⟩,⟨12,[0,1,2,3,4,5,6,7],[6],34,[],fun _=>.bool false,fun _=>[],fun _=>[]⟩,⟨13,[0,1,2,3,4,5,6,7,8],[7],34,[],fun _=>.agg #[V1,.slice a0 v4.length a1],fun _=>[],fun _=>[]⟩,⟨14,[0,1,2,3,4,5,6,7,9],[7],10,[],fun E=>.slice (some ⟨(E 9),0,none⟩) 2 2,fun _=>[],fun E=>[.blk (E 9) [.int .i64 9,.int .i64 8] 3]⟩,⟨15,[0,1,2,3,4,5,6,7,9,10],[7,9],13,[],fun E=>.agg #[.int .i64 0,.slice (some ⟨(E 9),0,none⟩) ([9,8].length) 2],fun _=>[],fun E=>[.own 3 1 Qi (.slice (some ⟨(E 9),0,none⟩) ([9,8].length) 2) ([9,8])]⟩,⟨16,[0,1,2,3,4,5,6,7,11],[7],12,[],fun E=>.slice (some ⟨(E 11),0,none⟩) 1 1,fun _=>[],fun E=>[.blk (E 11) [.int .i64 9] 3]⟩,⟨17,[0,1,2,3,4,5,6,7,9,10,11,12],[7,11],13,[],fun E=>.agg #[.int .i64 0,.slice (some ⟨(E 11),0,none⟩) [9].length 1],fun _=>[],fun E=>[.own 3 1 Qi (.slice (some ⟨(E 11),0,none⟩) [9].length 1) [9]]⟩,⟨18,[0,1,2,3,4,5,6,7,8,9,10,11,12,13],[7,8,10,12],34,[],fun _=>.bool true,fun _=>[.sli 2 QR none 0 ([] : List Qr)],fun _=>[]⟩,⟨19,[0,1,2,3,4,5,6,7,8,9,10,11,12,13,14],[7,13],34,[],fun _=>.bool false,fun _=>[],fun _=>[]⟩,⟨20,[0,1,2,3,4,5,6,7,8,9,10,11,12,13,14,15],[7,14],34,[],fun _=>.bool false,fun _=>[],fun _=>[]⟩,⟨21,[0,1,2,3,4,5,6,7,8,9,10,11,12,13,14,15,16],[15],34,[],fun _=>.bool false,fun _=>[],fun _=>[]⟩,⟨22,[0,1,2,3,4,5,6,7,8,9,10,11,12,13,14,15,16,17],[16],34,[],fun _=>.agg #[V1,.slice a0 v4.length a1],fun _=>[],fun _=>[]⟩,⟨23,[0,1,2,3,4,5,6,7,8,9,10,11,12,13,14,15,16,18],[16],19,[],fun E=>.slice (some ⟨(E 18),0,none⟩) 1 1,fun _=>[],fun E=>[.blk (E 18) [.int .i64 1] 3]⟩,⟨24,[0,1,2,3,4,5,6,7,8,9,10,11,12,13,14,15,16,18,19],[16,18],22,[],fun E=>.agg #[.int .i64 1,.slice (some ⟨(E 18),0,none⟩) [1].length 1],fun _=>[],fun E=>[.own 3 1 Qi (.slice (some ⟨(E 18),0,none⟩) [1].length 1) [1]]⟩,⟨25,[0,1,2,3,4,5,6,7,8,9,10,11,12,13,14,15,16,20],[16],21,[],fun E=>.slice (some ⟨(E 20),0,none⟩) 2 2,fun _=>[],fun E=>[.blk (E 20) [.int .i64 9,.int .i64 8] 3]⟩,⟨26,[0,1,2,3,4,5,6,7,8,9,10,11,12,13,14,15,16,18,19,20,21],[16,20],22,[],fun E=>.agg #[.int .i64 0,.slice (some ⟨(E 20),0,none⟩) ([9,8].length) 2],fun _=>[],fun E=>[.own 3 1 Qi (.slice (some ⟨(E 20),0,none⟩) ([9,8].length) 2) ([9,8])]⟩,⟨27,[0,1,2,3,4,5,6,7,8,9,10,11,12,13,14,15,16,17,18,19,20,21,22],[16,17,19,21],34,[],fun _=>.bool true,fun _=>[.sli 2 QR none 0 ([] : List Qr)],fun _=>[]⟩,⟨28,[0,1,2,3,4,5,6,7,8,9,10,11,12,13,14,15,16,17,18,19,20,21,22,23],[16,22],34,[],fun _=>.bool false,fun _=>[],fun _=>[]⟩,⟨29,[0,1,2,3,4,5,6,7,8,9,10,11,12,13,14,15,16,17,18,19,20,21,22,23,24],[16,23],34,[],fun _=>.bool false,fun _=>[],fun _=>[]⟩,⟨30,[0,1,2,3,4,5,6,7,8,9,10,11,12,13,14,15,16,17,18,19,20,21,22,23,24,25],[24],34,[],fun _=>.bool false,fun _=>[],fun _=>[]⟩,⟨31,[0,1,2,3,4,5,6,7,8,9,10,11,12,13,14,15,16,17,18,19,20,21,22,23,24,25,26],[25],34,[],fun _=>.agg #[V1,.slice a0 v4.length a1],fun _=>[],fun _=>[]⟩,⟨32,[0,1,2,3,4,5,6,7,8,9,10,11,12,13,14,15,16,17,18,19,20,21,22,23,24,25,27],[25],28,[],fun E=>.slice (some ⟨(E 27),0,none⟩) 2 2,fun _=>[],fun E=>[.blk (E 27) [.int .i64 8,.int .i64 9] 3]⟩,⟨33,[0,1,2,3,4,5,6,7,8,9,10,11,12,13,14,15,16,17,18,19,20,21,22,23,24,25,27,28],[25,27],31,[],fun E=>.agg #[.int .i64 0,.slice (some ⟨(E 27),0,none⟩) ([8,9].length) 2],fun _=>[],fun E=>[.own 3 1 Qi (.slice (some ⟨(E 27),0,none⟩) ([8,9].length) 2) ([8,9])]⟩,⟨34,[0,1,2,3,4,5,6,7,8,9,10,11,12,13,14,15,16,17,18,19,20,21,22,23,24,25,29],[25],30,[],fun E=>.slice (some ⟨(E 29),0,none⟩) 2 2,fun _=>[],fun E=>[.blk (E 29) [.int .i64 9,.int .i64 8] 3]⟩,⟨35,[0,1,2,3,4,5,6,7,8,9,10,11,12,13,14,15,16,17,18,19,20,21,22,23,24,25,27,28,29,30],[25,29],31,[],fun E=>.agg #[.int .i64 0,.slice (some ⟨(E 29),0,none⟩) ([9,8].length) 2],fun _=>[],fun E=>[.own 3 1 Qi (.slice (some ⟨(E 29),0,none⟩) ([9,8].length) 2) ([9,8])]⟩,⟨36,[0,1,2,3,4,5,6,7,8,9,10,11,12,13,14,15,16,17,18,19,20,21,22,23,24,25,26,27,28,29,30,31],[25,26,28,30],34,[],fun _=>.bool true,fun _=>[.sli 2 QR none 0 ([] : List Qr)],fun _=>[]⟩,⟨37,[0,1,2,3,4,5,6,7,8,9,10,11,12,13,14,15,16,17,18,19,20,21,22,23,24,25,26,27,28,29,30,31,32],[25,31],34,[],fun _=>.bool false,fun _=>[],fun _=>[]⟩,⟨38,[0,1,2,3,4,5,6,7,8,9,10,11,12,13,14,15,16,17,18,19,20,21,22,23,24,25,26,27,28,29,30,31,32,33],[25,32],34,[],fun _=>.bool false,fun _=>[],fun _=>[]⟩] Z Z (by kernel_rfl) (by kernel_rfl) ⟨?_,?_,?_,?_,?_,?_,?_,?_,?_,?_,?_,?_,?_,?_,?_,?_,?_,?_,?_,?_,?_,?_,?_,?_,?_,?_,?_,?_,?_,?_,?_,?_,?_,?_,trivial⟩ (fun E=>?_)
 intro E C
 show WL _ C _ _ [_] (V3 ..) [_] _ [_]
 refine Q1V 0 0 Z Z Z Zq Z Z Z (cs:=[_,_]) Z Q6s Q7a Z Z (Q3 ?_)
 exact Q1M (k:=0) default [] [0,1,2] Z Z Z Z
 intro E C
 show WL _ C _ _ [_] (V3 ..) [_] _ [_]
 refine QE Z Z Z Zq Z Q1j Q1w Q7g Z (zs:=[.int .i64 0,.int .i64 0]) (by kernel_rfl) Z (out:=[_,_]) Z (fun g6=>(Q3 ?_))
 exact Q1M (k:=1) g6 [] [0,1,2,3] Z Z Z Z
 intro E C
 show WL _ C _ _ [_] [.blk (E 1) [.int .i64 9,.int .i64 8] 3,_,_,_] [(6,.slice (some ⟨(E 1),0,none⟩) 2 2),_] _ [_]
 refine Q3V (sz:=1) (m:=2) Qi ([9,8]) 0 Z (fun F w hφ=>⟨[.int .i64 9],[.int .i64 8],Z,Z,⟨(),Z,Qv⟩,⟨[.int .i64 8],[],Z,Z,⟨(),Z,Qv⟩,Z⟩⟩) Z (by decide) (H':=V4 ..) Z (wC [0] [1,2,3] Z Q6O Z (Q10 N 0 ⟨(E 1),0,none⟩ ([9,8].length) 2 [9,8] fN) (asK [0] Z) Z (H':=V3 ..) Z ?_)
 rintro _ _ _ ⟨rfl,rfl,rfl⟩
 refine Q3 ?_
 exact Q1M (k:=2) default [] [0,1,2,3] Z Z Z Z
 intro E C
 show WL _ C _ _ [_] (V3 ..) [_] _ [_]
 refine QE Z Z Z Zq Z Q1j Q1w Q7g Z (zs:=[.int .i64 0,.int .i64 0]) (by kernel_rfl) Z (out:=[_,_]) Z (fun g8=>(Q3 ?_))
 exact Q1M (k:=3) g8 [] [0,1,2,3] Z Z Z Z
 intro E C
 show WL _ C _ _ [_] [.blk (E 3) [.int .i64 9,.int .i64 7] 3,_,_,_] [(8,.slice (some ⟨(E 3),0,none⟩) 2 2),_] _ [_]
 refine Q3V (sz:=1) (m:=2) Qi ([9,7]) 0 Z (fun F w hφ=>⟨[.int .i64 9],[.int .i64 7],Z,Z,⟨(),Z,Qv⟩,⟨[.int .i64 7],[],Z,Z,⟨(),Z,Qv⟩,Z⟩⟩) Z (by decide) (H':=V4 ..) Z (wC [0] [1,2,3] Z Q6O Z (Q10 N 0 ⟨(E 3),0,none⟩ ([9,7].length) 2 [9,7] fO) (asK [0] Z) Z (H':=V3 ..) Z ?_)
 rintro _ _ _ ⟨rfl,rfl,rfl⟩
 refine Q3 ?_
 exact Q1M (k:=4) default [] [0,1,2,3] Z Z Z Z
 intro E C
 show WL _ C _ _ [_] [.own 3 1 Qi (.slice (some ⟨(E 1),0,none⟩) ([9,8].length) 2) ([9,8]),.own 3 1 Qi (.slice (some ⟨(E 3),0,none⟩) ([9,7].length) 2) ([9,7]),_,_,_] [(5,.agg #[V1,.slice a0 v4.length a1]),(7,.agg #[.int .i64 0,.slice (some ⟨(E 1),0,none⟩) ([9,8].length) 2]),(9,.agg #[.int .i64 0,.slice (some ⟨(E 3),0,none⟩) ([9,7].length) 2]),_] _ [_]
 refine Q4Q (.sli 2 QR none 0 ([] : List Qr)) (fun _ _ _=>Q5n) (Q2k [] [0,1,2,3,4] [3,0,1] Z Z Z Zq Z Z fn_20 Z (Q74 N none 0 ([] : List Qr) a0 a1 v4 0 (some ⟨(E 1),0,none⟩) 2 [9,8] 0 (some ⟨(E 3),0,none⟩) 2 [9,7] _ e7) (fun F w hφ hh=>(Qh (hφ _ (Qu (k:=0) Z)) (Qh (Q1n (hh _ (Qu (k:=0) Z))) (Qh (Q1n (hh _ (Qu (k:=1) Z))) (Qh (Q1n (hh _ (Qu (k:=2) Z))) (Qh (hφ _ (Qu (k:=1) Z)) Qv)))))) (fun _ _ _ hR=>by obtain ⟨rfl,rfl,rfl⟩:=hR; exact ⟨Z,(fun _ h=>Q1O h)⟩) Z Z (H':=V5 ..) Z ?_)
 rintro _ _ _ ⟨rfl,rfl,rfl⟩
 refine Qz (d:=10) (v':=.bool true) (S':=V4 ..) Z Z (Q16 d5) (Q3 ?_)
 exact Q1M (k:=5) default [0] [2,3,4] Z Z Z Z
 intro E C
 show WL _ C _ _ [.sli 2 QR none 0 ([] : List Qr),_] (V3 ..) [(10,.bool true),_] _ [_]
 refine wP Z (Q3 ?_)
 exact Q1M (k:=6) default [] [0,1,2] Z Z Z Z
 intro E C
 show WL _ C _ _ [_] (V3 ..) [(11,.bool false),_] _ [_]
 refine wP Z (Q3 ?_)
 exact Q1M (k:=7) default [] [0,1,2] Z Z Z Z
 intro E C
 show WL _ C _ _ [_] (V3 ..) [(12,.bool false),_] _ [_]
 refine Q1V 0 0 Z Z Z Zq Z Z Z (cs:=[_,_]) Z Q6s Q7a Z Z (Q3 ?_)
 exact Q1M (k:=8) default [] [0,1,2] Z Z Z Z
 intro E C
 show WL _ C _ _ [_] (V3 ..) [(12,.bool false),_] _ [_]
 refine QE Z Z Z Zq Z Q1j Q1w Q7g Z (zs:=[.int .i64 0,.int .i64 0]) (by kernel_rfl) Z (out:=[_,_]) Z (fun eH=>(Q3 ?_))
 exact Q1M (k:=9) eH [] [0,1,2,3] Z Z Z Z
 intro E C
 show WL _ C _ _ [_] [.blk (E 9) [.int .i64 9,.int .i64 8] 3,_,_,_] [(12,.bool false),(14,.slice (some ⟨(E 9),0,none⟩) 2 2),_] _ [_]
 refine Q3V (sz:=1) (m:=2) Qi ([9,8]) 0 Z (fun F w hφ=>⟨[.int .i64 9],[.int .i64 8],Z,Z,⟨(),Z,Qv⟩,⟨[.int .i64 8],[],Z,Z,⟨(),Z,Qv⟩,Z⟩⟩) Z (by decide) (H':=V4 ..) Z (wC [0] [1,2,3] Z Q6O Z (Q10 N 0 ⟨(E 9),0,none⟩ ([9,8].length) 2 [9,8] e8) (asK [0] Z) Z (H':=V3 ..) Z ?_)
 rintro _ _ _ ⟨rfl,rfl,rfl⟩
 refine Q3 ?_
 exact Q1M (k:=10) default [] [0,1,2,3] Z Z Z Z
 intro E C
 show WL _ C _ _ [_] (V3 ..) [(12,.bool false),_] _ [_]
 refine QE Z Z Z Zq Z Q1j Q1w Q7g Z (zs:=[.int .i64 0]) (by kernel_rfl) Z (out:=[_]) Z (fun eI=>(Q3 ?_))
 exact Q1M (k:=11) eI [] [0,1,2,3] Z Z Z Z
 intro E C
 show WL _ C _ _ [_] [.blk (E 11) [.int .i64 9] 3,_,_,_] [(12,.bool false),(16,.slice (some ⟨(E 11),0,none⟩) 1 1),_] _ [_]
 refine Q3V (sz:=1) (m:=1) Qi [9] 0 Z (fun F w hφ=>⟨[.int .i64 9],[],Z,Z,⟨(),Z,Qv⟩,Z⟩) Z (by decide) (H':=V4 ..) Z (wC [0] [1,2,3] Z Q6O Z (Q10 N 0 ⟨(E 11),0,none⟩ ([9].length) 1 [9] e9) (asK [0] Z) Z (H':=V3 ..) Z ?_)
 rintro _ _ _ ⟨rfl,rfl,rfl⟩
 refine Q3 ?_
 exact Q1M (k:=12) default [] [0,1,2,3] Z Z Z Z
 intro E C
 show WL _ C _ _ [_] [.own 3 1 Qi (.slice (some ⟨(E 9),0,none⟩) ([9,8].length) 2) ([9,8]),.own 3 1 Qi (.slice (some ⟨(E 11),0,none⟩) [9].length 1) [9],_,_,_] [(12,.bool false),(13,.agg #[V1,.slice a0 v4.length a1]),(15,.agg #[.int .i64 0,.slice (some ⟨(E 9),0,none⟩) ([9,8].length) 2]),(17,.agg #[.int .i64 0,.slice (some ⟨(E 11),0,none⟩) [9].length 1]),_] _ [_]
 refine Q4Q (.sli 2 QR none 0 ([] : List Qr)) (fun _ _ _=>Q5n) (Q2k [] [0,1,2,3,4] [3,0,1] Z Z Z Zq Z Z fn_20 Z (Q74 N none 0 ([] : List Qr) a0 a1 v4 0 (some ⟨(E 9),0,none⟩) 2 [9,8] 0 (some ⟨(E 11),0,none⟩) 1 [9] _ eA) (fun F w hφ hh=>(Qh (hφ _ (Qu (k:=0) Z)) (Qh (Q1n (hh _ (Qu (k:=0) Z))) (Qh (Q1n (hh _ (Qu (k:=1) Z))) (Qh (Q1n (hh _ (Qu (k:=2) Z))) (Qh (hφ _ (Qu (k:=1) Z)) Qv)))))) (fun _ _ _ hR=>by obtain ⟨rfl,rfl,rfl⟩:=hR; exact ⟨Z,(fun _ h=>Q1O h)⟩) Z Z (H':=V5 ..) Z ?_)
 rintro _ _ _ ⟨rfl,rfl,rfl⟩
 refine Qz (d:=18) (v':=.bool true) (S':=V5 ..) Z Z (Q16 d6) (Q3 ?_)
 exact Q1M (k:=13) default [0] [2,3,4] Z Z Z Z
 intro E C
 show WL _ C _ _ [.sli 2 QR none 0 ([] : List Qr),_] (V3 ..) [(12,.bool false),(18,.bool true),_] _ [_]
 refine wP Z (Q3 ?_)
 exact Q1M (k:=14) default [] [0,1,2] Z Z Z Z
 intro E C
 show WL _ C _ _ [_] (V3 ..) [(12,.bool false),(19,.bool false),_] _ [_]
 refine wP Z (Q3 ?_)
 exact Q1M (k:=15) default [] [0,1,2] Z Z Z Z
 intro E C
 show WL _ C _ _ [_] (V3 ..) [(20,.bool false),_] _ [_]
 refine wP Z (Q3 ?_)
 exact Q1M (k:=16) default [] [0,1,2] Z Z Z Z
 intro E C
 show WL _ C _ _ [_] (V3 ..) [(21,.bool false),_] _ [_]
 refine Q1V 0 0 Z Z Z Zq Z Z Z (cs:=[_,_]) Z Q6s Q7a Z Z (Q3 ?_)
 exact Q1M (k:=17) default [] [0,1,2] Z Z Z Z
 intro E C
 show WL _ C _ _ [_] (V3 ..) [(21,.bool false),_] _ [_]
 refine QE Z Z Z Zq Z Q1j Q1w Q7g Z (zs:=[.int .i64 0]) (by kernel_rfl) Z (out:=[_]) Z (fun eJ=>(Q3 ?_))
 exact Q1M (k:=18) eJ [] [0,1,2,3] Z Z Z Z
 intro E C
 show WL _ C _ _ [_] [.blk (E 18) [.int .i64 1] 3,_,_,_] [(21,.bool false),(23,.slice (some ⟨(E 18),0,none⟩) 1 1),_] _ [_]
 refine Q3V (sz:=1) (m:=1) Qi [1] 0 Z (fun F w hφ=>⟨[.int .i64 1],[],Z,Z,⟨(),Z,Qv⟩,Z⟩) Z (by decide) (H':=V4 ..) Z (wC [0] [1,2,3] Z Q6O Z (Q10 N 1 ⟨(E 18),0,none⟩ ([1].length) 1 [1] eB) (asK [0] Z) Z (H':=V3 ..) Z ?_)
 rintro _ _ _ ⟨rfl,rfl,rfl⟩
 refine Q3 ?_
 exact Q1M (k:=19) default [] [0,1,2,3] Z Z Z Z
 intro E C
 show WL _ C _ _ [_] (V3 ..) [(21,.bool false),_] _ [_]
 refine QE Z Z Z Zq Z Q1j Q1w Q7g Z (zs:=[.int .i64 0,.int .i64 0]) (by kernel_rfl) Z (out:=[_,_]) Z (fun eK=>(Q3 ?_))
 exact Q1M (k:=20) eK [] [0,1,2,3] Z Z Z Z
 intro E C
 show WL _ C _ _ [_] [.blk (E 20) [.int .i64 9,.int .i64 8] 3,_,_,_] [(21,.bool false),(25,.slice (some ⟨(E 20),0,none⟩) 2 2),_] _ [_]
 refine Q3V (sz:=1) (m:=2) Qi ([9,8]) 0 Z (fun F w hφ=>⟨[.int .i64 9],[.int .i64 8],Z,Z,⟨(),Z,Qv⟩,⟨[.int .i64 8],[],Z,Z,⟨(),Z,Qv⟩,Z⟩⟩) Z (by decide) (H':=V4 ..) Z (wC [0] [1,2,3] Z Q6O Z (Q10 N 0 ⟨(E 20),0,none⟩ ([9,8].length) 2 [9,8] eC) (asK [0] Z) Z (H':=V3 ..) Z ?_)
 rintro _ _ _ ⟨rfl,rfl,rfl⟩
 refine Q3 ?_
 exact Q1M (k:=21) default [] [0,1,2,3] Z Z Z Z
 intro E C
 show WL _ C _ _ [_] [.own 3 1 Qi (.slice (some ⟨(E 18),0,none⟩) [1].length 1) [1],.own 3 1 Qi (.slice (some ⟨(E 20),0,none⟩) ([9,8].length) 2) ([9,8]),_,_,_] [(21,.bool false),(22,.agg #[V1,.slice a0 v4.length a1]),(24,.agg #[.int .i64 1,.slice (some ⟨(E 18),0,none⟩) [1].length 1]),(26,.agg #[.int .i64 0,.slice (some ⟨(E 20),0,none⟩) ([9,8].length) 2]),_] _ [_]
 refine Q4Q (.sli 2 QR none 0 ([] : List Qr)) (fun _ _ _=>Q5n) (Q2k [] [0,1,2,3,4] [3,0,1] Z Z Z Zq Z Z fn_20 Z (Q74 N none 0 ([] : List Qr) a0 a1 v4 1 (some ⟨(E 18),0,none⟩) 1 [1] 0 (some ⟨(E 20),0,none⟩) 2 [9,8] _ eD) (fun F w hφ hh=>(Qh (hφ _ (Qu (k:=0) Z)) (Qh (Q1n (hh _ (Qu (k:=0) Z))) (Qh (Q1n (hh _ (Qu (k:=1) Z))) (Qh (Q1n (hh _ (Qu (k:=2) Z))) (Qh (hφ _ (Qu (k:=1) Z)) Qv)))))) (fun _ _ _ hR=>by obtain ⟨rfl,rfl,rfl⟩:=hR; exact ⟨Z,(fun _ h=>Q1O h)⟩) Z Z (H':=V5 ..) Z ?_)
 rintro _ _ _ ⟨rfl,rfl,rfl⟩
 refine Qz (d:=27) (v':=.bool true) (S':=V5 ..) Z Z (Q16 d7) (Q3 ?_)
 exact Q1M (k:=22) default [0] [2,3,4] Z Z Z Z
 intro E C
 show WL _ C _ _ [.sli 2 QR none 0 ([] : List Qr),_] (V3 ..) [(21,.bool false),(27,.bool true),_] _ [_]
 refine wP Z (Q3 ?_)
 exact Q1M (k:=23) default [] [0,1,2] Z Z Z Z
 intro E C
 show WL _ C _ _ [_] (V3 ..) [(21,.bool false),(28,.bool false),_] _ [_]
 refine wP Z (Q3 ?_)
 exact Q1M (k:=24) default [] [0,1,2] Z Z Z Z
 intro E C
 show WL _ C _ _ [_] (V3 ..) [(29,.bool false),_] _ [_]
 refine wP Z (Q3 ?_)
 exact Q1M (k:=25) default [] [0,1,2] Z Z Z Z
 intro E C
 show WL _ C _ _ [_] (V3 ..) [(30,.bool false),_] _ [_]
 refine Q1V 0 0 Z Z Z Zq Z Z Z (cs:=[_,_]) Z Q6s Q7a Z Z (Q3 ?_)
 exact Q1M (k:=26) default [] [0,1,2] Z Z Z Z
 intro E C
 show WL _ C _ _ [_] (V3 ..) [(30,.bool false),_] _ [_]
 refine QE Z Z Z Zq Z Q1j Q1w Q7g Z (zs:=[.int .i64 0,.int .i64 0]) (by kernel_rfl) Z (out:=[_,_]) Z (fun eL=>(Q3 ?_))
 exact Q1M (k:=27) eL [] [0,1,2,3] Z Z Z Z
 intro E C
 show WL _ C _ _ [_] [.blk (E 27) [.int .i64 8,.int .i64 9] 3,_,_,_] [(30,.bool false),(32,.slice (some ⟨(E 27),0,none⟩) 2 2),_] _ [_]
 refine Q3V (sz:=1) (m:=2) Qi ([8,9]) 0 Z (fun F w hφ=>⟨[.int .i64 8],[.int .i64 9],Z,Z,⟨(),Z,Qv⟩,⟨[.int .i64 9],[],Z,Z,⟨(),Z,Qv⟩,Z⟩⟩) Z (by decide) (H':=V4 ..) Z (wC [0] [1,2,3] Z Q6O Z (Q10 N 0 ⟨(E 27),0,none⟩ ([8,9].length) 2 [8,9] eE) (asK [0] Z) Z (H':=V3 ..) Z ?_)
 rintro _ _ _ ⟨rfl,rfl,rfl⟩
 refine Q3 ?_
 exact Q1M (k:=28) default [] [0,1,2,3] Z Z Z Z
 intro E C
 show WL _ C _ _ [_] (V3 ..) [(30,.bool false),_] _ [_]
 refine QE Z Z Z Zq Z Q1j Q1w Q7g Z (zs:=[.int .i64 0,.int .i64 0]) (by kernel_rfl) Z (out:=[_,_]) Z (fun eM=>(Q3 ?_))
 exact Q1M (k:=29) eM [] [0,1,2,3] Z Z Z Z
 intro E C
 show WL _ C _ _ [_] [.blk (E 29) [.int .i64 9,.int .i64 8] 3,_,_,_] [(30,.bool false),(34,.slice (some ⟨(E 29),0,none⟩) 2 2),_] _ [_]
 refine Q3V (sz:=1) (m:=2) Qi ([9,8]) 0 Z (fun F w hφ=>⟨[.int .i64 9],[.int .i64 8],Z,Z,⟨(),Z,Qv⟩,⟨[.int .i64 8],[],Z,Z,⟨(),Z,Qv⟩,Z⟩⟩) Z (by decide) (H':=V4 ..) Z (wC [0] [1,2,3] Z Q6O Z (Q10 N 0 ⟨(E 29),0,none⟩ ([9,8].length) 2 [9,8] eF) (asK [0] Z) Z (H':=V3 ..) Z ?_)
 rintro _ _ _ ⟨rfl,rfl,rfl⟩
 refine Q3 ?_
 exact Q1M (k:=30) default [] [0,1,2,3] Z Z Z Z
 intro E C
 show WL _ C _ _ [_] [.own 3 1 Qi (.slice (some ⟨(E 27),0,none⟩) ([8,9].length) 2) ([8,9]),.own 3 1 Qi (.slice (some ⟨(E 29),0,none⟩) ([9,8].length) 2) ([9,8]),_,_,_] [(30,.bool false),(31,.agg #[V1,.slice a0 v4.length a1]),(33,.agg #[.int .i64 0,.slice (some ⟨(E 27),0,none⟩) ([8,9].length) 2]),(35,.agg #[.int .i64 0,.slice (some ⟨(E 29),0,none⟩) ([9,8].length) 2]),_] _ [_]
 refine Q4Q (.sli 2 QR none 0 ([] : List Qr)) (fun _ _ _=>Q5n) (Q2k [] [0,1,2,3,4] [3,0,1] Z Z Z Zq Z Z fn_20 Z (Q74 N none 0 ([] : List Qr) a0 a1 v4 0 (some ⟨(E 27),0,none⟩) 2 [8,9] 0 (some ⟨(E 29),0,none⟩) 2 [9,8] _ eG) (fun F w hφ hh=>(Qh (hφ _ (Qu (k:=0) Z)) (Qh (Q1n (hh _ (Qu (k:=0) Z))) (Qh (Q1n (hh _ (Qu (k:=1) Z))) (Qh (Q1n (hh _ (Qu (k:=2) Z))) (Qh (hφ _ (Qu (k:=1) Z)) Qv)))))) (fun _ _ _ hR=>by obtain ⟨rfl,rfl,rfl⟩:=hR; exact ⟨Z,(fun _ h=>Q1O h)⟩) Z Z (H':=V5 ..) Z ?_)
 rintro _ _ _ ⟨rfl,rfl,rfl⟩
 refine Qz (d:=36) (v':=.bool true) (S':=V5 ..) Z Z (Q16 d8) (Q3 ?_)
 exact Q1M (k:=31) default [0] [2,3,4] Z Z Z Z
 intro E C
 show WL _ C _ _ [.sli 2 QR none 0 ([] : List Qr),_] (V3 ..) [(30,.bool false),(36,.bool true),_] _ [_]
 refine wP Z (Q3 ?_)
 exact Q1M (k:=32) default [] [0,1,2] Z Z Z Z
 intro E C
 show WL _ C _ _ [_] (V3 ..) [(30,.bool false),(37,.bool false),_] _ [_]
 refine wP Z (Q3 ?_)
 exact Q1M (k:=33) default [] [0,1,2] Z Z Z Z
 show WE _ _ _ [.sli 2 QR none 0 ([] : List Qr),.sli 2 QR none 0 ([] : List Qr),.sli 2 QR none 0 ([] : List Qr),.sli 2 QR none 0 ([] : List Qr),_] (V3 ..) [(5,.agg #[V1,.slice a0 v4.length a1]),(6,.slice (some ⟨(E 1),0,none⟩) 2 2),(7,.agg #[.int .i64 0,.slice (some ⟨(E 1),0,none⟩) ([9,8].length) 2]),(8,.slice (some ⟨(E 3),0,none⟩) 2 2),(9,.agg #[.int .i64 0,.slice (some ⟨(E 3),0,none⟩) ([9,7].length) 2]),(10,.bool true),(11,.bool false),(12,.bool false),(13,.agg #[V1,.slice a0 v4.length a1]),(14,.slice (some ⟨(E 9),0,none⟩) 2 2),(15,.agg #[.int .i64 0,.slice (some ⟨(E 9),0,none⟩) ([9,8].length) 2]),(16,.slice (some ⟨(E 11),0,none⟩) 1 1),(17,.agg #[.int .i64 0,.slice (some ⟨(E 11),0,none⟩) [9].length 1]),(18,.bool true),(19,.bool false),(20,.bool false),(21,.bool false),(22,.agg #[V1,.slice a0 v4.length a1]),(23,.slice (some ⟨(E 18),0,none⟩) 1 1),(24,.agg #[.int .i64 1,.slice (some ⟨(E 18),0,none⟩) [1].length 1]),(25,.slice (some ⟨(E 20),0,none⟩) 2 2),(26,.agg #[.int .i64 0,.slice (some ⟨(E 20),0,none⟩) ([9,8].length) 2]),(27,.bool true),(28,.bool false),(29,.bool false),(30,.bool false),(31,.agg #[V1,.slice a0 v4.length a1]),(32,.slice (some ⟨(E 27),0,none⟩) 2 2),(33,.agg #[.int .i64 0,.slice (some ⟨(E 27),0,none⟩) ([8,9].length) 2]),(34,.slice (some ⟨(E 29),0,none⟩) 2 2),(35,.agg #[.int .i64 0,.slice (some ⟨(E 29),0,none⟩) ([9,8].length) 2]),(36,.bool true),(37,.bool false),(38,.bool false),_] .normal
 generalize (E 9) = eH
 generalize (E 11) = eI
 generalize (E 18) = eJ
 generalize (E 20) = eK
 generalize (E 27) = eL
 generalize (E 29) = eM
 generalize (E 1) = g6
 generalize (E 3) = g8
 refine Q4 (Q5 [38,1] (S':=[_,_]) Z (Q4q Z (Q5 [1] (S':=[_]) Z (Qs (Q4 (Q6 (Q2 (Q1V 0 0 Z Z Z Zq Z Z Z (cs:=[_,_]) Z Q6s Q7a Z Z (Q4Q (.sli 2 QR none 0 ([] : List Qr)) (fun _ _ _=>Q5n) ?_)))))))))
 obtain ⟨_ | fQ,eN,hm⟩:=Q7 hm
 ·
  try dsimp only at hm
  cases hm
 try dsimp only at hm
 refine wC [1] [0,2] Z fn_7 Z (Q8K N none 0 ([] : List Qr) a0 v4.length a1 v4 _ eN) (asK [0,5] Z) Z (H':=[_,_]) Z ?_
 rintro _ _ _ ⟨a2,a3,a4,a5,d9,rfl,rfl,rfl⟩
 refine wP Z (Q3 (Q4 (Q5 [2] (S':=[_]) Z (Q6 (Q6 (Q2 (wP Z (QE Z Z Z Zq Z Q1j Q1w Q7g Z (zs:=[.int .i64 0]) (by kernel_rfl) Z (out:=[_]) Z (fun aC=>(Q3V (sz:=1) (m:=1) Qi [1] 0 Z (fun F w hφ=>⟨[.int .i64 1],[],Z,Z,⟨(),Z,Qv⟩,Z⟩) Z (by decide) (H':=V7 ..) Z ?_))))))))))
 obtain ⟨_,eO,hm⟩:=Q7 hm
 try dsimp only at hm
 refine wC [0] [1,2,3,4,5,6] Z Q6O Z (Q10 N 0 ⟨aC,0,none⟩ ([1].length) 1 [1] eO) (asK [5] Z) Z (H':=V6 ..) Z ?_
 rintro _ _ _ ⟨rfl,rfl,rfl⟩
 refine QE Z Z Z Zq Z Q1j Q1w Q7g Z (zs:=[.int .i64 0]) (by kernel_rfl) Z (out:=[_]) Z (fun aF=>(Q3V (sz:=1) (m:=1) Qi [1] 0 Z (fun F w hφ=>⟨[.int .i64 1],[],Z,Z,⟨(),Z,Qv⟩,Z⟩) Z (by decide) (H':=V8 ..) Z ?_))
 obtain ⟨_,eP,hm⟩:=Q7 hm
 try dsimp only at hm
 refine wC [0] [1,2,3,4,5,6,7] Z Q6O Z (Q10 N 1 ⟨aF,0,none⟩ ([1].length) 1 [1] eP) (asK [5] Z) Z (H':=V7 ..) Z ?_
 rintro _ _ _ ⟨rfl,rfl,rfl⟩
 refine QE Z Z Z Zq Z QB Qe Q42 Z (zs:=[.int .i64 0,V1,.int .i64 0,V1]) (by kernel_rfl) Z (out:=V4 ..) Z (fun c9=>(Q84 45 2 Q9 (Q84 45 2 Q9 (Q3V (sz:=2) (m:=2) Qb.pair ([((⟨0,[1]⟩ : Q1),(some (⟨aC,0,none⟩ : Addr),1)),((⟨1,[1]⟩ : Q1),(some (⟨aF,0,none⟩ : Addr),1))]) 2 Z (fun F w hφ=>⟨[.int .i64 0,.slice (some ⟨aC,0,none⟩) [1].length 1],[.int .i64 1,.slice (some ⟨aF,0,none⟩) [1].length 1],Z,Z,Z,⟨[.int .i64 1,.slice (some ⟨aF,0,none⟩) [1].length 1],[],Z,Z,Z,Z⟩⟩) Z (by decide) (H':=V11 ..) Z (Q2x [Q2j Qb [] none,_,_,_,_,_,_,_,_,_,_,_] (fun _ h=>h.bagNil Qb) (Q55 [5,0,1,2,3,4,6,7,8,9,10,11] Z (H':=V12 ..) Z (Q2x [Q2j Qb ([((⟨0,[1]⟩ : Q1),(some (⟨aC,0,none⟩ : Addr),1))]) none,_,_,_,_,_,_,_,_,_,_] (fun _ h=>QY.bagPush (T:=Qb) (x:=(⟨0,[1]⟩ : Q1)) (r:=(some (⟨aC,0,none⟩ : Addr),1)) (zs:=[]) (H:=V11 ..) h 0 Z) (Q55 [4,0,1,2,3,5,6,7,8,9,10] Z (H':=V11 ..) Z (Q2x [Q2j Qb (([((⟨0,[1]⟩ : Q1),(some (⟨aC,0,none⟩ : Addr),1))]) ++ [((⟨1,[1]⟩ : Q1),(some (⟨aF,0,none⟩ : Addr),1))]) none,_,_,_,_,_,_,_,_,_] (fun _ h=>QY.bagPush (T:=Qb) (x:=(⟨1,[1]⟩ : Q1)) (r:=(some (⟨aF,0,none⟩ : Addr),1)) (zs:=[((⟨0,[1]⟩ : Q1),(some (⟨aC,0,none⟩ : Addr),1))]) (H:=V10 ..) h 0 Z) (Q28 0 (φ':=Q2j Qb ([((⟨0,[1]⟩ : Q1),(some (⟨aC,0,none⟩ : Addr),1)),((⟨1,[1]⟩ : Q1),(some (⟨aF,0,none⟩ : Addr),1))]) none) Z Z (H':=V10 ..) Z (Q2x [_,_,Q1l Qb 45 2 (.slice (some ⟨c9,0,none⟩) 2 2) ([(⟨0,[1]⟩ : Q1),(⟨1,[1]⟩ : Q1)]),_,_,_,_,_,_] (fun _ h=>h.treeIn 3 0 Z Z Z Z) (Q2o 2 Z (fun d3 _=>(Q4F 0 (v':=.slice (some ⟨c9,0,none⟩) ([(⟨0,[1]⟩ : Q1),(⟨1,[1]⟩ : Q1)].length) 2) Z (by rw [d3]) (Q28 2 (φ':=Q1l Qb 45 2 (.slice (some ⟨c9,0,none⟩) ([(⟨0,[1]⟩ : Q1),(⟨1,[1]⟩ : Q1)].length) 2) ([(⟨0,[1]⟩ : Q1),(⟨1,[1]⟩ : Q1)])) Z (by rw [d3]) (H':=V9 ..) Z ?_)))))))))))))))
 obtain ⟨⟨bA,bB,bC,bD,bE⟩,eQ,hm⟩:=Q7 hm
 try dsimp only at hm
 refine wC [3,4,1,0,5,2] [6,7,8] Z fn_21 Z (Q41 N a2 a3 a5 a4 fQ none 0 0 [] none 0 0 [] d9 ([] : List (ByteArray × Bool)) (some ⟨c9,0,none⟩) ([(⟨0,[1]⟩ : Q1),(⟨1,[1]⟩ : Q1)].length) 2 [(⟨0,[1]⟩ : Q1),(⟨1,[1]⟩ : Q1)] _ _ _ _ _ eQ) (asK [5] Z) Z (H':=V3 ..) Z ?_
 rintro _ _ _ ⟨bF,bG,bH,bI,bJ,bK,a8,rfl,rfl,rfl⟩
 refine wP Z (Qz (d:=48) (v':=.bool (bA != 0)) (S':=V8 ..) Z Z (natne (a:=bA) (b:=0)) ?_)
 obtain ⟨dA,hm⟩:=Qd hm
 refine Qz (d:=48) (v':=.bool false) (S':=V8 ..) Z Z (Q16 dA) (wP Z (wP Z (QE Z Z Z Zq Z Q1j Q1w Q7g Z (zs:=[.int .i64 0]) (by kernel_rfl) Z (out:=[_]) Z (fun eR=>(Q3V (sz:=1) (m:=1) Qi [1] 0 Z (fun F w hφ=>⟨[.int .i64 1],[],Z,Z,⟨(),Z,Qv⟩,Z⟩) Z (by decide) (H':=V10 ..) Z ?_)))))
 obtain ⟨_,eS,hm⟩:=Q7 hm
 try dsimp only at hm
 refine wC [0] [1,2,3,4,5,6,7,8,9] Z Q6O Z (Q10 N 1 ⟨eR,0,none⟩ ([1].length) 1 [1] eS) (asK [5] Z) Z (H':=V9 ..) Z ?_
 rintro _ _ _ ⟨rfl,rfl,rfl⟩
 obtain ⟨g9,eT,hm⟩:=Q7 hm
 refine wC [1,2,3,4,5,0] [6,7,8,9] Z fn_22 Z (Q5e N a2 a3 a5 a4 bB bF bH bG bC bI bK bJ bD a8 bE 1 ⟨eR,0,none⟩ ([1].length) 1 [1] _ eT) (asK [5] Z) Z (H':=V4 ..) Z ?_
 rintro _ _ _ ⟨rfl,rfl,rfl⟩
 obtain ⟨dB,hm⟩:=Qd hm
 refine Qz (d:=53) (v':=.bool true) (S':=V13 ..) Z Z (Q16 dB) (wP Z (wP Z (wP Z (wP Z (QE Z Z Z Zq Z Q1j Q1w Q7g Z (zs:=[.int .i64 0]) (by kernel_rfl) Z (out:=[_]) Z (fun dC=>(Q3V (sz:=1) (m:=1) Qi [1] 0 Z (fun F w hφ=>⟨[.int .i64 1],[],Z,Z,⟨(),Z,Qv⟩,Z⟩) Z (by decide) (H':=V11 ..) Z ?_)))))))
 obtain ⟨_,eU,hm⟩:=Q7 hm
 try dsimp only at hm
 refine wC [0] [1,2,3,4,5,6,7,8,9,10] Z Q6O Z (Q10 N 1 ⟨dC,0,none⟩ ([1].length) 1 [1] eU) (asK [5] Z) Z (H':=V10 ..) Z ?_
 rintro _ _ _ ⟨rfl,rfl,rfl⟩
 obtain ⟨⟨bL,aG,aH,aI,aJ⟩,eV,hm⟩:=Q7 hm
 try dsimp only at hm
 refine wC [1,2,3,4,5,0] [6,7,8,9,10] Z fn_23 Z (Q7i N a2 a3 a5 a4 bB bF bH bG bC bI bK bJ bD a8 bE 1 ⟨dC,0,none⟩ ([1].length) 1 [1] _ _ _ _ _ eV) (asK [5] Z) Z (H':=V5 ..) Z ?_
 rintro _ _ _ ⟨aK,aL,aM,aN,aO,aP,rfl,rfl,rfl⟩
 obtain ⟨bM,hm⟩:=Qd hm
 refine Q4F 2 (v':=.slice (some ⟨dC,0,none⟩) [1].length 1) Z (by rw [bM]) (wP Z (Qz (d:=61) (v':=.bool (bL != 0)) (S':=V21 ..) Z Z (natne (a:=bL) (b:=0)) ?_))
 obtain ⟨dD,hm⟩:=Qd hm
 refine Qz (d:=61) (v':=.bool false) (S':=V21 ..) Z Z (Q16 dD) (wP Z (wP Z (wP Z (QE Z Z Z Zq Z Q1j Q1w Q7g Z (zs:=[.int .i64 0]) (by kernel_rfl) Z (out:=[_]) Z (fun eW=>(Q3V (sz:=1) (m:=1) Qi [1] 0 Z (fun F w hφ=>⟨[.int .i64 1],[],Z,Z,⟨(),Z,Qv⟩,Z⟩) Z (by decide) (H':=V12 ..) Z ?_))))))
 obtain ⟨_,eX,hm⟩:=Q7 hm
 try dsimp only at hm
 refine wC [0] [1,2,3,4,5,6,7,8,9,10,11] Z Q6O Z (Q10 N 0 ⟨eW,0,none⟩ ([1].length) 1 [1] eX) (asK [5] Z) Z (H':=V11 ..) Z ?_
 rintro _ _ _ ⟨rfl,rfl,rfl⟩
 obtain ⟨gA,eY,hm⟩:=Q7 hm
 refine wC [1,2,3,4,5,0] [6,7,8,9,10,11] Z fn_22 Z (Q5e N a2 a3 a5 a4 aG aK aM aL aH aN aP aO aI a8 aJ 0 ⟨eW,0,none⟩ ([1].length) 1 [1] _ eY) (asK [5] Z) Z (H':=V6 ..) Z ?_
 rintro _ _ _ ⟨rfl,rfl,rfl⟩
 obtain ⟨dE,hm⟩:=Qd hm
 refine Qz (d:=67) (v':=.bool true) (S':=V27 ..) Z Z (Q16 dE) (wP Z (wP Z (wP Z (wP Z ?_))))
 obtain ⟨eZ,f0,hm⟩:=Q7 hm
 refine wC [0,1,2,3,4] [5,6,7,8,9,10,11] Z fn_15 Z (Q50 N a2 a3 a5 a4 aG aK aM aL aH aN aP aO aI a8 aJ _ f0) (asK [5] Z) Z (H':=V7 ..) Z ?_
 rintro _ _ _ ⟨fR,fS,fT,rfl,rfl,rfl⟩
 refine Q2o 0 Z (fun f1 _=>?_)
 subst f1
 refine wN Z QB (wP Z (Qz (d:=74) (v':=.bool (eZ.length != 1)) (S':=V34 ..) Z Z (natne (a:=eZ.length) (b:=1)) ?_))
 obtain ⟨dF,hm⟩:=Qd hm
 refine Qz (d:=74) (v':=.bool false) (S':=V34 ..) Z Z (Q16 dF) (wP Z (Q3 (Q4 (Q5 [75,2] (S':=[_,_]) Z (Q4q Z (Q5 [2] (S':=[_]) Z (Qs (Q4 (Q6 (Q6 (Q2 (wP Z (QE Z Z Z Zq Z Q1j Q1w Q7g Z (zs:=[.int .i64 0]) (by kernel_rfl) Z (out:=[_]) Z (fun aD=>?_))))))))))))))
 refine Q3V (sz:=1) (m:=1) Qi [1] 0 Z (fun F w hφ=>⟨[.int .i64 1],[],Z,Z,⟨(),Z,Qv⟩,Z⟩) Z (by decide) (H':=V14 ..) Z ?_
 obtain ⟨_,f2,hm⟩:=Q7 hm
 try dsimp only at hm
 refine wC [0] [1,2,3,4,5,6,7,8,9,10,11,12,13] Z Q6O Z (Q10 N 1 ⟨aD,0,none⟩ ([1].length) 1 [1] f2) (asK [5] Z) Z (H':=V13 ..) Z ?_
 rintro _ _ _ ⟨rfl,rfl,rfl⟩
 refine QE Z Z Z Zq Z Q1j Q1w Q7g Z (zs:=[.int .i64 0]) (by kernel_rfl) Z (out:=[_]) Z (fun aQ=>(Q3V (sz:=1) (m:=1) Qi [1] 0 Z (fun F w hφ=>⟨[.int .i64 1],[],Z,Z,⟨(),Z,Qv⟩,Z⟩) Z (by decide) (H':=V15 ..) Z ?_))
 obtain ⟨_,f3,hm⟩:=Q7 hm
 try dsimp only at hm
 refine wC [0] [1,2,3,4,5,6,7,8,9,10,11,12,13,14] Z Q6O Z (Q10 N 0 ⟨aQ,0,none⟩ ([1].length) 1 [1] f3) (asK [5] Z) Z (H':=V14 ..) Z ?_
 rintro _ _ _ ⟨rfl,rfl,rfl⟩
 refine QE Z Z Z Zq Z QB Qe Q42 Z (zs:=[.int .i64 0,V1,.int .i64 0,V1]) (by kernel_rfl) Z (out:=V4 ..) Z (fun cA=>(Q3V (sz:=2) (m:=2) Qb.pair ([((⟨1,[1]⟩ : Q1),(some (⟨aD,0,none⟩ : Addr),1)),((⟨0,[1]⟩ : Q1),(some (⟨aQ,0,none⟩ : Addr),1))]) 0 Z (fun F w hφ=>⟨[.int .i64 1,.slice (some ⟨aD,0,none⟩) [1].length 1],[.int .i64 0,.slice (some ⟨aQ,0,none⟩) [1].length 1],Z,Z,Z,⟨[.int .i64 0,.slice (some ⟨aQ,0,none⟩) [1].length 1],[],Z,Z,Z,Z⟩⟩) Z (by decide) (H':=V16 ..) Z (Q2x [Q2j Qb [] none,_,_,_,_,_,_,_,_,_,_,_,_,_,_,_,_] (fun _ h=>h.bagNil Qb) (Q55 [3,0,1,2,4,5,6,7,8,9,10,11,12,13,14,15,16] Z (H':=V17 ..) Z (Q2x [Q2j Qb ([((⟨1,[1]⟩ : Q1),(some (⟨aD,0,none⟩ : Addr),1))]) none,_,_,_,_,_,_,_,_,_,_,_,_,_,_,_] (fun _ h=>QY.bagPush (T:=Qb) (x:=(⟨1,[1]⟩ : Q1)) (r:=(some (⟨aD,0,none⟩ : Addr),1)) (zs:=[]) (H:=V16 ..) h 0 Z) (Q55 [2,0,1,3,4,5,6,7,8,9,10,11,12,13,14,15] Z (H':=V16 ..) Z (Q2x [Q2j Qb (([((⟨1,[1]⟩ : Q1),(some (⟨aD,0,none⟩ : Addr),1))]) ++ [((⟨0,[1]⟩ : Q1),(some (⟨aQ,0,none⟩ : Addr),1))]) none,_,_,_,_,_,_,_,_,_,_,_,_,_,_] (fun _ h=>QY.bagPush (T:=Qb) (x:=(⟨0,[1]⟩ : Q1)) (r:=(some (⟨aQ,0,none⟩ : Addr),1)) (zs:=[((⟨1,[1]⟩ : Q1),(some (⟨aD,0,none⟩ : Addr),1))]) (H:=V15 ..) h 0 Z) (Q28 0 (φ':=Q2j Qb ([((⟨1,[1]⟩ : Q1),(some (⟨aD,0,none⟩ : Addr),1)),((⟨0,[1]⟩ : Q1),(some (⟨aQ,0,none⟩ : Addr),1))]) none) Z Z (H':=V15 ..) Z (Q2x [Q1l Qb 45 2 (.slice (some ⟨cA,0,none⟩) 2 2) ([(⟨1,[1]⟩ : Q1),(⟨0,[1]⟩ : Q1)]),_,_,_,_,_,_,_,_,_,_,_,_,_] (fun _ h=>h.treeIn 1 0 Z Z Z Z) (Q2o 0 Z (fun bN _=>(Q4F 0 (v':=.slice (some ⟨cA,0,none⟩) ([(⟨1,[1]⟩ : Q1),(⟨0,[1]⟩ : Q1)].length) 2) Z (by rw [bN]) (Q28 0 (φ':=Q1l Qb 45 2 (.slice (some ⟨cA,0,none⟩) ([(⟨1,[1]⟩ : Q1),(⟨0,[1]⟩ : Q1)].length) 2) ([(⟨1,[1]⟩ : Q1),(⟨0,[1]⟩ : Q1)])) Z (by rw [bN]) (H':=V14 ..) Z ?_)))))))))))))
 obtain ⟨⟨bO,bP,bQ,bR,bS⟩,f4,hm⟩:=Q7 hm
 try dsimp only at hm
 refine wC [2,3,4,5,6,0] [1,7,8,9,10,11,12,13] Z fn_21 Z (Q41 N a2 a3 a5 a4 aG aK aM aL aH aN aP aO aI a8 aJ (some ⟨cA,0,none⟩) ([(⟨1,[1]⟩ : Q1),(⟨0,[1]⟩ : Q1)].length) 2 [(⟨1,[1]⟩ : Q1),(⟨0,[1]⟩ : Q1)] _ _ _ _ _ f4) (asK [5] Z) Z (H':=V8 ..) Z ?_
 rintro _ _ _ ⟨bT,bU,bV,bW,bX,bY,bZ,rfl,rfl,rfl⟩
 refine wP Z (Qz (d:=83) (v':=.bool (bO != 0)) (S':=V8 ..) Z Z (natne (a:=bO) (b:=0)) ?_)
 obtain ⟨dG,hm⟩:=Qd hm
 refine Qz (d:=83) (v':=.bool false) (S':=V8 ..) Z Z (Q16 dG) (wP Z (wP Z (QE Z Z Z Zq Z Q1j Q1w Q7g Z (zs:=[.int .i64 0]) (by kernel_rfl) Z (out:=[_]) Z (fun f5=>(Q3V (sz:=1) (m:=1) Qi [1] 0 Z (fun F w hφ=>⟨[.int .i64 1],[],Z,Z,⟨(),Z,Qv⟩,Z⟩) Z (by decide) (H':=V15 ..) Z ?_)))))
 obtain ⟨_,f6,hm⟩:=Q7 hm
 try dsimp only at hm
 refine wC [0] [1,2,3,4,5,6,7,8,9,10,11,12,13,14] Z Q6O Z (Q10 N 0 ⟨f5,0,none⟩ ([1].length) 1 [1] f6) (asK [5] Z) Z (H':=V14 ..) Z ?_
 rintro _ _ _ ⟨rfl,rfl,rfl⟩
 obtain ⟨gB,f7,hm⟩:=Q7 hm
 refine wC [1,2,3,4,5,0] [6,7,8,9,10,11,12,13,14] Z fn_22 Z (Q5e N a2 a3 a5 a4 bP bT bV bU bQ bW bY bX bR bZ bS 0 ⟨f5,0,none⟩ ([1].length) 1 [1] _ f7) (asK [5] Z) Z (H':=V9 ..) Z ?_
 rintro _ _ _ ⟨rfl,rfl,rfl⟩
 obtain ⟨dH,hm⟩:=Qd hm
 refine Qz (d:=88) (v':=.bool true) (S':=V13 ..) Z Z (Q16 dH) (wP Z (wP Z (wP Z (wP Z (QE Z Z Z Zq Z Q1j Q1w Q7g Z (zs:=[.int .i64 0]) (by kernel_rfl) Z (out:=[_]) Z (fun c0=>(Q3V (sz:=1) (m:=1) Qi [1] 0 Z (fun F w hφ=>⟨[.int .i64 1],[],Z,Z,⟨(),Z,Qv⟩,Z⟩) Z (by decide) (H':=V16 ..) Z ?_)))))))
 obtain ⟨_,f8,hm⟩:=Q7 hm
 try dsimp only at hm
 refine wC [0] [1,2,3,4,5,6,7,8,9,10,11,12,13,14,15] Z Q6O Z (Q10 N 0 ⟨c0,0,none⟩ ([1].length) 1 [1] f8) (asK [5] Z) Z (H':=V15 ..) Z ?_
 rintro _ _ _ ⟨rfl,rfl,rfl⟩
 refine QE Z Z Z Zq Z QB Qe Q42 Z (zs:=[.int .i64 0,V1]) (by kernel_rfl) Z (out:=[_,_]) Z (fun cB=>(Q3V (sz:=2) (m:=1) Qb.pair ([((⟨0,[1]⟩ : Q1),(some (⟨c0,0,none⟩ : Addr),1))]) 0 Z (fun F w hφ=>⟨[.int .i64 0,.slice (some ⟨c0,0,none⟩) [1].length 1],[],Z,Z,Z,Z⟩) Z (by decide) (H':=V17 ..) Z (Q2x [Q2j Qb [] none,_,_,_,_,_,_,_,_,_,_,_,_,_,_,_,_,_] (fun _ h=>h.bagNil Qb) (Q55 [2,0,1,3,4,5,6,7,8,9,10,11,12,13,14,15,16,17] Z (H':=V18 ..) Z (Q2x [Q2j Qb ([((⟨0,[1]⟩ : Q1),(some (⟨c0,0,none⟩ : Addr),1))]) none,_,_,_,_,_,_,_,_,_,_,_,_,_,_,_,_] (fun _ h=>QY.bagPush (T:=Qb) (x:=(⟨0,[1]⟩ : Q1)) (r:=(some (⟨c0,0,none⟩ : Addr),1)) (zs:=[]) (H:=V17 ..) h 0 Z) (Q2x [Q1l Qb 45 2 (.slice (some ⟨cB,0,none⟩) 1 1) ([(⟨0,[1]⟩ : Q1)]),_,_,_,_,_,_,_,_,_,_,_,_,_,_,_] (fun _ h=>h.treeIn 1 0 Z Z Z Z) (Q2o 0 Z (fun c1 _=>(Q4F 0 (v':=.slice (some ⟨cB,0,none⟩) ([(⟨0,[1]⟩ : Q1)].length) 1) Z (by rw [c1]) (Q28 0 (φ':=Q1l Qb 45 2 (.slice (some ⟨cB,0,none⟩) ([(⟨0,[1]⟩ : Q1)].length) 1) ([(⟨0,[1]⟩ : Q1)])) Z (by rw [c1]) (H':=V16 ..) Z ?_))))))))))
 obtain ⟨⟨c2,dI,dJ,dK,dL⟩,f9,hm⟩:=Q7 hm
 try dsimp only at hm
 refine wC [1,2,3,4,5,0] [6,7,8,9,10,11,12,13,14,15] Z fn_21 Z (Q41 N a2 a3 a5 a4 bP bT bV bU bQ bW bY bX bR bZ bS (some ⟨cB,0,none⟩) ([(⟨0,[1]⟩ : Q1)].length) 1 [(⟨0,[1]⟩ : Q1)] _ _ _ _ _ f9) (asK [5] Z) Z (H':=V10 ..) Z ?_
 rintro _ _ _ ⟨dM,dN,dO,dP,dQ,dR,dS,rfl,rfl,rfl⟩
 refine wP Z (Qz (d:=97) (v':=.bool (c2 != 0)) (S':=V22 ..) Z Z (natne (a:=c2) (b:=0)) ?_)
 obtain ⟨dT,hm⟩:=Qd hm
 refine Qz (d:=97) (v':=.bool false) (S':=V22 ..) Z Z (Q16 dT) (wP Z (wP Z (wP Z (QE Z Z Z Zq Z Q1j Q1w Q7g Z (zs:=[.int .i64 0]) (by kernel_rfl) Z (out:=[_]) Z (fun a6=>(Q3V (sz:=1) (m:=1) Qi [1] 0 Z (fun F w hφ=>⟨[.int .i64 1],[],Z,Z,⟨(),Z,Qv⟩,Z⟩) Z (by decide) (H':=V17 ..) Z ?_))))))
 obtain ⟨_,dU,hm⟩:=Q7 hm
 try dsimp only at hm
 refine wC [0] [1,2,3,4,5,6,7,8,9,10,11,12,13,14,15,16] Z Q6O Z (Q10 N 0 ⟨a6,0,none⟩ ([1].length) 1 [1] dU) (asK [5] Z) Z (H':=V16 ..) Z ?_
 rintro _ _ _ ⟨rfl,rfl,rfl⟩
 refine QE Z Z Z Zq Z Q1j Q1w Q7g Z (zs:=[.int .i64 0]) (by kernel_rfl) Z (out:=[_]) Z (fun a9=>(Q3V (sz:=1) (m:=1) Qi [1] 0 Z (fun F w hφ=>⟨[.int .i64 1],[],Z,Z,⟨(),Z,Qv⟩,Z⟩) Z (by decide) (H':=V18 ..) Z ?_))
 obtain ⟨_,dV,hm⟩:=Q7 hm
 try dsimp only at hm
 refine wC [0] [1,2,3,4,5,6,7,8,9,10,11,12,13,14,15,16,17] Z Q6O Z (Q10 N 1 ⟨a9,0,none⟩ ([1].length) 1 [1] dV) (asK [5] Z) Z (H':=V17 ..) Z ?_
 rintro _ _ _ ⟨rfl,rfl,rfl⟩
 refine QE Z Z Z Zq Z QB Qe Q42 Z (zs:=[.int .i64 0,V1,.int .i64 0,V1]) (by kernel_rfl) Z (out:=V4 ..) Z (fun aR=>(Q3V (sz:=2) (m:=2) Qb.pair ([((⟨0,[1]⟩ : Q1),(some (⟨a6,0,none⟩ : Addr),1)),((⟨1,[1]⟩ : Q1),(some (⟨a9,0,none⟩ : Addr),1))]) 0 Z (fun F w hφ=>⟨[.int .i64 0,.slice (some ⟨a6,0,none⟩) [1].length 1],[.int .i64 1,.slice (some ⟨a9,0,none⟩) [1].length 1],Z,Z,Z,⟨[.int .i64 1,.slice (some ⟨a9,0,none⟩) [1].length 1],[],Z,Z,Z,Z⟩⟩) Z (by decide) (H':=V19 ..) Z (Q2x [Q2j Qb [] none,_,_,_,_,_,_,_,_,_,_,_,_,_,_,_,_,_,_,_] (fun _ h=>h.bagNil Qb) (Q55 [3,0,1,2,4,5,6,7,8,9,10,11,12,13,14,15,16,17,18,19] Z (H':=V20 ..) Z (Q2x [Q2j Qb ([((⟨0,[1]⟩ : Q1),(some (⟨a6,0,none⟩ : Addr),1))]) none,_,_,_,_,_,_,_,_,_,_,_,_,_,_,_,_,_,_] (fun _ h=>QY.bagPush (T:=Qb) (x:=(⟨0,[1]⟩ : Q1)) (r:=(some (⟨a6,0,none⟩ : Addr),1)) (zs:=[]) (H:=V19 ..) h 0 Z) (Q55 [2,0,1,3,4,5,6,7,8,9,10,11,12,13,14,15,16,17,18] Z (H':=V19 ..) Z (Q2x [Q2j Qb (([((⟨0,[1]⟩ : Q1),(some (⟨a6,0,none⟩ : Addr),1))]) ++ [((⟨1,[1]⟩ : Q1),(some (⟨a9,0,none⟩ : Addr),1))]) none,_,_,_,_,_,_,_,_,_,_,_,_,_,_,_,_,_] (fun _ h=>QY.bagPush (T:=Qb) (x:=(⟨1,[1]⟩ : Q1)) (r:=(some (⟨a9,0,none⟩ : Addr),1)) (zs:=[((⟨0,[1]⟩ : Q1),(some (⟨a6,0,none⟩ : Addr),1))]) (H:=V18 ..) h 0 Z) (Q28 0 (φ':=Q2j Qb ([((⟨0,[1]⟩ : Q1),(some (⟨a6,0,none⟩ : Addr),1)),((⟨1,[1]⟩ : Q1),(some (⟨a9,0,none⟩ : Addr),1))]) none) Z Z (H':=V18 ..) Z (Q2x [Q1l Qb 45 2 (.slice (some ⟨aR,0,none⟩) 2 2) ([(⟨0,[1]⟩ : Q1),(⟨1,[1]⟩ : Q1)]),_,_,_,_,_,_,_,_,_,_,_,_,_,_,_,_] (fun _ h=>h.treeIn 1 0 Z Z Z Z) (Q2o 0 Z (fun c3 _=>(Q4F 0 (v':=.slice (some ⟨aR,0,none⟩) ([(⟨0,[1]⟩ : Q1),(⟨1,[1]⟩ : Q1)].length) 2) Z (by rw [c3]) (Q28 0 (φ':=Q1l Qb 45 2 (.slice (some ⟨aR,0,none⟩) ([(⟨0,[1]⟩ : Q1),(⟨1,[1]⟩ : Q1)].length) 2) ([(⟨0,[1]⟩ : Q1),(⟨1,[1]⟩ : Q1)])) Z (by rw [c3]) (H':=V17 ..) Z ?_)))))))))))))
 obtain ⟨⟨aS,aT,aU,aV,aW⟩,dW,hm⟩:=Q7 hm
 try dsimp only at hm
 refine wC [1,2,3,4,5,0] [6,7,8,9,10,11,12,13,14,15,16] Z fn_21 Z (Q41 N a2 a3 a5 a4 dI dM dO dN dJ dP dR dQ dK dS dL (some ⟨aR,0,none⟩) ([(⟨0,[1]⟩ : Q1),(⟨1,[1]⟩ : Q1)].length) 2 [(⟨0,[1]⟩ : Q1),(⟨1,[1]⟩ : Q1)] _ _ _ _ _ dW) (asK [5] Z) Z (H':=V11 ..) Z ?_
 rintro _ _ _ ⟨aX,aY,aZ,b0,b1,b2,b3,rfl,rfl,rfl⟩
 refine wP Z (Qz (d:=107) (v':=.bool (aS != 0)) (S':=V32 ..) Z Z (natne (a:=aS) (b:=0)) ?_)
 obtain ⟨cC,hm⟩:=Qd hm
 refine Qz (d:=107) (v':=.bool false) (S':=V32 ..) Z Z (Q16 cC) (wP Z (wP Z (wP Z (QE Z Z Z Zq Z Q1j Q1w Q7g Z (zs:=[.int .i64 0]) (by kernel_rfl) Z (out:=[_]) Z (fun d4=>(Q3V (sz:=1) (m:=1) Qi [1] 0 Z (fun F w hφ=>⟨[.int .i64 1],[],Z,Z,⟨(),Z,Qv⟩,Z⟩) Z (by decide) (H':=V18 ..) Z ?_))))))
 obtain ⟨_,dX,hm⟩:=Q7 hm
 try dsimp only at hm
 refine wC [0] [1,2,3,4,5,6,7,8,9,10,11,12,13,14,15,16,17] Z Q6O Z (Q10 N 1 ⟨d4,0,none⟩ ([1].length) 1 [1] dX) (asK [5] Z) Z (H':=V17 ..) Z ?_
 rintro _ _ _ ⟨rfl,rfl,rfl⟩
 obtain ⟨fZ,dY,hm⟩:=Q7 hm
 refine wC [1,2,3,4,5,0] [6,7,8,9,10,11,12,13,14,15,16,17] Z fn_22 Z (Q5e N a2 a3 a5 a4 aT aX aZ aY aU b0 b2 b1 aV b3 aW 1 ⟨d4,0,none⟩ ([1].length) 1 [1] _ dY) (asK [5] Z) Z (H':=V12 ..) Z ?_
 rintro _ _ _ ⟨rfl,rfl,rfl⟩
 obtain ⟨cD,hm⟩:=Qd hm
 refine Qz (d:=113) (v':=.bool true) (S':=V38 ..) Z Z (Q16 cD) (wP Z (wP Z (Q3 (Q4 (Q5 [115,2] (S':=[_,_]) Z (Q4q Z (Q5 [2] (S':=[_]) Z (Qs (Q4 (Q6 (Q2 (wP Z (QE Z Z Z Zq Z Q1j Q1w Q7g Z (zs:=[.int .i64 0]) (by kernel_rfl) Z (out:=[_]) Z (fun aE=>?_))))))))))))))
 refine Q3V (sz:=1) (m:=1) Qi [1] 0 Z (fun F w hφ=>⟨[.int .i64 1],[],Z,Z,⟨(),Z,Qv⟩,Z⟩) Z (by decide) (H':=V19 ..) Z ?_
 obtain ⟨_,dZ,hm⟩:=Q7 hm
 try dsimp only at hm
 refine wC [0] [1,2,3,4,5,6,7,8,9,10,11,12,13,14,15,16,17,18] Z Q6O Z (Q10 N 2 ⟨aE,0,none⟩ ([1].length) 1 [1] dZ) (asK [5] Z) Z (H':=V18 ..) Z ?_
 rintro _ _ _ ⟨rfl,rfl,rfl⟩
 refine QE Z Z Z Zq Z QB Qe Q42 Z (zs:=[.int .i64 0,V1]) (by kernel_rfl) Z (out:=[_,_]) Z (fun b4=>(Q3V (sz:=2) (m:=1) Qb.pair ([((⟨2,[1]⟩ : Q1),(some (⟨aE,0,none⟩ : Addr),1))]) 0 Z (fun F w hφ=>⟨[.int .i64 2,.slice (some ⟨aE,0,none⟩) [1].length 1],[],Z,Z,Z,Z⟩) Z (by decide) (H':=V20 ..) Z (Q2x [Q2j Qb [] none,_,_,_,_,_,_,_,_,_,_,_,_,_,_,_,_,_,_,_,_] (fun _ h=>h.bagNil Qb) (Q55 [2,0,1,3,4,5,6,7,8,9,10,11,12,13,14,15,16,17,18,19,20] Z (H':=V21 ..) Z (Q2x [Q2j Qb ([((⟨2,[1]⟩ : Q1),(some (⟨aE,0,none⟩ : Addr),1))]) none,_,_,_,_,_,_,_,_,_,_,_,_,_,_,_,_,_,_,_] (fun _ h=>QY.bagPush (T:=Qb) (x:=(⟨2,[1]⟩ : Q1)) (r:=(some (⟨aE,0,none⟩ : Addr),1)) (zs:=[]) (H:=V20 ..) h 0 Z) (Q2x [Q1l Qb 45 2 (.slice (some ⟨b4,0,none⟩) 1 1) ([(⟨2,[1]⟩ : Q1)]),_,_,_,_,_,_,_,_,_,_,_,_,_,_,_,_,_,_] (fun _ h=>h.treeIn 1 0 Z Z Z Z) (Q2o 0 Z (fun c4 _=>(Q4F 0 (v':=.slice (some ⟨b4,0,none⟩) ([(⟨2,[1]⟩ : Q1)].length) 1) Z (by rw [c4]) (Q28 0 (φ':=Q1l Qb 45 2 (.slice (some ⟨b4,0,none⟩) ([(⟨2,[1]⟩ : Q1)].length) 1) ([(⟨2,[1]⟩ : Q1)])) Z (by rw [c4]) (H':=V19 ..) Z ?_))))))))))
 obtain ⟨⟨b5,cE,cF,cG,cH⟩,e0,hm⟩:=Q7 hm
 try dsimp only at hm
 refine wC [1,2,3,4,5,0] [6,7,8,9,10,11,12,13,14,15,16,17,18] Z fn_21 Z (Q41 N a2 a3 a5 a4 aT aX aZ aY aU b0 b2 b1 aV b3 aW (some ⟨b4,0,none⟩) ([(⟨2,[1]⟩ : Q1)].length) 1 [(⟨2,[1]⟩ : Q1)] _ _ _ _ _ e0) (asK [5] Z) Z (H':=V13 ..) Z ?_
 rintro _ _ _ ⟨cI,cJ,cK,cL,cM,cN,cO,rfl,rfl,rfl⟩
 refine wP Z (Qz (d:=121) (v':=.bool (b5 == 4)) (S':=V6 ..) Z Z (nateq (a:=b5) (b:=4)) ?_)
 obtain ⟨cP,hm⟩:=Qd hm
 refine Qz (d:=121) (v':=.bool true) (S':=V6 ..) Z Z (Q16 cP) (wP Z (wP Z (QE Z Z Z Zq Z Q1j Q1w Q7g Z (zs:=[.int .i64 0]) (by kernel_rfl) Z (out:=[_]) Z (fun a7=>(Q3V (sz:=1) (m:=1) Qi [1] 0 Z (fun F w hφ=>⟨[.int .i64 1],[],Z,Z,⟨(),Z,Qv⟩,Z⟩) Z (by decide) (H':=V20 ..) Z ?_)))))
 obtain ⟨_,e1,hm⟩:=Q7 hm
 try dsimp only at hm
 refine wC [0] [1,2,3,4,5,6,7,8,9,10,11,12,13,14,15,16,17,18,19] Z Q6O Z (Q10 N 0 ⟨a7,0,none⟩ ([1].length) 1 [1] e1) (asK [5] Z) Z (H':=V19 ..) Z ?_
 rintro _ _ _ ⟨rfl,rfl,rfl⟩
 refine QE Z Z Z Zq Z Q1j Q1w Q7g Z (zs:=[.int .i64 0]) (by kernel_rfl) Z (out:=[_]) Z (fun aA=>(Q3V (sz:=1) (m:=1) Qi [1] 0 Z (fun F w hφ=>⟨[.int .i64 1],[],Z,Z,⟨(),Z,Qv⟩,Z⟩) Z (by decide) (H':=V21 ..) Z ?_))
 obtain ⟨_,e2,hm⟩:=Q7 hm
 try dsimp only at hm
 refine wC [0] [1,2,3,4,5,6,7,8,9,10,11,12,13,14,15,16,17,18,19,20] Z Q6O Z (Q10 N 0 ⟨aA,0,none⟩ ([1].length) 1 [1] e2) (asK [5] Z) Z (H':=V20 ..) Z ?_
 rintro _ _ _ ⟨rfl,rfl,rfl⟩
 refine QE Z Z Z Zq Z QB Qe Q42 Z (zs:=[.int .i64 0,V1,.int .i64 0,V1]) (by kernel_rfl) Z (out:=V4 ..) Z (fun b6=>(Q3V (sz:=2) (m:=2) Qb.pair ([((⟨0,[1]⟩ : Q1),(some (⟨a7,0,none⟩ : Addr),1)),((⟨0,[1]⟩ : Q1),(some (⟨aA,0,none⟩ : Addr),1))]) 0 Z (fun F w hφ=>⟨[.int .i64 0,.slice (some ⟨a7,0,none⟩) [1].length 1],[.int .i64 0,.slice (some ⟨aA,0,none⟩) [1].length 1],Z,Z,Z,⟨[.int .i64 0,.slice (some ⟨aA,0,none⟩) [1].length 1],[],Z,Z,Z,Z⟩⟩) Z (by decide) (H':=V22 ..) Z (Q2x [Q2j Qb [] none,_,_,_,_,_,_,_,_,_,_,_,_,_,_,_,_,_,_,_,_,_,_] (fun _ h=>h.bagNil Qb) (Q55 [3,0,1,2,4,5,6,7,8,9,10,11,12,13,14,15,16,17,18,19,20,21,22] Z (H':=V23 ..) Z (Q2x [Q2j Qb ([((⟨0,[1]⟩ : Q1),(some (⟨a7,0,none⟩ : Addr),1))]) none,_,_,_,_,_,_,_,_,_,_,_,_,_,_,_,_,_,_,_,_,_] (fun _ h=>QY.bagPush (T:=Qb) (x:=(⟨0,[1]⟩ : Q1)) (r:=(some (⟨a7,0,none⟩ : Addr),1)) (zs:=[]) (H:=V22 ..) h 0 Z) (Q55 [2,0,1,3,4,5,6,7,8,9,10,11,12,13,14,15,16,17,18,19,20,21] Z (H':=V22 ..) Z (Q2x [Q2j Qb (([((⟨0,[1]⟩ : Q1),(some (⟨a7,0,none⟩ : Addr),1))]) ++ [((⟨0,[1]⟩ : Q1),(some (⟨aA,0,none⟩ : Addr),1))]) none,_,_,_,_,_,_,_,_,_,_,_,_,_,_,_,_,_,_,_,_] (fun _ h=>QY.bagPush (T:=Qb) (x:=(⟨0,[1]⟩ : Q1)) (r:=(some (⟨aA,0,none⟩ : Addr),1)) (zs:=[((⟨0,[1]⟩ : Q1),(some (⟨a7,0,none⟩ : Addr),1))]) (H:=V21 ..) h 0 Z) (Q28 0 (φ':=Q2j Qb ([((⟨0,[1]⟩ : Q1),(some (⟨a7,0,none⟩ : Addr),1)),((⟨0,[1]⟩ : Q1),(some (⟨aA,0,none⟩ : Addr),1))]) none) Z Z (H':=V21 ..) Z (Q2x [Q1l Qb 45 2 (.slice (some ⟨b6,0,none⟩) 2 2) ([(⟨0,[1]⟩ : Q1),(⟨0,[1]⟩ : Q1)]),_,_,_,_,_,_,_,_,_,_,_,_,_,_,_,_,_,_,_] (fun _ h=>h.treeIn 1 0 Z Z Z Z) (Q2o 0 Z (fun c5 _=>(Q4F 0 (v':=.slice (some ⟨b6,0,none⟩) ([(⟨0,[1]⟩ : Q1),(⟨0,[1]⟩ : Q1)].length) 2) Z (by rw [c5]) (Q28 0 (φ':=Q1l Qb 45 2 (.slice (some ⟨b6,0,none⟩) ([(⟨0,[1]⟩ : Q1),(⟨0,[1]⟩ : Q1)].length) 2) ([(⟨0,[1]⟩ : Q1),(⟨0,[1]⟩ : Q1)])) Z (by rw [c5]) (H':=V20 ..) Z ?_)))))))))))))
 obtain ⟨⟨b7,cQ,cR,cS,cT⟩,e4,hm⟩:=Q7 hm
 try dsimp only at hm
 refine wC [1,2,3,4,5,0] [6,7,8,9,10,11,12,13,14,15,16,17,18,19] Z fn_21 Z (Q41 N a2 a3 a5 a4 cE cI cK cJ cF cL cN cM cG cO cH (some ⟨b6,0,none⟩) ([(⟨0,[1]⟩ : Q1),(⟨0,[1]⟩ : Q1)].length) 2 [(⟨0,[1]⟩ : Q1),(⟨0,[1]⟩ : Q1)] _ _ _ _ _ e4) (asK [5] Z) Z (H':=V14 ..) Z ?_
 rintro _ _ _ ⟨cU,cV,cW,cX,cY,cZ,d0,rfl,rfl,rfl⟩
 refine wP Z (Qz (d:=130) (v':=.bool (b7 == 4)) (S':=V15 ..) Z Z (nateq (a:=b7) (b:=4)) ?_)
 obtain ⟨d1,hm⟩:=Qd hm
 refine Qz (d:=130) (v':=.bool true) (S':=V15 ..) Z Z (Q16 d1) (wP Z (wP Z (wP Z (QE Z Z Z Zq Z Q1j Q1w Q7g Z (zs:=[.int .i64 0]) (by kernel_rfl) Z (out:=[_]) Z (fun c6=>(Q3V (sz:=1) (m:=1) Qi [2] 0 Z (fun F w hφ=>⟨[.int .i64 2],[],Z,Z,⟨(),Z,Qv⟩,Z⟩) Z (by decide) (H':=V21 ..) Z ?_))))))
 obtain ⟨_,e5,hm⟩:=Q7 hm
 try dsimp only at hm
 refine wC [0] [1,2,3,4,5,6,7,8,9,10,11,12,13,14,15,16,17,18,19,20] Z Q6O Z (Q10 N 0 ⟨c6,0,none⟩ ([2].length) 1 [2] e5) (asK [5] Z) Z (H':=V20 ..) Z ?_
 rintro _ _ _ ⟨rfl,rfl,rfl⟩
 obtain ⟨⟨b8,fA,fB,fC,fD⟩,e6,hm⟩:=Q7 hm
 try dsimp only at hm
 refine wC [1,2,3,4,5,0] [6,7,8,9,10,11,12,13,14,15,16,17,18,19,20] Z fn_23 Z (Q7i N a2 a3 a5 a4 cQ cU cW cV cR cX cZ cY cS d0 cT 0 ⟨c6,0,none⟩ ([2].length) 1 [2] _ _ _ _ _ e6) (asK [5] Z) Z (H':=V15 ..) Z ?_
 rintro _ _ _ ⟨fE,fF,fG,fI,fJ,fK,rfl,rfl,rfl⟩
 obtain ⟨b9,hm⟩:=Qd hm
 refine Q4F 2 (v':=.slice (some ⟨c6,0,none⟩) [2].length 1) Z (by rw [b9]) (wP Z (Qz (d:=137) (v':=.bool (b8 == 6)) (S':=V22 ..) Z Z (nateq (a:=b8) (b:=6)) ?_))
 obtain ⟨d2,hm⟩:=Qd hm
 refine Qz (d:=137) (v':=.bool true) (S':=V22 ..) Z Z (Q16 d2) (wP Z (wP Z (Q3 (Q4 (Q5 [0] (S':=[_]) Z (QP ?_))))))
 have hE:=(Zi hm).symm
 refine QH (Hr:=[]) [] Tryz.results5 (QD Z) ⟨Z,Z,Z⟩ (asK [] Z) Z Z (.inl Z)
theorem Q8Y (N:Nat) (qp0:OA) (qc1:Nat) (l0:List Qr)  (hm:Q5I N l0 = some ()):Q1R Tryz.prog 47 [.slice qp0 l0.length qc1] [.sli 2 QR qp0 qc1 l0] [] (fun v Φr Hr=>∃ (o0:OA) (o1:Nat),v = .slice o0 (l0).length o1 ∧ Φr = [] ∧ Hr = [.own 213 2 QR (.slice o0 (l0).length o1) l0]):=by
 unfold Q5I at hm
 refine QZ Tryz.func47 Z Tryz.ntmps47 Z (S:=[_]) Z (fun C=>(Q6 (Q2 (wP Z (Q3 (Q4 (Q5 [0] (S':=[_]) Z (Q6 (Q2 (wP Z (Q3 (Q4 (Q6 (Q2 ?_))))))))))))))
 refine wP Z (wP Z (Q84 213 2 QR ?_))
 obtain ⟨hg6,hm⟩:=Qd hm
 refine Q83 0 0 Z Z Z Zq Z Z Z Z Z tE_25 tR_213 Z Z (Nat.le_trans hg6 (by decide)) (Nat.le_trans (Nat.mul_le_mul_right _ hg6) (by decide)) (H2:=fun p6 c6=>[.own 213 2 QR (.slice p6 (l0).length c6) l0]) (fun _ _=>Z) (fun p6 c6=>(wP Z (Q3 (Q4 (Q5 [2] (S':=[_]) Z (QP ?_))))))
 have hE:=(Zi hm).symm
 refine QH (Hr:=[_]) [0] Tryz.results47 (QD Z) ⟨p6,c6,Z,Z,Z⟩ (asK [] Z) Z Z (.inl Z)
theorem Q9e (N:Nat) (qp0:OA) (qc1:Nat) (l0:List ArgD)  (hm:Q6G N l0 = some ()):Q1R Tryz.prog 193 [.slice qp0 l0.length qc1] [.sli 5 Q9v qp0 qc1 l0] [] (fun v Φr Hr=>∃ (o0:OA) (o1:Nat),v = .slice o0 (l0).length o1 ∧ Φr = [] ∧ Hr = [.own 200 5 Q9v (.slice o0 (l0).length o1) l0]):=by
 unfold Q6G at hm
 refine QZ Tryz.func193 Z Tryz.ntmps193 Z (S:=[_]) Z (fun C=>(Q6 (Q2 (wP Z (Q3 (Q4 (Q5 [0] (S':=[_]) Z (Q6 (Q2 (wP Z (Q3 (Q4 (Q6 (Q2 ?_))))))))))))))
 refine wP Z (wP Z (Q84 200 5 Q9v ?_))
 obtain ⟨hg6,hm⟩:=Qd hm
 refine Q83 0 0 Z Z Z Zq Z Z Z Z Z tE_197 tR_200 Z Z (Nat.le_trans hg6 (by decide)) (Nat.le_trans (Nat.mul_le_mul_right _ hg6) (by decide)) (H2:=fun p6 c6=>[.own 200 5 Q9v (.slice p6 (l0).length c6) l0]) (fun _ _=>Z) (fun p6 c6=>(wP Z (Q3 (Q4 (Q5 [2] (S':=[_]) Z (QP ?_))))))
 have hE:=(Zi hm).symm
 refine QH (Hr:=[_]) [0] Tryz.results193 (QD Z) ⟨p6,c6,Z,Z,Z⟩ (asK [] Z) Z Z (.inl Z)
theorem Q8n (N:Nat) (rc:Int → Int → Int → ByteArray → Int → Int → (List Q12) → Option (Int × Int × Int × ByteArray × Int × Int × (List Q12))) (ih : ∀ (a0:Int) (a1:Int) (a2:Int) (a3:ByteArray) (a4:Int) (a5:Int) (aM:OA) (aN:Nat) (l6:List Q12) (o0:Int) (o1:Int) (o2:Int) (o3:ByteArray) (o4:Int) (o5:Int) (o8:List Q12),rc a0 a1 a2 a3 a4 a5 l6 = some (o0,o1,o2,o3,o4,o5,o8) → Q1R Tryz.prog 194 [.agg #[.int .u8 a0,.int .u8 a1,.int .i64 a2,.string a3,.int .i64 a4,.int .u8 a5,.slice aM l6.length aN]] [.sli 7 Q1C aM aN l6] [] (fun v Φr Hr=>∃ (o6:OA) (o7:Nat) (o9:Nat),v = .agg #[.int .u8 o0,.int .u8 o1,.int .i64 o2,.string o3,.int .i64 o4,.int .u8 o5,.slice o6 o9 o7] ∧ Φr = [] ∧ Hr = [.own 194 7 Q1C (.slice o6 o9 o7) o8])) (aM:OA) (aN:Nat) (l0:List Q12) (o2:List Q12) (hm:Q69 N rc l0 = some o2):Q1R Tryz.prog 195 [.slice aM l0.length aN] [.sli 7 Q1C aM aN l0] [] (fun v Φr Hr=>∃ (o0:OA) (o1:Nat) (o3:Nat),v = .slice o0 o3 o1 ∧ Φr = [] ∧ Hr = [.own 194 7 Q1C (.slice o0 o3 o1) o2]):=by
 unfold Q69 at hm
 refine QZ Tryz.func195 Z Tryz.ntmps195 Z (S:=[_]) Z (fun C=>(Q6 (Q2 (wP Z (Q3 (Q4 (Q5 [0] (S':=[_]) Z (Q6 (Q2 (wP Z (Q3 (Q4 (Q6 ?_)))))))))))))
 obtain ⟨aU,hm,hLj_1⟩:=Q7 hm
 refine Q18 (σ:=(List Q12) × OA × Nat × Nat) (fun (aD,a7,a8,a9)=>aU = aD) (fun (aD,a7,a8,a9)=>[(3,.slice a7 a9 a8)]) (fun (aD,a7,a8,a9)=>[]) (fun (aD,a7,a8,a9)=>[.own 194 7 Q1C (.slice a7 a9 a8) aD]) ?_ ?_
 refine Q6 (Q2 (wP Z (Q3 (Q4 (Qm (Q52 194 7 Q1C (Q1f (σ:=Nat × Nat × (List Q12) × OA × Nat × Nat) (fun (aO,aE,a6,aA,aB,aC)=>Q1o (Q5y N l0 rc) aO (aE,a6) = some aU) (fun (aO,aE,a6,aA,aB,aC)=>aO) (fun (aO,aE,a6,aA,aB,aC)=>[(4,.int .i64 ((aE:Nat):Int)),(3,.slice aA aC aB),(0,.slice aM l0.length aN)]) (fun (aO,aE,a6,aA,aB,aC)=>[.sli 7 Q1C aM aN l0]) (fun (aO,aE,a6,aA,aB,aC)=>[.own 194 7 Q1C (.slice aA aC aB) a6]) (N,0,[],none,0,0) hm [4,3,0] Z (asK [0] Z) Z (fun s_ hm=>?_))))))))
 obtain ⟨aO,aE,a6,aA,aB,aC⟩:=s_
 try dsimp only at hm ⊢
 obtain ⟨bP,bQ,b3,hq,hLu1⟩:=Q1d hm
 clear hm
 subst b3
 replace hm:=hq
 clear hq
 unfold Q5y at hm
 try dsimp only at hm
 refine Q6 (Q6 (Q2 (wP Z (wP Z (wN Z tE_190 (wP Z (Qz (d:=9) (v':=.bool (decide (aE < l0.length))) (S':=V6 ..) Z Z (Q3f (a:=aE) (b:=l0.length)) (Q3 (Q4 (Q5 [9,4,3,0] (S':=V4 ..) Z ?_))))))))))
 refine QA Z (fun aW=>?_) (fun aW=>?_)
 replace hm:=Q1z hm aW
 refine Q5 [4,3,0] (S':=V3 ..) Z (Qs (Q4 (Q6 (Qm (Q6 (Q2 (wP Z (wP Z ?_))))))))
 obtain ⟨aP,b4,hm⟩:=Q7 hm
 refine Q53 0 aE Z Z Z Zq Z Z Z Z Z b4 tE_190 Q7A (fun bR bS bO bA=>(Q6m Q91 1 Z (fun b5 b6 _=>?_)))
 subst b6
 refine Q6l 1 0 Z Z Z Zq Z Z Z (cs:=V7 ..) Z Q7A tA_194 Z Z ?_
 obtain ⟨⟨aG,aH,aI,aJ,aK,aL,aF⟩,b7,hm⟩:=Q7 hm
 try dsimp only at hm
 refine wC [] [0] Z fn_194 Z (ih aP.kind aP.value.k aP.value.n aP.value.s aP.var aP.op b5.1 b5.2 aP.kids _ _ _ _ _ _ _ b7) (asK [0] Z) Z (H':=[_]) Z ?_
 rintro _ _ _ ⟨aQ,aR,bB,rfl,rfl,rfl⟩
 refine Q25 Z Z Z Zq Z tZ_194 Z (fun g5=>(wS 0 0 Z Q7A (all':=V7 ..) Z (H':=V3 ..) Z (Q3 (Q4 (Q5 [5,4,3,0] (S':=V4 ..) Z (Q2 (wP Z (Q1V 0 0 Z Z Z Zq Z Z Z (cs:=V7 ..) Z Q7A tA_194 Z Z (QE Z Z Z Zq Z tE_190 Q7A tZ_194 Z (zs:=[.int .u8 0,.int .u8 0,.int .i64 0,.string ((⟨#[]⟩ : ByteArray)),.int .i64 0,.int .u8 0,V1]) (by kernel_rfl) Z (out:=V7 ..) Z (fun bT=>(QK 2 Z (fun aS _=>?_))))))))))))
 subst aS
 refine Q6B 2 Z (H':=V3 ..) Z (Q4Q (.sli 7 Q1C aQ aR aF) (fun F w hφ=>Q1n (hφ _ (Qu (k:=0) Z))) ?_)
 obtain ⟨aV,hm⟩:=Qd hm
 refine Q2w ([(⟨aG,(⟨aH,aI,aJ⟩ : V),aK,aL,aF⟩ : Q12)]) 2 0 Z Z Z Zq Z Z Z Z Z (fun F w hφ=>⟨[.int .u8 aG,.int .u8 aH,.int .i64 aI,.string aJ,.int .i64 aK,.int .u8 aL,.slice aQ aF.length aR],[],Z,Z,(rec_shut (aQ,aR) Z (Qh (hφ _ (Qu (k:=0) Z)) Qv)),Z⟩) tE_190 tR_194 Z Z (Nat.le_trans aV (by decide)) (Nat.le_trans (Nat.mul_le_mul_right _ aV) (by decide)) (H2:=fun aX aY=>[_,_,.own 194 7 Q1C (.slice aX ((a6 ++ ([(⟨aG,(⟨aH,aI,aJ⟩ : V),aK,aL,aF⟩ : Q12)])).length) aY) (a6 ++ ([(⟨aG,(⟨aH,aI,aJ⟩ : V),aK,aL,aF⟩ : Q12)]))]) (fun _ _=>Z) (fun aX aY=>(Q3E 0 Z (H':=[_,_]) Z (QI (S':=V7 ..) Z Z Z Z Z (Q3 (Qj (Q4 (Q5 [3,4,0] (S':=V3 ..) Z (Q2 (wP Z (wP Z ?_))))))))))
 obtain ⟨b8,hm⟩:=Qd hm
 refine Qz (d:=11) (v':=.int .i64 ((aE + 1:Nat):Int)) (S':=V4 ..) Z Z (Q1i (a:=aE) (b:=1) b8) (QI (S':=V4 ..) Z Z Z Z Z (Q3 ?_))
 have hE:=(Zi hm).symm
 replace hE:=Q14 hLu1 hE
 refine Q1m [1] Z (H':=[_]) Z ?_
 refine Q1a (_,aE + 1,(a6 ++ ([(⟨aG,(⟨aH,aI,aJ⟩ : V),aK,aL,aF⟩ : Q12)])),aX,aY,((a6 ++ ([(⟨aG,(⟨aH,aI,aJ⟩ : V),aK,aL,aF⟩ : Q12)])).length)) (Nat.lt_succ_self _) hE [4,3,0] Z (asK [5] Z) Z
 replace hm:=Q1y hm aW
 refine Q5 [3] (S':=[_]) Z (Q19 (Qc (Qc (Qt ?_))))
 have hE:=(Zi hm).symm
 replace hE:=QO hLu1 hE
 refine Qp (a6,aA,aB,aC) hE [3] Z (asK [] Z) Z
 rintro ⟨aD,a7,a8,a9⟩ hE
 try dsimp only
 have hm:=hLj_1
 try rw [hE] at hm
 refine Q6 (Q2 (wP Z (wP Z (Q3 (Q4 (Q5 [2] (S':=[_]) Z (QP ?_)))))))
 have hE:=(Zi hm).symm
 replace hE:=hE.symm
 subst hE
 refine QH (Hr:=[_]) [0] Tryz.results195 (QD Z) ⟨a7,a8,a9,Z,Z,Z⟩ (asK [] Z) Z Z (.inl Z)
end Go.Proofs.YtgangmegcejllaaGreatDoor
