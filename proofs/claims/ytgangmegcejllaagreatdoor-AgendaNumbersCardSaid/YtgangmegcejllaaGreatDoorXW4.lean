import Derived.Test.YtgangmegcejllaaGreatDoorXW3
namespace Go.Proofs.YtgangmegcejllaaGreatDoor
open Go.RowKit
set_option maxRecDepth 100000
set_option maxHeartbeats 4000000
theorem Q4d (N:Nat) (a8:Nat) (q:Addr) (s:Nat) (y:Nat) (l0:List Int) (z:OA) (a0:Nat) (a1:Nat) (l1:List Q1) (a2:OA) (a3:Nat) (a5:Nat) (l2:List Q1) (f:Nat) (e3:List (ByteArray × Bool)) (a4:Int) (j:Addr) (a6:Nat) (o:Nat) (l5:List Int) (o0:Bool) (hm:Q3J N l0 l1 l2 e3 a4 l5 = some o0):Q1z Tryz.prog 22 [.pointer (some ⟨a8,0,none⟩),.agg #[.int .i64 a4,.slice (some j) a6 o]] [tF] [.blk a8 [.slice (some q) s y,.slice z a0 a1,.slice a2 a3 a5,.map (some f)] 66,.own 3 1 Qh (.slice (some q) s y) l0,.own 45 2 Q8 (.slice z a0 a1) l1,.own 45 2 Q8 (.slice a2 a3 a5) l2,Q1Y (Q1h (QZ Q1Z)) false Q13 f e3,.own 3 1 Qh (.slice (some j) a6 o) l5] (fun v Φr Hr=>v = .bool o0 ∧ Φr = [] ∧ Hr = [.blk a8 [.slice (some q) s y,.slice z a0 a1,.slice a2 a3 a5,.map (some f)] 66,.own 3 1 Qh (.slice (some q) s y) l0,.own 45 2 Q8 (.slice z a0 a1) l1,.own 45 2 Q8 (.slice a2 a3 a5) l2,Q1Y (Q1h (QZ Q1Z)) false Q13 f e3,.own 3 1 Qh (.slice (some j) a6 o) l5]):=by
 unfold Q3J at hm
 refine Q12 Tryz.func22 Z Tryz.ntmps22 Z (S:=[_,_]) Z (fun C=>(Q6 (Q3 (wB Z (fun g3=>(wP Z (Q2 (Q4 (Q5 [3,0] (S':=[_,_]) Z (Q6 (Q3 (wP Z ?_))))))))))))
 obtain ⟨⟨aB,aC,aO⟩,aM,hm⟩:=Q7 hm
 try dsimp only at hm
 refine wC [1,2,3,4,5] [0,6] Z fn_11 Z (Q4b N a8 q s y l0 z a0 a1 l1 a2 a3 a5 l2 f e3 _ _ _ aM) (asK [0] Z) Z (H':=[_,_]) Z ?_
 rintro _ _ _ ⟨aD,aE,aP,rfl,rfl,rfl⟩
 refine wP Z (wP Z (wP Z (Q1s Z Z Z Zq Z Q1X Z (fun g5=>(wS 0 0 Z Qg (all':=[_,_]) Z (H':=V9 ..) Z (wP Z (Q2 (Q4 (Q5 [6,5,3] (S':=V3 ..) Z (Q6 (Q3 (wP Z (wP Z ?_)))))))))))))
 refine Q28 (d:=13) (S':=V4 ..) Z Z (fun a7=>?_) (fun a7=>?_)
 replace hm:=Q1m hm a7
 refine Q1E 0 0 Z Z Z Zq Z Z Z (cs:=[_,_]) Z Qg QT Z Z (Q1E 7 0 Z Z Z Zq Z Z Z (cs:=[_,_]) Z Qg QT Z Z (QQ 1 Z (fun a9 _=>?_)))
 subst a9
 refine QQ 8 Z (fun aA _=>?_)
 subst aA
 obtain ⟨aQ,aF,hm⟩:=Q7 hm
 refine Q1y [] [0,1,2,3,4,5,6,7,8] [1,8] Z Z Z Zq Z Z fn_13 Z (Q4o N aB aD aE aC a4 (some j) o l5 _ aF) (fun F w hφ hh=>(Qe (Q1d (hh _ (Qo (k:=0) Z))) (Qe (Q1d (hh _ (Qo (k:=1) Z))) Ql))) (fun _ _ _ hR=>by obtain ⟨rfl,rfl,rfl⟩:=hR; exact ⟨Z,(fun _ h=>Q1q h)⟩) Z Z (H':=V9 ..) Z ?_
 rintro _ _ _ ⟨rfl,rfl,rfl⟩
 refine wP Z (wP Z (Q2 (Q4 (Q5 [4] (S':=[_]) Z (QJ ?_)))))
 have hE:=(Zi hm).symm
 replace hE:=hE.symm
 subst hE
 refine QA (Hr:=V6 ..) [2,3,4,5,6,8] Tryz.results22 (Qy Z) ⟨Z,Z,Z⟩ (asK [] Z) Z Z (.inl Z)
 replace hm:=Q1l hm a7
 refine wO Z (wO Z (wO Z (wP Z (wP Z (Q2 (Q4 (Q5 [4] (S':=[_]) Z (QJ ?_))))))))
 have hE:=(Zi hm).symm
 replace hE:=hE.symm
 subst hE
 refine QA (Hr:=V6 ..) [2,3,4,5,6,8] Tryz.results22 (Qy Z) ⟨Z,Z,Z⟩ (asK [] Z) Z Z (.inl Z)
theorem Q97 (N:Nat) (a0:Int) (a9:OA) (aA:Nat) (l1:List Int) (aB:Nat) (a3:Nat) (z:Addr) (a4:Nat) (a1:Nat) (l2:List Int) (a5:OA) (a7:Nat) (a8:Nat) (l3:List Q1) (o:OA) (q:Nat) (s:Nat) (l4:List Q1) (y:Nat) (e5:List (ByteArray × Bool)) (a2:Nat) (a6:Int) (f:OA) (j:Nat) (l7:List Int) (o0:Bool) (hm:Q2M N a0 l1 l2 l3 l4 e5 a6 l7 = some o0):Q1z Tryz.prog 45 [.agg #[.int .i64 a0,.slice a9 l1.length aA],.pointer (some ⟨aB,0,none⟩),.pointer (some ⟨a2,0,none⟩)] [.sli 1 Qh a9 aA l1,.sli 1 Qh f j l7,tF] [.blk aB [.pointer (some ⟨a3,0,none⟩)] 30,.blk a3 [.slice (some z) a4 a1,.slice a5 a7 a8,.slice o q s,.map (some y)] 66,.own 3 1 Qh (.slice (some z) a4 a1) l2,.own 45 2 Q8 (.slice a5 a7 a8) l3,.own 45 2 Q8 (.slice o q s) l4,Q1Y (Q1h (QZ Q1Z)) false Q13 y e5,.blk a2 [.int .i64 a6,.slice f l7.length j] 45] (fun v Φr Hr=>v = .bool o0 ∧ Φr = [.sli 1 Qh f j l7] ∧ Hr = [.blk aB [.pointer (some ⟨a3,0,none⟩)] 30,.blk a3 [.slice (some z) a4 a1,.slice a5 a7 a8,.slice o q s,.map (some y)] 66,.own 3 1 Qh (.slice (some z) a4 a1) l2,.own 45 2 Q8 (.slice a5 a7 a8) l3,.own 45 2 Q8 (.slice o q s) l4,Q1Y (Q1h (QZ Q1Z)) false Q13 y e5,.blk a2 [.int .i64 a6,.slice f l7.length j] 45]):=by
 unfold Q2M at hm
 refine Q12 Tryz.func45 Z Tryz.ntmps45 Z (S:=V3 ..) Z (fun C=>(Q6 (Q3 (wB Z (fun g3=>(wP Z (Q2 (Q4 (Q5 [3,1,2] (S':=V3 ..) Z (Q6 ?_))))))))))
 obtain ⟨aN,aE,hm⟩:=Q7 hm
 refine QV [0,1,2,3,4,5,7] Z Z (fun hok=>(Qr hok 0 1 0 Z Z Z Zq Z Z Z Z (cs:=[_]) Z Q5N Q5M Z Z (xP hok 1 Z (Qm hok 2 Z Z Z Zq Z Z Z Q61 (Qr hok 3 2 0 Z Z Z Zq Z Z Z Z (cs:=[_]) Z Q8G Q8F Z Z (Qr hok 4 7 0 Z Z Z Zq Z Z Z Z (cs:=[_,_]) Z Qg QT Z Z (Qr hok 5 0 0 Z Z Z Zq Z Z Z Z (cs:=[_,_]) Z Qg QT Z Z (xS hok 6 Z (QQ 3 Z (fun aC _=>?_))))))))))
 subst aC
 refine Q1y [] [0,1,2,3,4,5,6,7] [3] Z Z Z Zq Z Z Q5o Z (Q4D N (some z) a1 l2 a6 f j l7 a0 a9 aA l1 _ aE) (fun F w hφ hh=>(Qe (Q1d (hh _ (Qo (k:=0) Z))) (Qe (hφ _ (Qo (k:=1) Z)) (Qe (hφ _ (Qo (k:=0) Z)) (Qe (hφ _ (Qo (k:=2) Z)) Ql))))) (fun _ _ _ hR=>by obtain ⟨rfl,rfl,rfl⟩:=hR; exact ⟨Z,(fun _ h=>Q1q h)⟩) Z Z (H':=V8 ..) Z ?_
 rintro _ _ _ ⟨rfl,rfl,rfl⟩
 refine Q2 (Qs [0,1,2] [1] Z Z (xP hok 7 Z (xS hok 8 Z (wP Z (Q2 (Qs [0,1,2] [] Z Z (QI hok Z (Q4 (Q5 [4] (S':=[_]) Z (QJ ?_))))))))))
 have hE:=(Zi hm).symm
 replace hE:=hE.symm
 subst hE
 refine QA (Hr:=V7 ..) [1,2,3,4,5,6,7] Tryz.results45 (Qy Z) ⟨Z,Z,Z⟩ (asK [1] Z) Z Z (.inl Z)
theorem Q8M (N:Nat) (a1:OA) (y:Nat) (z:Nat) (l0:List Q1) (a9:Nat) (a2:Nat) (a3:Addr) (a5:Nat) (a6:Nat) (l1:List Int) (a7:OA) (a8:Nat) (j:Nat) (l2:List Q1) (o:Nat) (e3:List (ByteArray × Bool)) (a0:Nat) (a4:Int) (q:OA) (s:Nat) (l5:List Int) (o0:Int) (hm:Q2u N l0 l1 l2 e3 a4 l5 = some o0):Q1z Tryz.prog 44 [.slice a1 y z,.func (.func 45) #[] #[.pointer (some ⟨a9,0,none⟩),.pointer (some ⟨a0,0,none⟩)]] [.sli 1 Qh q s l5,tF] [.own 45 2 Q8 (.slice a1 y z) l0,.blk a9 [.pointer (some ⟨a2,0,none⟩)] 30,.blk a2 [.slice (some a3) a5 a6,.slice a1 y z,.slice a7 a8 j,.map (some o)] 66,.own 3 1 Qh (.slice (some a3) a5 a6) l1,.own 45 2 Q8 (.slice a7 a8 j) l2,Q1Y (Q1h (QZ Q1Z)) false Q13 o e3,.blk a0 [.int .i64 a4,.slice q l5.length s] 45] (fun v Φr Hr=>v = .int .i64 o0 ∧ Φr = [.sli 1 Qh q s l5] ∧ Hr = [.own 45 2 Q8 (.slice a1 y z) l0,.blk a9 [.pointer (some ⟨a2,0,none⟩)] 30,.blk a2 [.slice (some a3) a5 a6,.slice a1 y z,.slice a7 a8 j,.map (some o)] 66,.own 3 1 Qh (.slice (some a3) a5 a6) l1,.own 45 2 Q8 (.slice a7 a8 j) l2,Q1Y (Q1h (QZ Q1Z)) false Q13 o e3,.blk a0 [.int .i64 a4,.slice q l5.length s] 45]):=by
 unfold Q2u at hm
 refine Q12 Tryz.func44 Z Tryz.ntmps44 Z (S:=[_,_]) Z (fun C=>(Q6 (Q3 (wP Z (Q2 (Q4 (Q5 [0,1] (S':=[_,_]) Z (Q6 ?_))))))))
 obtain ⟨aG,hm,hLj_1⟩:=Q1R hm
 refine Q15 (σ:=Unit) (fun _=>aG = .inl ()) (fun _=>[]) (fun _=>[.sli 1 Qh q s l5,tF]) (fun _=>[.own 45 2 Q8 (.slice a1 y z) l0,.blk a9 [.pointer (some ⟨a2,0,none⟩)] 30,.blk a2 [.slice (some a3) a5 a6,.slice a1 y z,.slice a7 a8 j,.map (some o)] 66,.own 3 1 Qh (.slice (some a3) a5 a6) l1,.own 45 2 Q8 (.slice a7 a8 j) l2,Q1Y (Q1h (QZ Q1Z)) false Q13 o e3,.blk a0 [.int .i64 a4,.slice q l5.length s] 45]) ?_ ?_
 refine Q6 (Q3 (wP Z (QQ 0 Z (fun aR _=>(wN Z QG (Qx (d:=7) (v':=.int .i64 ((l0.length:Nat):Int)) (S':=V3 ..) Z Z (Q3F aR) (wP Z (Q2 (Q4 (Q5 [8,7,0,1] (S':=V4 ..) Z (Qn (Q1b (σ:=Nat × Nat) (fun (aA,f)=>Q1B (Q2c N l0 l1 l2 e3 a4 l5) aA f = some aG) (fun (aA,f)=>aA) (fun (aA,f)=>[(8,.int .i64 ((f:Nat):Int)),(7,.int .i64 ((l0.length:Nat):Int)),(0,.slice a1 y z),(1,.func (.func 45) #[] #[.pointer (some ⟨a9,0,none⟩),.pointer (some ⟨a0,0,none⟩)])]) (fun (aA,f)=>[.sli 1 Qh q s l5,tF]) (fun (aA,f)=>[.own 45 2 Q8 (.slice a1 y z) l0,.blk a9 [.pointer (some ⟨a2,0,none⟩)] 30,.blk a2 [.slice (some a3) a5 a6,.slice a1 y z,.slice a7 a8 j,.map (some o)] 66,.own 3 1 Qh (.slice (some a3) a5 a6) l1,.own 45 2 Q8 (.slice a7 a8 j) l2,Q1Y (Q1h (QZ Q1Z)) false Q13 o e3,.blk a0 [.int .i64 a4,.slice q l5.length s] 45]) (N,0) hm [8,7,0,1] Z (asK [0,1] Z) Z (fun s_ hm=>?_)))))))))))))
 obtain ⟨aA,f⟩:=s_
 try dsimp only at hm ⊢
 obtain ⟨aU,aV,aN,hq,hLu1⟩:=Q18 hm
 clear hm
 subst aN
 replace hm:=hq
 clear hq
 unfold Q2c at hm
 try dsimp only at hm
 refine Q6 (Q3 (wP Z (Qx (d:=9) (v':=.bool (decide (f < l0.length))) (S':=V4 ..) Z Z (Q20 (a:=f) (b:=l0.length)) (Q2 (Q4 (Q6 ?_))))))
 refine Qv Z (fun aM=>?_) (fun aM=>?_)
 replace hm:=Q1m hm aM
 refine Q5 [8,7,0,1] (S':=V4 ..) Z (Qt (Q4 (Q6 (Qn (Q6 (Q3 (wP Z (wP Z (Q2 (Q4 (Q5 [5,8,7,0,1] (S':=V5 ..) Z (Q6 (Q3 ?_)))))))))))))
 refine wP Z (wP Z (wP Z ?_))
 obtain ⟨aF,aH,hm⟩:=Q7 hm
 refine Q24 0 f Z Z Z Zq Z Z Z Z Z (QB aH) QG Qg (fun aS aO=>?_)
 subst aO
 refine Qk Qb 0 f 0 Z Z Z Zq Z Z Z aH Qg QT (v:=fun aD=>.agg #[.int .i64 (aF.rule),.slice aD.1 aF.ids.length aD.2]) (fun _=>Z) (fun _=>Z) (fun aD _=>?_)
 obtain ⟨aW,aP,hm⟩:=Q7 hm
 refine wl_callDyn [1,2,3,0,4,5,6] [] Z Z Z Zq Z Z Z fn_45 Z Z (Q97 N aF.rule aD.1 aD.2 aF.ids a9 a2 a3 a5 a6 l1 (some ⟨aS,0,none⟩) y z l0 a7 a8 j l2 o e3 a0 a4 q s l5 _ aP) (asK [0,1,2] Z) Z (H':=[]) Z ?_
 rintro _ _ _ ⟨rfl,rfl,rfl⟩
 refine Q2 (Q4 (Q5 [16,5,8,7,0,1] (S':=V6 ..) Z ?_))
 refine Qv Z (fun aE=>?_) (fun aE=>?_)
 replace hm:=Q1m hm aE
 refine Q5 [5] (S':=[_]) Z (Q6 (Q3 (wP Z (wP Z (Q2 (Q4 (Q5 [4] (S':=[_]) Z (QJ (QR (Qj (Qj (QR (Qj ?_)))))))))))))
 have hE:=(Zi hm).symm
 replace hE:=QE hLu1 hE
 replace hE:=QE hLj_1 hE
 replace hE:=hE.symm
 subst hE
 refine QA (Hr:=V7 ..) [3,0,1,2,4,5,6] Tryz.results44 (Qy Z) ⟨Z,Z,Z⟩ (asK [0] Z) Z Z (.inl Z)
 replace hm:=Q1l hm aE
 refine Q5 [8,7,0,1] (S':=V4 ..) Z (Qt (Qi (Q4 (Q3 (wP Z ?_)))))
 obtain ⟨aQ,hm⟩:=Qd hm
 refine Qx (d:=18) (v':=.int .i64 ((f + 1:Nat):Int)) (S':=V4 ..) Z Z (Q1f (a:=f) (b:=1) aQ) (QM (S':=V4 ..) Z Z Z Z Z (Q2 ?_))
 have hE:=(Zi hm).symm
 replace hE:=Q11 hLu1 hE
 refine Q17 [3,0,1,2,4,5,6] Z (H':=V7 ..) Z ?_
 refine Q14 (_,f + 1) (Nat.lt_succ_self _) hE [8,7,0,1] Z (asK [0,3] Z) Z
 replace hm:=Q1l hm aM
 refine Q5 [] (S':=[]) Z (Q19 (Qc (Qc (Qu ?_))))
 have hE:=(Zi hm).symm
 replace hE:=QE hLu1 hE
 refine Qp () hE [] Z (asK [0,1] Z) Z
 rintro _ hE
 try dsimp only
 have hm:=Q11 hLj_1 hE
 try dsimp only at hm
 refine Q6 (Q3 (wP Z (Q2 (Q4 (QJ ?_)))))
 have hE:=(Zi hm).symm
 replace hE:=hE.symm
 subst hE
 refine QA (Hr:=V7 ..) [0,1,2,3,4,5,6] Tryz.results44 (Qy Z) ⟨Z,Z,Z⟩ (asK [0] Z) Z Z (.inl Z)
theorem Delete46_n (p:OA) (c k:Nat) (L:List Q1) (hk:k < L.length):Q1z Tryz.prog 46 [.slice p L.length c,.int .i64 ((k:Nat):Int),.int .i64 ((k + 1:Nat):Int)] [] [.own 45 2 Q8 (.slice p L.length c) L] (fun v Φr Hr=>∃ p' c',v = .slice p' (L.take k ++ L.drop (k + 1)).length c' ∧ Φr = [] ∧ Hr = [.own 45 2 Q8 v (L.take k ++ L.drop (k + 1))]):=by
 refine Q12 Tryz.func46 Z Tryz.ntmps46 Z (S:=V3 ..) Z (fun C=>(wc_ownSome 0 Z (by omega) (fun q y z a0=>?_)))
 subst y
 refine Q6 (Q3 (wP Z (Q2 (Q4 (Q6 (Q3 (wP Z (wP Z (wP Z (wP Z (wN Z QG (wl_slice3 Z Z Z Zq Z Z Z Z Z Z Z Z QG Qg (by omega) (by omega) (by omega) (fun a1=>(Q2 ?_))))))))))))))
 refine Q4 (Q5 [6,0,1,2] (S':=V4 ..) Z (Q6 (Q6 (Q3 (wP Z (wP Z (wP Z (Q2 (Q4 (Q5 [16,6,0,1,2] (S':=V5 ..) Z ?_))))))))))
 refine Qv Z (fun o=>?_) (fun o=>?_)
 replace o:=eq_of_beq o
 exfalso
 omega
 replace o:=ne_of_beq_false o
 refine Qt (Q4 (Q6 (Q3 (wP Z (wN Z QG (wP Z (Q2 (Q4 (Q5 [7,16,6,0,1,2] (S':=V6 ..) Z (Q6 ?_))))))))))
 refine Q15 (σ:=Addr) (fun f=>k + 1 < c → f = ⟨q,(k + 1) * 2,none⟩) (fun f=>[(0,.slice (some ⟨q,0,none⟩) ((L.take k ++ L.drop (k + 1)).length) c),(7,.int .i64 ((L.length:Nat):Int)),(16,.bool (((k:Nat):Int) == ((k + 1:Nat):Int))),(6,V1),(1,.int .i64 ((k:Nat):Int)),(2,.int .i64 ((k + 1:Nat):Int))]) (fun f=>[]) (fun f=>[.own 45 2 Q8 (.slice (some ⟨q,0,none⟩) ((L.take k ++ L.drop (k + 1)).length) c) (L.take k ++ L.drop (k + 1))]) ?_ ?_
 ·
  refine QV [0,1,3,4] Z Z (fun hok=>(xP hok 0 Z (xP hok 1 Z (xP hok 3 Z (xP hok 4 Z ?_)))))
  refine Q1v hok 2 5 Z Z Z Z Z Z ?_ ?_
  rotate_left
  focus
   refine wl_sliceFrom Z Z Z Zq Z Z Z Z QG Qg (by omega) (by omega) (fun f j=>(Q2 (Qs [] [] Z Z (xS hok 2 Z (Q82 Z Z Z Zq Z Z Z Z QG Qg (by omega) (fun _ h=>by cases h; rfl) ?_)))))
  rotate_right
  focus
   refine Q82 Z Z Z Zq Z Z Z Z QG Qg (by omega) (fun _ h=>by cases h; rfl) (Q2 (Qs [] [] Z Z (xS hok 5 Z (wl_sliceFrom Z Z Z Zq Z Z Z Z QG Qg (by omega) (by omega) (fun f j=>?_)))))
  all_goals
   refine Q2 (Qs [] [] Z Z (xS hok 6 Z (wl_appendSelf 0 k (k + 1) Z Z Z Zq Z Z Z Z (by omega) (by omega) (fun h=>j (by omega)) QG Q8i (H2:=[.own 45 2 Q8 (.slice (some ⟨q,0,none⟩) ((L.take k ++ L.drop (k + 1)).length) c) (L.take k ++ L.drop (k + 1))]) Z (fun _=>(Q2 (Qs [] [] Z Z (xS hok 7 Z (QM (S':=V12 ..) Z Z Z Z Z (Q2 (Qs [] [] Z Z (QI hok Z ?_)))))))))))
   refine Qp (f) j [0,7,16,6,1,2] Z (asK [] Z) Z
 rintro f j
 try dsimp only
 refine Q6 (Q3 (wP Z (wP Z (wN Z QG (wP Z (wl_sliceMid Z Z Z Zq Z Z Z Z Z Z QG Qg (by simp; omega) (by omega) (fun a2 s=>(wl_clearTail 0 Z Z Z Z Z (fun h=>s (by simp at h ⊢; omega)) (by simp; omega) QG Q1X Z Z Z (Q2 (Q4 (Q5 [0,7,16,6,1,2] (S':=V6 ..) Z (Q6 (Q3 (wP Z ?_))))))))))))))
 refine QM (S':=V6 ..) Z Z Z Z Z (Q2 (Q4 (Q5 [6,0,7,16,1,2] (S':=V6 ..) Z (QJ (QA (Hr:=[.own 45 2 Q8 (.slice (some ⟨q,0,none⟩) ((L.take k ++ L.drop (k + 1)).length) c) (L.take k ++ L.drop (k + 1))]) [0] Tryz.results46 (Qy Z) ?_ (asK [] Z) Z Z (.inl Z))))))
 exact ⟨_,_,Z,Z,Z⟩
theorem Delete46_s (p:OA) (c:Nat) (i:Int) (L:List Q1) (h0 : 0 ≤ i) (hk:i.toNat < L.length):Q1z Tryz.prog 46 [.slice p L.length c,.int .i64 i,.int .i64 (i + 1)] [] [.own 45 2 Q8 (.slice p L.length c) L] (fun v Φr Hr=>∃ p' c',v = .slice p' (L.take i.toNat ++ L.drop (i.toNat + 1)).length c' ∧ Φr = [] ∧ Hr = [.own 45 2 Q8 v (L.take i.toNat ++ L.drop (i.toNat + 1))]):=by
 obtain ⟨k,rfl⟩:=Int.eq_ofNat_of_zero_le h0
 have e1:((k:Int) + 1) = ((k + 1:Nat):Int):=by omega
 rw [e1]
 exact Delete46_n p c k L hk

theorem Qak (N:Nat) (a1:Nat) (s:Addr) (y:Nat) (z:Nat) (l0:List Int) (aA:OA) (aJ:Nat) (aB:Nat) (l1:List Q1) (a3:OA) (a5:Nat) (a6:Nat) (l2:List Q1) (f:Nat) (e3:List (ByteArray × Bool)) (a4:Int) (o:OA) (q:Nat) (l5:List Int) (o0:Nat) (o1:List Int) (o4:List Q1) (o8:List Q1) (aR:List (ByteArray × Bool)) (hm:Q2e N l0 l1 l2 e3 a4 l5 = some (o0,o1,o4,o8,aR)):Q1z Tryz.prog 23 [.pointer (some ⟨a1,0,none⟩),.agg #[.int .i64 a4,.slice o l5.length q]] [.sli 1 Qh o q l5,tF] [.blk a1 [.slice (some s) y z,.slice aA aJ aB,.slice a3 a5 a6,.map (some f)] 66,.own 3 1 Qh (.slice (some s) y z) l0,.own 45 2 Q8 (.slice aA aJ aB) l1,.own 45 2 Q8 (.slice a3 a5 a6) l2,Q1Y (Q1h (QZ Q1Z)) false Q13 f e3] (fun v Φr Hr=>∃ (o2:OA) (o3:Nat) (o5:Nat) (o6:OA) (o7:Nat) (o9:Nat),v = .int .i64 ((o0:Nat):Int) ∧ Φr = [] ∧ Hr = [.blk a1 [.slice (some s) y z,.slice o2 o5 o3,.slice o6 o9 o7,.map (some f)] 66,.own 3 1 Qh (.slice (some s) y z) o1,.own 45 2 Q8 (.slice o2 o5 o3) o4,.own 45 2 Q8 (.slice o6 o9 o7) o8,Q1Y (Q1h (QZ Q1Z)) false Q13 f aR]):=by
 unfold Q2e at hm
 refine Q12 Tryz.func23 Z Tryz.ntmps23 Z (S:=[_,_]) Z (fun C=>(Q6 (Q3 (wB Z (fun g2=>(wB Z (fun g3=>(wP Z (Q2 (Q4 (Q5 [3,2] (S':=[_,_]) Z (Q6 (Q6 (Q3 (wD 1 0 Z Q5N Q5M Z ?_)))))))))))))))
 obtain ⟨_,aZ,hm⟩:=Q7 hm
 try dsimp only at hm
 refine wC [2,3,4,5,6] [0,1] Z fn_32 Z (Q2F N a1 s y z l0 aA aJ aB l1 a3 a5 a6 l2 f e3 aZ) (asK [1] Z) Z (H':=[_,_]) Z ?_
 rintro _ _ _ ⟨rfl,rfl,rfl⟩
 refine wP Z (Q2 (Q4 (Q5 [8,3,2] (S':=V3 ..) Z (Q2X Z (Q5 [3,2] (S':=[_,_]) Z (Qt (Q4 (Q6 (Q3 (wD 6 0 Z Q5N Q5M Z (wP Z (wF Z Q5j (wD 0 1 Z Q1O Q2I Z ?_)))))))))))))
 refine QaE Z Z Z Zq Z Z (QQ 2 Z (fun aK _=>?_))
 subst aK
 obtain ⟨j,aS,hm⟩:=Q7 hm
 refine wC [2,6,0,1,3,4,5] [] Z fn_44 Z (Q8M N aA l1.length aB l1 g2 a1 s y z l0 a3 a5 a6 l2 f e3 g3 a4 o q l5 _ aS) (asK [0,1] Z) Z (H':=[]) Z ?_
 rintro _ _ _ ⟨rfl,rfl,rfl⟩
 refine wP Z (Q2 (Q4 (Q5 [5,3,2] (S':=V3 ..) Z (Q6 (Q6 (Q3 (wP Z (wP Z (Q2 (Q4 (Q5 [16,5,3,2] (S':=V4 ..) Z ?_)))))))))))
 refine Qv Z (fun aD=>?_) (fun aD=>?_)
 replace hm:=Q1m hm aD
 refine Q5 [] (S':=[]) Z (Q6 (Q3 (wP Z (Q2 (Q4 (QJ (Qj ?_)))))))
 have hE:=(Zi hm).symm
 obtain ⟨hE0,hF1⟩:=Prod.mk.inj hE
 obtain ⟨hE1,hF2⟩:=Prod.mk.inj hF1
 obtain ⟨hE2,hF3⟩:=Prod.mk.inj hF2
 obtain ⟨hE3,hE4⟩:=Prod.mk.inj hF3
 clear hE hF1 hF2 hF3
 replace hE0:=hE0.symm
 subst hE0
 replace hE1:=hE1.symm
 subst hE1
 replace hE2:=hE2.symm
 subst hE2
 replace hE3:=hE3.symm
 subst hE3
 replace hE4:=hE4.symm
 subst hE4
 refine QA (Hr:=V5 ..) [2,3,0,4,5] Tryz.results23 (Qy Z) ⟨aA,aB,l1.length,a3,a6,a5,Z,Z,Z⟩ (asK [] Z) Z Z (.inl Z)
 replace hm:=Q1l hm aD
 refine Q5 [5,3,2] (S':=V3 ..) Z (Qt (Q4 (Q6 ?_)))
 obtain ⟨aT,hm⟩:=Qd hm
 obtain ⟨aU,hm⟩:=Qd hm
 obtain ⟨aL,hm⟩:=Qd hm
 refine QV [0,1,2,3,4,5,6,7,9,10] Z Z (fun hok=>(Qr hok 0 1 0 Z Z Z Zq Z Z Z Z (cs:=[_]) Z Q5N Q5M Z Z (Qr hok 1 1 0 Z Z Z Zq Z Z Z Z (cs:=[_]) Z Q5N Q5M Z Z (xP hok 2 Z (Qm hok 3 Z Z Z Zq Z Z Z Q5j (Qr hok 4 2 1 Z Z Z Zq Z Z Z Z (cs:=[_]) Z Q1O Q2I Z Z (xP hok 5 Z (xP hok 6 Z (xP hok 7 Z (Q1g (d:=24) (v':=.int .i64 (j + 1)) (S':=V10 ..) Z Z (i64_in aT) (xS hok 8 Z (wC [0] [1,2,3,4,5,6] Z fn_46 Z (Delete46_s aA aB j l1 aU aL) (asK [] Z) Z (H':=V6 ..) Z ?_))))))))))))
 rintro _ _ _ ⟨aM,aN,rfl,rfl,rfl⟩
 refine Q2 (Qs [0,0,2] [1,1] Z Z (xP hok 9 Z (Qm hok 10 Z Z Z Zq Z Z Z Q5j (xS hok 11 Z (wS 2 1 Z Q1O (all':=V4 ..) Z (H':=V7 ..) Z (Q2 (Qs [0,0,2] [] Z Z (QI hok Z (Q4 (Q5 [3,2] (S':=[_,_]) Z (Q6 ?_)))))))))))
 obtain ⟨aV,aW,hm⟩:=Q7 hm
 refine QV [0,1,2,3,4] Z Z (fun hok=>(Qr hok 0 1 0 Z Z Z Zq Z Z Z Z (cs:=[_]) Z Q5N Q5M Z Z (xP hok 1 Z (Qm hok 2 Z Z Z Zq Z Z Z Qaj (Qr hok 3 2 3 Z Z Z Zq Z Z Z Z (cs:=[_]) Z tS_64 tA_64 Z Z (Qr hok 4 6 0 Z Z Z Zq Z Z Z Z (cs:=[_,_]) Z Qg QT Z Z (xS hok 5 Z (wC [] [0,1,2,3,4,5,6] Z fn_42 Z (Q2W N a4 o q l5 _ aW) (asK [0,2] Z) Z (H':=V7 ..) Z ?_))))))))
 rintro _ _ _ ⟨rfl,rfl,rfl⟩
 refine Q2 (Qs [0,0,2] [2,1] Z Z (xS hok 6 Z (Q81 (i:=aV) (u:=true) (cs:=[.bool true]) ltB 5 Z Z (.inl Z) Z Z Z Z Q9i trivial Z (fun F w hφ=>⟨(),Z,Ql⟩) (H':=[.own 45 2 Q8 (.slice aM ((l1.take j.toNat ++ l1.drop (j.toNat + 1)).length) aN) (l1.take j.toNat ++ l1.drop (j.toNat + 1)),.blk g2 [.pointer (some ⟨a1,0,none⟩)] 30,.blk a1 [.slice (some s) y z,.slice aM ((l1.take j.toNat ++ l1.drop (j.toNat + 1)).length) aN,.slice a3 a5 a6,.map (some f)] 66,.own 3 1 Qh (.slice (some s) y z) l0,.own 45 2 Q8 (.slice a3 a5 a6) l2,Q1Y (Q1h (QZ Q1Z)) false Q13 f (Q7p ltB aV true e3),.blk g3 [.int .i64 a4,.slice o l5.length q] 45]) Z (Q2 (Qs [0,0,2] [] Z Z (QI hok Z (Q4 (Q5 [3,2] (S':=[_,_]) Z (Q6 ?_)))))))))
 obtain ⟨_,aX,hm⟩:=Q7 hm
 try dsimp only at hm
 obtain ⟨aI,hm⟩:=Qd hm
 refine QV [0,1,2,3,4,5,9,10] Z Z (fun hok=>(Qr hok 0 1 0 Z Z Z Zq Z Z Z Z (cs:=[_]) Z Q5N Q5M Z Z (Qr hok 1 1 0 Z Z Z Zq Z Z Z Z (cs:=[_]) Z Q5N Q5M Z Z (xP hok 2 Z (Qm hok 3 Z Z Z Zq Z Z Z Q5K (Qr hok 4 2 2 Z Z Z Zq Z Z Z Z (cs:=[_]) Z Q1O Q2I Z Z (Qr hok 5 6 0 Z Z Z Zq Z Z Z Z (cs:=[_,_]) Z Qg QT Z Z (xS hok 6 Z (wC [] [0,1,2,3,4,5,6] Z fn_33 Z (Q4c N a4 o q l5 aX) (asK [0,2] Z) Z (H':=V7 ..) Z ?_)))))))))
 rintro _ _ _ ⟨a7,a8,rfl,rfl,rfl⟩
 refine Q2 (Qs [0,0,2] [3,2,2] Z Z (xS hok 7 Z (Qq Z Z Z Zq Z QG Qg Q1X Z (zs:=[.int .i64 0,V1]) (by kernel_rfl) Z (out:=[_,_]) Z (fun bE=>(Q2 (Qs [0,0,2] [8,4,3,3] Z Z (xS hok 8 Z (Q6B 1 Z (H':=V8 ..) Z (Q2j (.sli 1 Qh a7 a8 l5) (fun F w hφ=>Q1d (hφ _ (Qo (k:=0) Z))) (Q21 ([(⟨a4,l5⟩ : Q1)]) 5 0 Z Z Z Zq Z Z Z Z Z (fun F w hφ=>⟨[.int .i64 a4,.slice a7 l5.length a8],[],Z,Z,⟨(a7,a8),Z,(Qe (hφ _ (Qo (k:=0) Z)) Ql)⟩,Z⟩) QG Q8i Z Z (Nat.le_trans aI (by decide)) (Nat.le_trans (Nat.mul_le_mul_right _ aI) (by decide)) (H2:=fun aE aF=>[_,_,_,_,_,.own 45 2 Q8 (.slice aE ((l2 ++ ([(⟨a4,l5⟩ : Q1)])).length) aF) (l2 ++ ([(⟨a4,l5⟩ : Q1)])),_,_]) (fun _ _=>Z) (fun aE aF=>(Q2J 0 Z (H':=V7 ..) Z (Q2 (Qs [2,2,4] [6,1,1] Z Z (xP hok 9 Z ?_)))))))))))))))
 refine Qm hok 10 Z Z Z Zq Z Z Z Q5K (xS hok 11 Z (wS 2 2 Z Q1O (all':=V4 ..) Z (H':=V7 ..) Z (Q2 (Qs [0,1,2,2,4] [] Z Z (QI hok Z (Q4 (Q5 [2] (S':=[_]) Z (Q6 ?_))))))))
 obtain ⟨⟨aO,b0⟩,aY,hm⟩:=Q7 hm
 try dsimp only at hm
 obtain ⟨aG,hm⟩:=Qd hm
 refine QV [0,1,2,3,4,5,6,7] Z Z (fun hok=>(Qr hok 0 1 0 Z Z Z Zq Z Z Z Z (cs:=[_]) Z Q5N Q5M Z Z (xP hok 1 Z (Qm hok 2 Z Z Z Zq Z Z Z Q5K (Qr hok 3 2 2 Z Z Z Zq Z Z Z Z (cs:=[_]) Z Q1O Q2I Z Z (Qr hok 4 1 0 Z Z Z Zq Z Z Z Z (cs:=[_]) Z Q5N Q5M Z Z (xP hok 5 Z (Qm hok 6 Z Z Z Zq Z Z Z Q61 (Qr hok 7 2 0 Z Z Z Zq Z Z Z Z (cs:=[_]) Z Q8G Q8F Z Z (xS hok 8 Z (Q71 Z Z Z Zq Z Z Z (Q2 (Qs [0,1,2,2,4] [1,2,1] Z Z (xS hok 9 Z ?_))))))))))))))
 refine wC [4,3] [0,1,2,5,6] Z fn_43 Z (Q25 N aE ((l2 ++ ([(⟨a4,l5⟩ : Q1)])).length) aF (l2 ++ ([(⟨a4,l5⟩ : Q1)])) s y z l0 _ _ aY) (asK [4] Z) Z (H':=V5 ..) Z ?_
 rintro _ _ _ ⟨b1,rfl,rfl,rfl⟩
 refine QQ 0 Z (fun aH _=>?_)
 subst aH
 refine Q1r 0 (φ':=.own 45 2 Q8 (.slice aE ((l2 ++ ([(⟨a4,l5⟩ : Q1)])).length) aF) aO) Z (by rw [aG]) (H':=V7 ..) Z (Q2 (Qs [0,1,2,2,4] [4,3,3] Z Z (QI hok Z (Q4 (Q5 [] (S':=[]) Z (Q6 (Q3 (wP Z (Q2 (Q4 (QJ ?_)))))))))))
 have hE:=(Zi hm).symm
 obtain ⟨hE0,hF1⟩:=Prod.mk.inj hE
 obtain ⟨hE1,hF2⟩:=Prod.mk.inj hF1
 obtain ⟨hE2,hF3⟩:=Prod.mk.inj hF2
 obtain ⟨hE3,hE4⟩:=Prod.mk.inj hF3
 clear hE hF1 hF2 hF3
 replace hE0:=hE0.symm
 subst hE0
 replace hE1:=hE1.symm
 subst hE1
 replace hE2:=hE2.symm
 subst hE2
 replace hE3:=hE3.symm
 subst hE3
 replace hE4:=hE4.symm
 subst hE4
 refine QA (Hr:=V5 ..) [4,1,2,0,5] Tryz.results23 (Qy Z) ⟨aM,aN,(l1.take j.toNat ++ l1.drop (j.toNat + 1)).length,aE,aF,(l2 ++ ([(⟨a4,l5⟩ : Q1)])).length,Z,Z,Z⟩ (asK [] Z) Z Z (.inl Z)
theorem Q98 (N:Nat) (a0:Int) (aB:OA) (aC:Nat) (l1:List Int) (aD:Nat) (a4:Nat) (a1:Addr) (a5:Nat) (a2:Nat) (l2:List Int) (a7:OA) (a8:Nat) (a9:Nat) (l3:List Q1) (o:OA) (q:Nat) (s:Nat) (l4:List Q1) (y:Nat) (e5:List (ByteArray × Bool)) (a3:Nat) (a6:Int) (f:Addr) (z:Nat) (j:Nat) (l7:List Int) (o0:Bool) (hm:Q2M N a0 l1 l2 l3 l4 e5 a6 l7 = some o0):Q1z Tryz.prog 45 [.agg #[.int .i64 a0,.slice aB l1.length aC],.pointer (some ⟨aD,0,none⟩),.pointer (some ⟨a3,0,none⟩)] [.sli 1 Qh aB aC l1,tF] [.blk aD [.pointer (some ⟨a4,0,none⟩)] 30,.blk a4 [.slice (some a1) a5 a2,.slice a7 a8 a9,.slice o q s,.map (some y)] 66,.own 3 1 Qh (.slice (some a1) a5 a2) l2,.own 45 2 Q8 (.slice a7 a8 a9) l3,.own 45 2 Q8 (.slice o q s) l4,Q1Y (Q1h (QZ Q1Z)) false Q13 y e5,.blk a3 [.int .i64 a6,.slice (some f) z j] 45,.own 3 1 Qh (.slice (some f) z j) l7] (fun v Φr Hr=>v = .bool o0 ∧ Φr = [] ∧ Hr = [.blk aD [.pointer (some ⟨a4,0,none⟩)] 30,.blk a4 [.slice (some a1) a5 a2,.slice a7 a8 a9,.slice o q s,.map (some y)] 66,.own 3 1 Qh (.slice (some a1) a5 a2) l2,.own 45 2 Q8 (.slice a7 a8 a9) l3,.own 45 2 Q8 (.slice o q s) l4,Q1Y (Q1h (QZ Q1Z)) false Q13 y e5,.blk a3 [.int .i64 a6,.slice (some f) z j] 45,.own 3 1 Qh (.slice (some f) z j) l7]):=by
 unfold Q2M at hm
 refine Q12 Tryz.func45 Z Tryz.ntmps45 Z (S:=V3 ..) Z (fun C=>(Q6 (Q3 (wB Z (fun g3=>(wP Z (Q2 (Q4 (Q5 [3,1,2] (S':=V3 ..) Z (Q6 ?_))))))))))
 obtain ⟨aP,aF,hm⟩:=Q7 hm
 refine QV [0,1,2,3,4,5,7] Z Z (fun hok=>(Qr hok 0 1 0 Z Z Z Zq Z Z Z Z (cs:=[_]) Z Q5N Q5M Z Z (xP hok 1 Z (Qm hok 2 Z Z Z Zq Z Z Z Q61 (Qr hok 3 2 0 Z Z Z Zq Z Z Z Z (cs:=[_]) Z Q8G Q8F Z Z (Qr hok 4 7 0 Z Z Z Zq Z Z Z Z (cs:=[_,_]) Z Qg QT Z Z (Qr hok 5 0 0 Z Z Z Zq Z Z Z Z (cs:=[_,_]) Z Qg QT Z Z (xS hok 6 Z (QQ 3 Z (fun aE _=>?_))))))))))
 subst aE
 refine QQ 8 Z (fun aA _=>?_)
 subst aA
 refine Q1y [] [0,1,2,3,4,5,6,7,8] [3,8] Z Z Z Zq Z Z Q5o Z (Q4D N (some a1) a2 l2 a6 (some f) j l7 a0 aB aC l1 _ aF) (fun F w hφ hh=>(Qe (Q1d (hh _ (Qo (k:=0) Z))) (Qe (Q1d (hh _ (Qo (k:=1) Z))) (Qe (hφ _ (Qo (k:=0) Z)) (Qe (hφ _ (Qo (k:=1) Z)) Ql))))) (fun _ _ _ hR=>by obtain ⟨rfl,rfl,rfl⟩:=hR; exact ⟨Z,(fun _ h=>Q1q h)⟩) Z Z (H':=V9 ..) Z ?_
 rintro _ _ _ ⟨rfl,rfl,rfl⟩
 refine Q2 (Qs [0,1] [1] Z Z (xP hok 7 Z (xS hok 8 Z (wP Z (Q2 (Qs [0,1] [] Z Z (QI hok Z (Q4 (Q5 [4] (S':=[_]) Z (QJ ?_))))))))))
 have hE:=(Zi hm).symm
 replace hE:=hE.symm
 subst hE
 refine QA (Hr:=V8 ..) [1,2,3,4,5,6,7,8] Tryz.results45 (Qy Z) ⟨Z,Z,Z⟩ (asK [] Z) Z Z (.inl Z)
theorem Q8N (N:Nat) (a2:OA) (z:Nat) (a0:Nat) (l0:List Q1) (aA:Nat) (a3:Nat) (a5:Addr) (a6:Nat) (a7:Nat) (l1:List Int) (a8:OA) (a9:Nat) (j:Nat) (l2:List Q1) (o:Nat) (e3:List (ByteArray × Bool)) (a1:Nat) (a4:Int) (q:Addr) (s:Nat) (y:Nat) (l5:List Int) (o0:Int) (hm:Q2u N l0 l1 l2 e3 a4 l5 = some o0):Q1z Tryz.prog 44 [.slice a2 z a0,.func (.func 45) #[] #[.pointer (some ⟨aA,0,none⟩),.pointer (some ⟨a1,0,none⟩)]] [tF] [.own 45 2 Q8 (.slice a2 z a0) l0,.blk aA [.pointer (some ⟨a3,0,none⟩)] 30,.blk a3 [.slice (some a5) a6 a7,.slice a2 z a0,.slice a8 a9 j,.map (some o)] 66,.own 3 1 Qh (.slice (some a5) a6 a7) l1,.own 45 2 Q8 (.slice a8 a9 j) l2,Q1Y (Q1h (QZ Q1Z)) false Q13 o e3,.blk a1 [.int .i64 a4,.slice (some q) s y] 45,.own 3 1 Qh (.slice (some q) s y) l5] (fun v Φr Hr=>v = .int .i64 o0 ∧ Φr = [] ∧ Hr = [.own 45 2 Q8 (.slice a2 z a0) l0,.blk aA [.pointer (some ⟨a3,0,none⟩)] 30,.blk a3 [.slice (some a5) a6 a7,.slice a2 z a0,.slice a8 a9 j,.map (some o)] 66,.own 3 1 Qh (.slice (some a5) a6 a7) l1,.own 45 2 Q8 (.slice a8 a9 j) l2,Q1Y (Q1h (QZ Q1Z)) false Q13 o e3,.blk a1 [.int .i64 a4,.slice (some q) s y] 45,.own 3 1 Qh (.slice (some q) s y) l5]):=by
 unfold Q2u at hm
 refine Q12 Tryz.func44 Z Tryz.ntmps44 Z (S:=[_,_]) Z (fun C=>(Q6 (Q3 (wP Z (Q2 (Q4 (Q5 [0,1] (S':=[_,_]) Z (Q6 ?_))))))))
 obtain ⟨aG,hm,hLj_1⟩:=Q1R hm
 refine Q15 (σ:=Unit) (fun _=>aG = .inl ()) (fun _=>[]) (fun _=>[tF]) (fun _=>[.own 45 2 Q8 (.slice a2 z a0) l0,.blk aA [.pointer (some ⟨a3,0,none⟩)] 30,.blk a3 [.slice (some a5) a6 a7,.slice a2 z a0,.slice a8 a9 j,.map (some o)] 66,.own 3 1 Qh (.slice (some a5) a6 a7) l1,.own 45 2 Q8 (.slice a8 a9 j) l2,Q1Y (Q1h (QZ Q1Z)) false Q13 o e3,.blk a1 [.int .i64 a4,.slice (some q) s y] 45,.own 3 1 Qh (.slice (some q) s y) l5]) ?_ ?_
 refine Q6 (Q3 (wP Z (QQ 0 Z (fun aS _=>(wN Z QG (Qx (d:=7) (v':=.int .i64 ((l0.length:Nat):Int)) (S':=V3 ..) Z Z (Q3F aS) (wP Z (Q2 (Q4 (Q5 [8,7,0,1] (S':=V4 ..) Z (Qn (Q1b (σ:=Nat × Nat) (fun (aB,f)=>Q1B (Q2c N l0 l1 l2 e3 a4 l5) aB f = some aG) (fun (aB,f)=>aB) (fun (aB,f)=>[(8,.int .i64 ((f:Nat):Int)),(7,.int .i64 ((l0.length:Nat):Int)),(0,.slice a2 z a0),(1,.func (.func 45) #[] #[.pointer (some ⟨aA,0,none⟩),.pointer (some ⟨a1,0,none⟩)])]) (fun (aB,f)=>[tF]) (fun (aB,f)=>[.own 45 2 Q8 (.slice a2 z a0) l0,.blk aA [.pointer (some ⟨a3,0,none⟩)] 30,.blk a3 [.slice (some a5) a6 a7,.slice a2 z a0,.slice a8 a9 j,.map (some o)] 66,.own 3 1 Qh (.slice (some a5) a6 a7) l1,.own 45 2 Q8 (.slice a8 a9 j) l2,Q1Y (Q1h (QZ Q1Z)) false Q13 o e3,.blk a1 [.int .i64 a4,.slice (some q) s y] 45,.own 3 1 Qh (.slice (some q) s y) l5]) (N,0) hm [8,7,0,1] Z (asK [0] Z) Z (fun s_ hm=>?_)))))))))))))
 obtain ⟨aB,f⟩:=s_
 try dsimp only at hm ⊢
 obtain ⟨aV,aW,aO,hq,hLu1⟩:=Q18 hm
 clear hm
 subst aO
 replace hm:=hq
 clear hq
 unfold Q2c at hm
 try dsimp only at hm
 refine Q6 (Q3 (wP Z (Qx (d:=9) (v':=.bool (decide (f < l0.length))) (S':=V4 ..) Z Z (Q20 (a:=f) (b:=l0.length)) (Q2 (Q4 (Q6 ?_))))))
 refine Qv Z (fun aN=>?_) (fun aN=>?_)
 replace hm:=Q1m hm aN
 refine Q5 [8,7,0,1] (S':=V4 ..) Z (Qt (Q4 (Q6 (Qn (Q6 (Q3 (wP Z (wP Z (Q2 (Q4 (Q5 [5,8,7,0,1] (S':=V5 ..) Z (Q6 (Q3 ?_)))))))))))))
 refine wP Z (wP Z (wP Z ?_))
 obtain ⟨aF,aH,hm⟩:=Q7 hm
 refine Q24 0 f Z Z Z Zq Z Z Z Z Z (QB aH) QG Qg (fun aT aP=>?_)
 subst aP
 refine Qk Qb 0 f 0 Z Z Z Zq Z Z Z aH Qg QT (v:=fun aD=>.agg #[.int .i64 (aF.rule),.slice aD.1 aF.ids.length aD.2]) (fun _=>Z) (fun _=>Z) (fun aD _=>?_)
 obtain ⟨aX,aQ,hm⟩:=Q7 hm
 refine wl_callDyn [1,2,3,0,4,5,6,7] [] Z Z Z Zq Z Z Z fn_45 Z Z (Q98 N aF.rule aD.1 aD.2 aF.ids aA a3 a5 a6 a7 l1 (some ⟨aT,0,none⟩) z a0 l0 a8 a9 j l2 o e3 a1 a4 q s y l5 _ aQ) (asK [0,1] Z) Z (H':=[]) Z ?_
 rintro _ _ _ ⟨rfl,rfl,rfl⟩
 refine Q2 (Q4 (Q5 [16,5,8,7,0,1] (S':=V6 ..) Z ?_))
 refine Qv Z (fun aE=>?_) (fun aE=>?_)
 replace hm:=Q1m hm aE
 refine Q5 [5] (S':=[_]) Z (Q6 (Q3 (wP Z (wP Z (Q2 (Q4 (Q5 [4] (S':=[_]) Z (QJ (QR (Qj (Qj (QR (Qj ?_)))))))))))))
 have hE:=(Zi hm).symm
 replace hE:=QE hLu1 hE
 replace hE:=QE hLj_1 hE
 replace hE:=hE.symm
 subst hE
 refine QA (Hr:=V8 ..) [3,0,1,2,4,5,6,7] Tryz.results44 (Qy Z) ⟨Z,Z,Z⟩ (asK [] Z) Z Z (.inl Z)
 replace hm:=Q1l hm aE
 refine Q5 [8,7,0,1] (S':=V4 ..) Z (Qt (Qi (Q4 (Q3 (wP Z ?_)))))
 obtain ⟨aR,hm⟩:=Qd hm
 refine Qx (d:=18) (v':=.int .i64 ((f + 1:Nat):Int)) (S':=V4 ..) Z Z (Q1f (a:=f) (b:=1) aR) (QM (S':=V4 ..) Z Z Z Z Z (Q2 ?_))
 have hE:=(Zi hm).symm
 replace hE:=Q11 hLu1 hE
 refine Q17 [3,0,1,2,4,5,6,7] Z (H':=V8 ..) Z ?_
 refine Q14 (_,f + 1) (Nat.lt_succ_self _) hE [8,7,0,1] Z (asK [1] Z) Z
 replace hm:=Q1l hm aN
 refine Q5 [] (S':=[]) Z (Q19 (Qc (Qc (Qu ?_))))
 have hE:=(Zi hm).symm
 replace hE:=QE hLu1 hE
 refine Qp () hE [] Z (asK [0] Z) Z
 rintro _ hE
 try dsimp only
 have hm:=Q11 hLj_1 hE
 try dsimp only at hm
 refine Q6 (Q3 (wP Z (Q2 (Q4 (QJ ?_)))))
 have hE:=(Zi hm).symm
 replace hE:=hE.symm
 subst hE
 refine QA (Hr:=V8 ..) [0,1,2,3,4,5,6,7] Tryz.results44 (Qy Z) ⟨Z,Z,Z⟩ (asK [] Z) Z Z (.inl Z)
theorem Q7E (N:Nat) (a1:Nat) (s:Addr) (y:Nat) (z:Nat) (l0:List Int) (aB:OA) (aL:Nat) (aC:Nat) (l1:List Q1) (a3:OA) (a5:Nat) (a6:Nat) (l2:List Q1) (f:Nat) (e3:List (ByteArray × Bool)) (a4:Int) (j:Addr) (aA:Nat) (o:Nat) (l5:List Int) (o0:Nat) (o1:List Int) (o4:List Q1) (o8:List Q1) (aT:List (ByteArray × Bool)) (hm:Q2e N l0 l1 l2 e3 a4 l5 = some (o0,o1,o4,o8,aT)):Q1z Tryz.prog 23 [.pointer (some ⟨a1,0,none⟩),.agg #[.int .i64 a4,.slice (some j) aA o]] [tF] [.blk a1 [.slice (some s) y z,.slice aB aL aC,.slice a3 a5 a6,.map (some f)] 66,.own 3 1 Qh (.slice (some s) y z) l0,.own 45 2 Q8 (.slice aB aL aC) l1,.own 45 2 Q8 (.slice a3 a5 a6) l2,Q1Y (Q1h (QZ Q1Z)) false Q13 f e3,.own 3 1 Qh (.slice (some j) aA o) l5] (fun v Φr Hr=>∃ (o2:OA) (o3:Nat) (o5:Nat) (o6:OA) (o7:Nat) (o9:Nat),v = .int .i64 ((o0:Nat):Int) ∧ Φr = [] ∧ Hr = [.blk a1 [.slice (some s) y z,.slice o2 o5 o3,.slice o6 o9 o7,.map (some f)] 66,.own 3 1 Qh (.slice (some s) y z) o1,.own 45 2 Q8 (.slice o2 o5 o3) o4,.own 45 2 Q8 (.slice o6 o9 o7) o8,Q1Y (Q1h (QZ Q1Z)) false Q13 f aT,.own 3 1 Qh (.slice (some j) aA o) l5]):=by
 unfold Q2e at hm
 refine Q12 Tryz.func23 Z Tryz.ntmps23 Z (S:=[_,_]) Z (fun C=>(Q6 (Q3 (wB Z (fun g2=>(wB Z (fun g3=>(wP Z (Q2 (Q4 (Q5 [3,2] (S':=[_,_]) Z (Q6 (Q6 (Q3 (wD 1 0 Z Q5N Q5M Z ?_)))))))))))))))
 obtain ⟨_,b1,hm⟩:=Q7 hm
 try dsimp only at hm
 refine wC [2,3,4,5,6] [0,1,7] Z fn_32 Z (Q2F N a1 s y z l0 aB aL aC l1 a3 a5 a6 l2 f e3 b1) (asK [0] Z) Z (H':=V3 ..) Z ?_
 rintro _ _ _ ⟨rfl,rfl,rfl⟩
 refine wP Z (Q2 (Q4 (Q5 [8,3,2] (S':=V3 ..) Z (Q2X Z (Q5 [3,2] (S':=[_,_]) Z (Qt (Q4 (Q6 (Q3 (wD 6 0 Z Q5N Q5M Z (wP Z (wF Z Q5j (wD 0 1 Z Q1O Q2I Z ?_)))))))))))))
 refine QaE Z Z Z Zq Z Z (QQ 2 Z (fun aM _=>?_))
 subst aM
 obtain ⟨q,aU,hm⟩:=Q7 hm
 refine wC [2,6,0,1,3,4,5,7] [] Z fn_44 Z (Q8N N aB l1.length aC l1 g2 a1 s y z l0 a3 a5 a6 l2 f e3 g3 a4 j aA o l5 _ aU) (asK [0] Z) Z (H':=[]) Z ?_
 rintro _ _ _ ⟨rfl,rfl,rfl⟩
 refine wP Z (Q2 (Q4 (Q5 [5,3,2] (S':=V3 ..) Z (Q6 (Q6 (Q3 (wP Z (wP Z (Q2 (Q4 (Q5 [16,5,3,2] (S':=V4 ..) Z ?_)))))))))))
 refine Qv Z (fun aE=>?_) (fun aE=>?_)
 replace hm:=Q1m hm aE
 refine Q5 [] (S':=[]) Z (Q6 (Q3 (wP Z (Q2 (Q4 (QJ (Qj ?_)))))))
 have hE:=(Zi hm).symm
 obtain ⟨hE0,hF1⟩:=Prod.mk.inj hE
 obtain ⟨hE1,hF2⟩:=Prod.mk.inj hF1
 obtain ⟨hE2,hF3⟩:=Prod.mk.inj hF2
 obtain ⟨hE3,hE4⟩:=Prod.mk.inj hF3
 clear hE hF1 hF2 hF3
 replace hE0:=hE0.symm
 subst hE0
 replace hE1:=hE1.symm
 subst hE1
 replace hE2:=hE2.symm
 subst hE2
 replace hE3:=hE3.symm
 subst hE3
 replace hE4:=hE4.symm
 subst hE4
 refine QA (Hr:=V6 ..) [2,3,0,4,5,7] Tryz.results23 (Qy Z) ⟨aB,aC,l1.length,a3,a6,a5,Z,Z,Z⟩ (asK [] Z) Z Z (.inl Z)
 replace hm:=Q1l hm aE
 refine Q5 [5,3,2] (S':=V3 ..) Z (Qt (Q4 (Q6 ?_)))
 obtain ⟨aV,hm⟩:=Qd hm
 obtain ⟨aW,hm⟩:=Qd hm
 obtain ⟨aN,hm⟩:=Qd hm
 refine QV [0,1,2,3,4,5,6,7,9,10] Z Z (fun hok=>(Qr hok 0 1 0 Z Z Z Zq Z Z Z Z (cs:=[_]) Z Q5N Q5M Z Z (Qr hok 1 1 0 Z Z Z Zq Z Z Z Z (cs:=[_]) Z Q5N Q5M Z Z (xP hok 2 Z (Qm hok 3 Z Z Z Zq Z Z Z Q5j (Qr hok 4 2 1 Z Z Z Zq Z Z Z Z (cs:=[_]) Z Q1O Q2I Z Z (xP hok 5 Z (xP hok 6 Z (xP hok 7 Z (Q1g (d:=24) (v':=.int .i64 (q + 1)) (S':=V10 ..) Z Z (i64_in aV) (xS hok 8 Z (wC [0] [1,2,3,4,5,6,7] Z fn_46 Z (Delete46_s aB aC q l1 aW aN) (asK [] Z) Z (H':=V7 ..) Z ?_))))))))))))
 rintro _ _ _ ⟨aO,aP,rfl,rfl,rfl⟩
 refine Q2 (Qs [0] [1,1] Z Z (xP hok 9 Z (Qm hok 10 Z Z Z Zq Z Z Z Q5j (xS hok 11 Z (wS 2 1 Z Q1O (all':=V4 ..) Z (H':=V8 ..) Z (Q2 (Qs [0] [] Z Z (QI hok Z (Q4 (Q5 [3,2] (S':=[_,_]) Z (Q6 ?_)))))))))))
 obtain ⟨aX,aY,hm⟩:=Q7 hm
 refine QV [0,1,2,3,4] Z Z (fun hok=>(Qr hok 0 1 0 Z Z Z Zq Z Z Z Z (cs:=[_]) Z Q5N Q5M Z Z (xP hok 1 Z (Qm hok 2 Z Z Z Zq Z Z Z Qaj (Qr hok 3 2 3 Z Z Z Zq Z Z Z Z (cs:=[_]) Z tS_64 tA_64 Z Z (Qr hok 4 6 0 Z Z Z Zq Z Z Z Z (cs:=[_,_]) Z Qg QT Z Z (xS hok 5 Z (QQ 7 Z (fun aJ _=>?_)))))))))
 subst aJ
 refine Q1y [] [0,1,2,3,4,5,6,7] [7] Z Z Z Zq Z Z fn_42 Z (Q2W N a4 (some j) o l5 _ aY) (fun F w hφ hh=>(Qe (Q1d (hh _ (Qo (k:=0) Z))) (Qe (hφ _ (Qo (k:=0) Z)) Ql))) (fun _ _ _ hR=>by obtain ⟨rfl,rfl,rfl⟩:=hR; exact ⟨Z,(fun _ h=>Q1q h)⟩) Z Z (H':=V8 ..) Z ?_
 rintro _ _ _ ⟨rfl,rfl,rfl⟩
 refine Q2 (Qs [0] [2,1] Z Z (xS hok 6 Z (Q81 (i:=aX) (u:=true) (cs:=[.bool true]) ltB 5 Z Z (.inl Z) Z Z Z Z Q9i trivial Z (fun F w hφ=>⟨(),Z,Ql⟩) (H':=[.own 45 2 Q8 (.slice aO ((l1.take q.toNat ++ l1.drop (q.toNat + 1)).length) aP) (l1.take q.toNat ++ l1.drop (q.toNat + 1)),.blk g2 [.pointer (some ⟨a1,0,none⟩)] 30,.blk a1 [.slice (some s) y z,.slice aO ((l1.take q.toNat ++ l1.drop (q.toNat + 1)).length) aP,.slice a3 a5 a6,.map (some f)] 66,.own 3 1 Qh (.slice (some s) y z) l0,.own 45 2 Q8 (.slice a3 a5 a6) l2,Q1Y (Q1h (QZ Q1Z)) false Q13 f (Q7p ltB aX true e3),.blk g3 [.int .i64 a4,.slice (some j) l5.length o] 45,.own 3 1 Qh (.slice (some j) l5.length o) l5]) Z (Q2 (Qs [0] [] Z Z (QI hok Z (Q4 (Q5 [3,2] (S':=[_,_]) Z (Q6 ?_)))))))))
 obtain ⟨_,aZ,hm⟩:=Q7 hm
 try dsimp only at hm
 obtain ⟨aK,hm⟩:=Qd hm
 refine QV [0,1,2,3,4,5,9,10] Z Z (fun hok=>(Qr hok 0 1 0 Z Z Z Zq Z Z Z Z (cs:=[_]) Z Q5N Q5M Z Z (Qr hok 1 1 0 Z Z Z Zq Z Z Z Z (cs:=[_]) Z Q5N Q5M Z Z (xP hok 2 Z (Qm hok 3 Z Z Z Zq Z Z Z Q5K (Qr hok 4 2 2 Z Z Z Zq Z Z Z Z (cs:=[_]) Z Q1O Q2I Z Z (Qr hok 5 6 0 Z Z Z Zq Z Z Z Z (cs:=[_,_]) Z Qg QT Z Z (xS hok 6 Z (Q1y [] [0,1,2,3,4,5,6,7] [7] Z Z Z Zq Z Z fn_33 Z (Q4c N a4 (some j) o l5 aZ) (fun F w hφ hh=>(Qe (Q1d (hh _ (Qo (k:=0) Z))) (Qe (hφ _ (Qo (k:=0) Z)) Ql))) (fun _ _ _ hR=>by obtain ⟨_,_,rfl,rfl,rfl⟩:=hR; exact ⟨Z,(Q7u (Q8g Q6Z) (fun _ h=>Q1q h))⟩) Z Z (H':=V8 ..) Z ?_)))))))))
 rintro _ _ _ ⟨a7,a8,rfl,rfl,rfl⟩
 refine Q2 (Qs [0] [3,2,2] Z Z (xS hok 7 Z (Qq Z Z Z Zq Z QG Qg Q1X Z (zs:=[.int .i64 0,V1]) (by kernel_rfl) Z (out:=[_,_]) Z (fun bG=>(Q2 (Qs [0] [8,4,3,3] Z Z (xS hok 8 Z (Q6B 1 Z (H':=V9 ..) Z (Q2j (.sli 1 Qh a7 a8 l5) (fun F w hφ=>Q1d (hφ _ (Qo (k:=0) Z))) (Q21 ([(⟨a4,l5⟩ : Q1)]) 5 0 Z Z Z Zq Z Z Z Z Z (fun F w hφ=>⟨[.int .i64 a4,.slice a7 l5.length a8],[],Z,Z,⟨(a7,a8),Z,(Qe (hφ _ (Qo (k:=0) Z)) Ql)⟩,Z⟩) QG Q8i Z Z (Nat.le_trans aK (by decide)) (Nat.le_trans (Nat.mul_le_mul_right _ aK) (by decide)) (H2:=fun aF aG=>[_,_,_,_,_,.own 45 2 Q8 (.slice aF ((l2 ++ ([(⟨a4,l5⟩ : Q1)])).length) aG) (l2 ++ ([(⟨a4,l5⟩ : Q1)])),_,_,_]) (fun _ _=>Z) (fun aF aG=>(Q2J 0 Z (H':=V8 ..) Z (Q2 (Qs [2] [6,1,1] Z Z (xP hok 9 Z ?_)))))))))))))))
 refine Qm hok 10 Z Z Z Zq Z Z Z Q5K (xS hok 11 Z (wS 2 2 Z Q1O (all':=V4 ..) Z (H':=V8 ..) Z (Q2 (Qs [0,1,2] [] Z Z (QI hok Z (Q4 (Q5 [2] (S':=[_]) Z (Q6 ?_))))))))
 obtain ⟨⟨aQ,b2⟩,b0,hm⟩:=Q7 hm
 try dsimp only at hm
 obtain ⟨aH,hm⟩:=Qd hm
 refine QV [0,1,2,3,4,5,6,7] Z Z (fun hok=>(Qr hok 0 1 0 Z Z Z Zq Z Z Z Z (cs:=[_]) Z Q5N Q5M Z Z (xP hok 1 Z (Qm hok 2 Z Z Z Zq Z Z Z Q5K (Qr hok 3 2 2 Z Z Z Zq Z Z Z Z (cs:=[_]) Z Q1O Q2I Z Z (Qr hok 4 1 0 Z Z Z Zq Z Z Z Z (cs:=[_]) Z Q5N Q5M Z Z (xP hok 5 Z (Qm hok 6 Z Z Z Zq Z Z Z Q61 (Qr hok 7 2 0 Z Z Z Zq Z Z Z Z (cs:=[_]) Z Q8G Q8F Z Z (xS hok 8 Z (Q71 Z Z Z Zq Z Z Z (Q2 (Qs [0,1,2] [1,2,1] Z Z (xS hok 9 Z ?_))))))))))))))
 refine wC [4,3] [0,1,2,5,6,7] Z fn_43 Z (Q25 N aF ((l2 ++ ([(⟨a4,l5⟩ : Q1)])).length) aG (l2 ++ ([(⟨a4,l5⟩ : Q1)])) s y z l0 _ _ b0) (asK [2] Z) Z (H':=V6 ..) Z ?_
 rintro _ _ _ ⟨b3,rfl,rfl,rfl⟩
 refine QQ 0 Z (fun aI _=>?_)
 subst aI
 refine Q1r 0 (φ':=.own 45 2 Q8 (.slice aF ((l2 ++ ([(⟨a4,l5⟩ : Q1)])).length) aG) aQ) Z (by rw [aH]) (H':=V8 ..) Z (Q2 (Qs [0,1,2] [4,3,3] Z Z (QI hok Z (Q4 (Q5 [] (S':=[]) Z (Q6 (Q3 (wP Z (Q2 (Q4 (QJ ?_)))))))))))
 have hE:=(Zi hm).symm
 obtain ⟨hE0,hF1⟩:=Prod.mk.inj hE
 obtain ⟨hE1,hF2⟩:=Prod.mk.inj hF1
 obtain ⟨hE2,hF3⟩:=Prod.mk.inj hF2
 obtain ⟨hE3,hE4⟩:=Prod.mk.inj hF3
 clear hE hF1 hF2 hF3
 replace hE0:=hE0.symm
 subst hE0
 replace hE1:=hE1.symm
 subst hE1
 replace hE2:=hE2.symm
 subst hE2
 replace hE3:=hE3.symm
 subst hE3
 replace hE4:=hE4.symm
 subst hE4
 refine QA (Hr:=V6 ..) [4,1,2,0,5,7] Tryz.results23 (Qy Z) ⟨aO,aP,(l1.take q.toNat ++ l1.drop (q.toNat + 1)).length,aF,aG,(l2 ++ ([(⟨a4,l5⟩ : Q1)])).length,Z,Z,Z⟩ (asK [] Z) Z Z (.inl Z)
theorem Q3U (N:Nat) (aI:Nat) (aA:Addr) (aB:Nat) (aC:Nat) (l0:List Int) (aD:OA) (aE:Nat) (aF:Nat) (l1:List Q1) (a7:OA) (a8:Nat) (a9:Nat) (l2:List Q1) (a5:Nat) (e3:List (ByteArray × Bool)) (o2:List Q1) (hm:Q36 N l0 l1 l2 e3 = some o2):Q1z Tryz.prog 15 [.pointer (some ⟨aI,0,none⟩)] [tF] [.blk aI [.slice (some aA) aB aC,.slice aD aE aF,.slice a7 a8 a9,.map (some a5)] 66,.own 3 1 Qh (.slice (some aA) aB aC) l0,.own 45 2 Q8 (.slice aD aE aF) l1,.own 45 2 Q8 (.slice a7 a8 a9) l2,Q1Y (Q1h (QZ Q1Z)) false Q13 a5 e3] (fun v Φr Hr=>∃ (o0:OA) (o1:Nat) (o3:Nat),v = .slice o0 o3 o1 ∧ Φr = [] ∧ Hr = [Q1e Qa 45 2 (.slice o0 o3 o1) o2,.blk aI [.slice (some aA) aB aC,.slice aD aE aF,.slice a7 a8 a9,.map (some a5)] 66,.own 3 1 Qh (.slice (some aA) aB aC) l0,.own 45 2 Q8 (.slice aD aE aF) l1,.own 45 2 Q8 (.slice a7 a8 a9) l2,Q1Y (Q1h (QZ Q1Z)) false Q13 a5 e3]):=by
 unfold Q36 at hm
 refine Q12 Tryz.func15 Z Tryz.ntmps15 Z (S:=[_]) Z (fun C=>(Q6 (Q3 (wP Z (Q2 (Q4 (Q5 [0] (S':=[_]) Z (Q6 (Q6 (Q3 (wP Z ?_)))))))))))
 obtain ⟨_,b2,hm⟩:=Q7 hm
 try dsimp only at hm
 refine wC [0,1,2,3,4] [] Z fn_32 Z (Q2F N aI aA aB aC l0 aD aE aF l1 a7 a8 a9 l2 a5 e3 b2) (asK [0] Z) Z (H':=[]) Z ?_
 rintro _ _ _ ⟨rfl,rfl,rfl⟩
 refine wP Z (Q2 (Q4 (Q5 [8,0] (S':=[_,_]) Z (Q2X Z (Q5 [0] (S':=[_]) Z (Qt (Q4 (Q6 (Q3 (wP Z (Q2 (Q4 (Q6 ?_)))))))))))))
 obtain ⟨aQ,hm,hLj_1⟩:=Q7 hm
 refine Q15 (σ:=(List Q1) × OA × Nat × Nat) (fun (a2,o,q,s)=>aQ = a2) (fun (a2,o,q,s)=>[(3,.slice o s q)]) (fun (a2,o,q,s)=>[tF]) (fun (a2,o,q,s)=>[Q1e Qa 45 2 (.slice o s q) a2,.blk aI [.slice (some aA) aB aC,.slice aD aE aF,.slice a7 a8 a9,.map (some a5)] 66,.own 3 1 Qh (.slice (some aA) aB aC) l0,.own 45 2 Q8 (.slice aD aE aF) l1,.own 45 2 Q8 (.slice a7 a8 a9) l2,Q1Y (Q1h (QZ Q1Z)) false Q13 a5 e3]) ?_ ?_
 refine Q6 (Q3 (wP Z (wP Z (wF Z Q5K (wD 0 2 Z Q1O Q2I Z (QQ 3 Z (fun aV _=>(wN Z QG (Qx (d:=13) (v':=.int .i64 ((l2.length:Nat):Int)) (S':=V6 ..) Z Z (Q3F aV) (wP Z (Q2 (Q4 (Q5 [14,13,12,3] (S':=V4 ..) Z (Qn ?_))))))))))))))
 refine Q77 [Q1e Qa 45 2 (V1) [],_,_,_,_,_] (fun _ h=>h.treeNil Qa 45 2) (Q3l [4,0,1,2,3,5] Z (H':=V6 ..) Z (Q1b (σ:=Nat × Nat × (List Q1) × OA × Nat × Nat) (fun (aG,j,f,z,a0,a1)=>Q1B (Q66 N l2) aG (j,f) = some aQ) (fun (aG,j,f,z,a0,a1)=>aG) (fun (aG,j,f,z,a0,a1)=>[(14,.int .i64 ((j:Nat):Int)),(13,.int .i64 ((l2.length:Nat):Int)),(12,.slice a7 a8 a9),(3,.slice z a1 a0)]) (fun (aG,j,f,z,a0,a1)=>[tF]) (fun (aG,j,f,z,a0,a1)=>[.own 45 2 Q8 (.slice a7 a8 a9) l2,Q1e Qa 45 2 (.slice z a1 a0) f,.blk aI [.slice (some aA) aB aC,.slice aD aE aF,.slice a7 a8 a9,.map (some a5)] 66,.own 3 1 Qh (.slice (some aA) aB aC) l0,.own 45 2 Q8 (.slice aD aE aF) l1,Q1Y (Q1h (QZ Q1Z)) false Q13 a5 e3]) (N,0,[],none,0,0) hm [14,13,12,3] Z (asK [0] Z) Z (fun s_ hm=>?_)))
 obtain ⟨aG,j,f,z,a0,a1⟩:=s_
 try dsimp only at hm ⊢
 obtain ⟨b7,b8,aW,hq,hLu1⟩:=Q18 hm
 clear hm
 subst aW
 replace hm:=hq
 clear hq
 unfold Q66 at hm
 try dsimp only at hm
 refine Q6 (Q3 (wP Z (Qx (d:=15) (v':=.bool (decide (j < l2.length))) (S':=V4 ..) Z Z (Q20 (a:=j) (b:=l2.length)) (Q2 (Q4 (Q6 ?_))))))
 refine Qv Z (fun aM=>?_) (fun aM=>?_)
 replace hm:=Q1m hm aM
 refine Q5 [14,13,12,3] (S':=V4 ..) Z (Qt (Q4 (Q6 (Qn (Q6 (Q3 ?_))))))
 obtain ⟨y,aR,hm⟩:=Q7 hm
 refine Q24 0 j Z Z Z Zq Z Z Z Z Z (QB aR) QG Qg (fun b9 aX=>?_)
 subst aX
 refine Qk Qb 0 j 0 Z Z Z Zq Z Z Z aR Qg QT (v:=fun aN=>.agg #[.int .i64 (y.rule),.slice aN.1 y.ids.length aN.2]) (fun _=>Z) (fun _=>Z) (fun aN _=>(Q1s Z Z Z Zq Z Q1X Z (fun g5=>(wS 0 0 Z Qg (all':=[_,_]) Z (H':=V7 ..) Z (Q2 (Q4 (Q5 [5,14,13,12,3] (S':=V5 ..) Z (Q3 (wP Z (Q1E 0 0 Z Z Z Zq Z Z Z (cs:=[_,_]) Z Qg QT Z Z ?_))))))))))
 obtain ⟨_,aY,hm⟩:=Q7 hm
 try dsimp only at hm
 refine wC [] [0,1,2,3,4,5,6] Z fn_33 Z (Q4c N y.rule aN.1 aN.2 y.ids aY) (asK [0,1] Z) Z (H':=V7 ..) Z ?_
 rintro _ _ _ ⟨a3,a4,rfl,rfl,rfl⟩
 refine Qq Z Z Z Zq Z QG Qg Q1X Z (zs:=[.int .i64 0,V1]) (by kernel_rfl) Z (out:=[_,_]) Z (fun bA=>(Q1J 4 Z (fun aZ _=>?_)))
 subst aZ
 refine Q39 4 Z (fun a6 aO=>?_)
 obtain ⟨b0,hm⟩:=Qd hm
 have aH:List.map (fun x:Q1 × (OA × Nat)=>x.1) (a6 ++ [(y,(a3,a4))]) = f ++ [y]:=Q8D aO (us:=[y]) rfl
 have aP:a6.length + ([(y,(a3,a4))] : List (Q1 × (OA × Nat))).length ≤ 4398046511104:=by rw [Q2t aO]; exact b0
 refine Q21 (R:=Qa.pair) ([(y,(a3,a4))]) 5 1 Z Z Z Zq Z Z Z Z Z (fun F w hφ=>⟨[.int .i64 (y.rule),.slice a3 y.ids.length a4],[],Z,Z,Z,Z⟩) QG Q8i Z Z (Nat.le_trans aP (by decide)) (Nat.le_trans (Nat.mul_le_mul_right _ aP) (by decide)) (H2:=fun aJ aK=>[_,_,_,_,_,.own 45 2 Qa.pair (.slice aJ ((a6 ++ [(y,(a3,a4))]).length) aK) (a6 ++ [(y,(a3,a4))]),_,_,_,_]) (fun _ _=>Z) (fun aJ aK=>(Q2J 1 Z (H':=V9 ..) Z (Qx (d:=22) (v':=.slice aJ ((f ++ [y]).length) aK) (S':=V9 ..) Z Z (by rw [Q2t aH]) (Q1r 4 (φ':=.own 45 2 Qa.pair (.slice aJ ((f ++ [y]).length) aK) (a6 ++ [(y,(a3,a4))])) Z (by rw [Q2t aH]) (H':=V9 ..) Z (Q1S [1,0,2,3,4,5,6,7,8] Z (H':=V9 ..) Z (Q1t [Q1w Qa (a6 ++ [(y,(a3,a4))]) none,_,_,_,_,_,_,_] (fun _ h=>QU.bagPush (T:=Qa) (x:=y) (r:=(a3,a4)) (zs:=a6) (H:=V8 ..) h 0 Z) (Q1t [_,_,Q1e Qa 45 2 (.slice aJ ((f ++ [y]).length) aK) (f ++ [y]),_,_,_,_] (fun _ h=>h.treeIn 3 0 Z Z Z aH) (QM (S':=V9 ..) Z Z Z Z Z (Q2 (Qi (Q4 (Q5 [3,14,13,12] (S':=V4 ..) Z (Q3 (wP Z ?_))))))))))))))
 obtain ⟨b1,hm⟩:=Qd hm
 refine Qx (d:=23) (v':=.int .i64 ((j + 1:Nat):Int)) (S':=V4 ..) Z Z (Q1f (a:=j) (b:=1) b1) (QM (S':=V4 ..) Z Z Z Z Z (Q2 ?_))
 have hE:=(Zi hm).symm
 replace hE:=Q11 hLu1 hE
 refine Q17 [1,2,3,4,5,6] Z (H':=V6 ..) Z ?_
 refine Q14 (_,j + 1,f ++ [y],aJ,aK,(f ++ [y]).length) (Nat.lt_succ_self _) hE [14,13,12,3] Z (asK [1] Z) Z
 replace hm:=Q1l hm aM
 refine Q5 [3] (S':=[_]) Z (Q19 (Qc (Qc (Qu ?_))))
 have hE:=(Zi hm).symm
 replace hE:=QE hLu1 hE
 refine Q17 [1,2,3,4,0,5] Z (H':=V6 ..) Z ?_
 refine Qp (f,z,a0,a1) hE [3] Z (asK [0] Z) Z
 rintro ⟨a2,o,q,s⟩ hE
 try dsimp only
 have hm:=hLj_1
 try rw [hE] at hm
 refine Q6 (Q3 (wP Z (wP Z (Q2 (Q4 (Q5 [2] (S':=[_]) Z (QJ ?_)))))))
 have hE:=(Zi hm).symm
 replace hE:=hE.symm
 subst hE
 refine QA (Hr:=V6 ..) [0,1,2,3,4,5] Tryz.results15 (Qy Z) ⟨o,q,s,Z,Z,Z⟩ (asK [] Z) Z Z (.inl Z)
theorem Q2G (N:Nat)   (hm:Q2h N = some ()):Q1z Tryz.prog 5 [] [tF] [] (fun v Φr Hr=>v = .bool true ∧ Φr = [] ∧ Hr = []):=by
 unfold Q2h at hm
 refine Q12 Tryz.func5 Z Tryz.ntmps5 Z (S:=[]) Z (fun C=>(Q6 (Q3 (wP Z (Q2 (Q4 (Q5 [] (S':=[]) Z (Q6 (Q3 (Qq Z Z Z Zq Z Q1a Q1i Q3S Z (zs:=[.int .i64 0,.int .i64 0]) (by kernel_rfl) Z (out:=[_,_]) Z (fun g3=>(Q1U (sz:=1) (m:=2) Qh ([0,5]) 0 Z (fun F w hφ=>⟨[.int .i64 0],[.int .i64 5],Z,Z,⟨(),Z,Ql⟩,⟨[.int .i64 5],[],Z,Z,⟨(),Z,Ql⟩,Z⟩⟩) Z (by decide) (H':=[_]) Z ?_))))))))))))
 obtain ⟨v4,fD,hm⟩:=Q7 hm
 refine wC [0] [] Z fn_6 Z (Qa8 N ⟨g3,0,none⟩ ([0,5].length) 2 [0,5] _ fD) (asK [0] Z) Z (H':=[]) Z ?_
 rintro _ _ _ ⟨f,j,fL,rfl,rfl,rfl⟩
 obtain ⟨c0,hm⟩:=Qd hm
 refine Q23 1 (v':=.slice (some ⟨g3,0,none⟩) ([0,5].length) 2) Z (by rw [c0]) (Q1s Z Z Z Zq Z tZ_28 Z (fun g1=>(wS 0 0 Z Q4z (all':=[_,_]) Z (H':=V3 ..) Z (Q2 (Q4 (Q5 [1] (S':=[_]) Z (Q6 (Q6 ?_))))))))
 obtain ⟨_,fE,hm⟩:=Q7 hm
 try dsimp only at hm
 obtain ⟨_,fF,hm⟩:=Q7 hm
 try dsimp only at hm
 obtain ⟨fR,dZ,hm⟩:=Q7 hm
 obtain ⟨cY,hm⟩:=Qd hm
 obtain ⟨_,e0,hm⟩:=Q7 hm
 try dsimp only at hm
 obtain ⟨_,e1,hm⟩:=Q7 hm
 try dsimp only at hm
 obtain ⟨fS,e2,hm⟩:=Q7 hm
 obtain ⟨cZ,hm⟩:=Qd hm
 obtain ⟨_,e3,hm⟩:=Q7 hm
 try dsimp only at hm
 obtain ⟨_,e4,hm⟩:=Q7 hm
 try dsimp only at hm
 obtain ⟨fT,e5,hm⟩:=Q7 hm
 obtain ⟨d0,hm⟩:=Qd hm
 obtain ⟨_,e6,hm⟩:=Q7 hm
 try dsimp only at hm
 obtain ⟨_,e7,hm⟩:=Q7 hm
 try dsimp only at hm
 obtain ⟨fU,e8,hm⟩:=Q7 hm
 obtain ⟨d1,hm⟩:=Qd hm
 refine wc_ownLen 1 Z (fun c1 _=>?_)
 subst c1
 refine wc_flow (Y:=Nat) (H0:=[.blk g1 [V1,.slice f v4.length j] 28,.own 38 5 QO (.slice f v4.length j) v4,.own 3 1 Qh (.slice (some ⟨g3,0,none⟩) ([0,5].length) 2) ([0,5])]) [⟨5,[0],[],34,[],fun _=>.agg #[V1,.slice f v4.length j],fun _=>[],fun _=>[]⟩,⟨6,[1],[],2,[],fun E=>.slice (some ⟨(E 1),0,none⟩) 2 2,fun _=>[],fun E=>[.blk (E 1) [.int .i64 9,.int .i64 8] 3]⟩,⟨7,[1,2],[1],5,[],fun E=>.agg #[.int .i64 0,.slice (some ⟨(E 1),0,none⟩) ([9,8].length) 2],fun _=>[],fun E=>[.own 3 1 Qh (.slice (some ⟨(E 1),0,none⟩) ([9,8].length) 2) ([9,8])]⟩,⟨8,[3],[],4,[],fun E=>.slice (some ⟨(E 3),0,none⟩) 2 2,fun _=>[],fun E=>[.blk (E 3) [.int .i64 9,.int .i64 7] 3]⟩,⟨9,[1,2,3,4],[3],5,[],fun E=>.agg #[.int .i64 0,.slice (some ⟨(E 3),0,none⟩) ([9,7].length) 2],fun _=>[],fun E=>[.own 3 1 Qh (.slice (some ⟨(E 3),0,none⟩) ([9,7].length) 2) ([9,7])]⟩,⟨10,[0,1,2,3,4,5],[0,2,4],34,[],fun _=>.bool true,fun _=>[.sli 2 QL none 0 ([] : List Qw)],fun _=>[]⟩,⟨11,[0,1,2,3,4,5,6],[5],34,[],fun _=>.bool false,fun _=>[],fun _=>[]⟩,⟨12,[0,1,2,3,4,5,6,7],[6],34,[],fun _=>.bool false,fun _=>[],fun _=>[]⟩,⟨13,[0,1,2,3,4,5,6,7,8],[7],34,[],fun _=>.agg #[V1,.slice f v4.length j],fun _=>[],fun _=>[]⟩,⟨14,[0,1,2,3,4,5,6,7,9],[7],10,[],fun E=>.slice (some ⟨(E 9),0,none⟩) 2 2,fun _=>[],fun E=>[.blk (E 9) [.int .i64 9,.int .i64 8] 3]⟩,⟨15,[0,1,2,3,4,5,6,7,9,10],[7,9],13,[],fun E=>.agg #[.int .i64 0,.slice (some ⟨(E 9),0,none⟩) ([9,8].length) 2],fun _=>[],fun E=>[.own 3 1 Qh (.slice (some ⟨(E 9),0,none⟩) ([9,8].length) 2) ([9,8])]⟩,⟨16,[0,1,2,3,4,5,6,7,11],[7],12,[],fun E=>.slice (some ⟨(E 11),0,none⟩) 1 1,fun _=>[],fun E=>[.blk (E 11) [.int .i64 9] 3]⟩,⟨17,[0,1,2,3,4,5,6,7,9,10,11,12],[7,11],13,[],fun E=>.agg #[.int .i64 0,.slice (some ⟨(E 11),0,none⟩) [9].length 1],fun _=>[],fun E=>[.own 3 1 Qh (.slice (some ⟨(E 11),0,none⟩) [9].length 1) [9]]⟩,⟨18,[0,1,2,3,4,5,6,7,8,9,10,11,12,13],[7,8,10,12],34,[],fun _=>.bool true,fun _=>[.sli 2 QL none 0 ([] : List Qw)],fun _=>[]⟩,⟨19,[0,1,2,3,4,5,6,7,8,9,10,11,12,13,14],[7,13],34,[],fun _=>.bool false,fun _=>[],fun _=>[]⟩,⟨20,[0,1,2,3,4,5,6,7,8,9,10,11,12,13,14,15],[7,14],34,[],fun _=>.bool false,fun _=>[],fun _=>[]⟩,⟨21,[0,1,2,3,4,5,6,7,8,9,10,11,12,13,14,15,16],[15],34,[],fun _=>.bool false,fun _=>[],fun _=>[]⟩,⟨22,[0,1,2,3,4,5,6,7,8,9,10,11,12,13,14,15,16,17],[16],34,[],fun _=>.agg #[V1,.slice f v4.length j],fun _=>[],fun _=>[]⟩,⟨23,[0,1,2,3,4,5,6,7,8,9,10,11,12,13,14,15,16,18],[16],19,[],fun E=>.slice (some ⟨(E 18),0,none⟩) 1 1,fun _=>[],fun E=>[.blk (E 18) [.int .i64 1] 3]⟩,⟨24,[0,1,2,3,4,5,6,7,8,9,10,11,12,13,14,15,16,18,19],[16,18],22,[],fun E=>.agg #[.int .i64 1,.slice (some ⟨(E 18),0,none⟩) [1].length 1],fun _=>[],fun E=>[.own 3 1 Qh (.slice (some ⟨(E 18),0,none⟩) [1].length 1) [1]]⟩,⟨25,[0,1,2,3,4,5,6,7,8,9,10,11,12,13,14,15,16,20],[16],21,[],fun E=>.slice (some ⟨(E 20),0,none⟩) 2 2,fun _=>[],fun E=>[.blk (E 20) [.int .i64 9,.int .i64 8] 3]⟩,⟨26,[0,1,2,3,4,5,6,7,8,9,10,11,12,13,14,15,16,18,19,20,21],[16,20],22,[],fun E=>.agg #[.int .i64 0,.slice (some ⟨(E 20),0,none⟩) ([9,8].length) 2],fun _=>[],fun E=>[.own 3 1 Qh (.slice (some ⟨(E 20),0,none⟩) ([9,8].length) 2) ([9,8])]⟩,⟨27,[0,1,2,3,4,5,6,7,8,9,10,11,12,13,14,15,16,17,18,19,20,21,22],[16,17,19,21],34,[],fun _=>.bool true,fun _=>[.sli 2 QL none 0 ([] : List Qw)],fun _=>[]⟩,⟨28,[0,1,2,3,4,5,6,7,8,9,10,11,12,13,14,15,16,17,18,19,20,21,22,23],[16,22],34,[],fun _=>.bool false,fun _=>[],fun _=>[]⟩,⟨29,[0,1,2,3,4,5,6,7,8,9,10,11,12,13,14,15,16,17,18,19,20,21,22,23,24],[16,23],34,[],fun _=>.bool false,fun _=>[],fun _=>[]⟩,⟨30,[0,1,2,3,4,5,6,7,8,9,10,11,12,13,14,15,16,17,18,19,20,21,22,23,24,25],[24],34,[],fun _=>.bool false,fun _=>[],fun _=>[]⟩,⟨31,[0,1,2,3,4,5,6,7,8,9,10,11,12,13,14,15,16,17,18,19,20,21,22,23,24,25,26],[25],34,[],fun _=>.agg #[V1,.slice f v4.length j],fun _=>[],fun _=>[]⟩,⟨32,[0,1,2,3,4,5,6,7,8,9,10,11,12,13,14,15,16,17,18,19,20,21,22,23,24,25,27],[25],28,[],fun E=>.slice (some ⟨(E 27),0,none⟩) 2 2,fun _=>[],fun E=>[.blk (E 27) [.int .i64 8,.int .i64 9] 3]⟩,⟨33,[0,1,2,3,4,5,6,7,8,9,10,11,12,13,14,15,16,17,18,19,20,21,22,23,24,25,27,28],[25,27],31,[],fun E=>.agg #[.int .i64 0,.slice (some ⟨(E 27),0,none⟩) ([8,9].length) 2],fun _=>[],fun E=>[.own 3 1 Qh (.slice (some ⟨(E 27),0,none⟩) ([8,9].length) 2) ([8,9])]⟩,⟨34,[0,1,2,3,4,5,6,7,8,9,10,11,12,13,14,15,16,17,18,19,20,21,22,23,24,25,29],[25],30,[],fun E=>.slice (some ⟨(E 29),0,none⟩) 2 2,fun _=>[],fun E=>[.blk (E 29) [.int .i64 9,.int .i64 8] 3]⟩,⟨35,[0,1,2,3,4,5,6,7,8,9,10,11,12,13,14,15,16,17,18,19,20,21,22,23,24,25,27,28,29,30],[25,29],31,[],fun E=>.agg #[.int .i64 0,.slice (some ⟨(E 29),0,none⟩) ([9,8].length) 2],fun _=>[],fun E=>[.own 3 1 Qh (.slice (some ⟨(E 29),0,none⟩) ([9,8].length) 2) ([9,8])]⟩,⟨36,[0,1,2,3,4,5,6,7,8,9,10,11,12,13,14,15,16,17,18,19,20,21,22,23,24,25,26,27,28,29,30,31],[25,26,28,30],34,[],fun _=>.bool true,fun _=>[.sli 2 QL none 0 ([] : List Qw)],fun _=>[]⟩,⟨37,[0,1,2,3,4,5,6,7,8,9,10,11,12,13,14,15,16,17,18,19,20,21,22,23,24,25,26,27,28,29,30,31,32],[25,31],34,[],fun _=>.bool false,fun _=>[],fun _=>[]⟩,⟨38,[0,1,2,3,4,5,6,7,8,9,10,11,12,13,14,15,16,17,18,19,20,21,22,23,24,25,26,27,28,29,30,31,32,33],[25,32],34,[],fun _=>.bool false,fun _=>[],fun _=>[]⟩] Z Z (by kernel_rfl) (by kernel_rfl) ⟨?_,?_,?_,?_,?_,?_,?_,?_,?_,?_,?_,?_,?_,?_,?_,?_,?_,?_,?_,?_,?_,?_,?_,?_,?_,?_,?_,?_,?_,?_,?_,?_,?_,?_,trivial⟩ (fun E=>?_)
 intro E C
 show WL _ C _ _ [_] (V3 ..) [_] _ [_]
 refine Q1E 0 0 Z Z Z Zq Z Z Z (cs:=[_,_]) Z Q4z Q5L Z Z (Q2 ?_)
 exact Q1j (k:=0) default [] [0,1,2] Z Z Z Z
 intro E C
 show WL _ C _ _ [_] (V3 ..) [_] _ [_]
 refine Qq Z Z Z Zq Z Q1a Q1i Q3S Z (zs:=[.int .i64 0,.int .i64 0]) (by kernel_rfl) Z (out:=[_,_]) Z (fun g6=>(Q2 ?_))
 exact Q1j (k:=1) g6 [] [0,1,2,3] Z Z Z Z
 intro E C
 show WL _ C _ _ [_] [.blk (E 1) [.int .i64 9,.int .i64 8] 3,_,_,_] [(6,.slice (some ⟨(E 1),0,none⟩) 2 2),_] _ [_]
 refine Q1U (sz:=1) (m:=2) Qh ([9,8]) 0 Z (fun F w hφ=>⟨[.int .i64 9],[.int .i64 8],Z,Z,⟨(),Z,Ql⟩,⟨[.int .i64 8],[],Z,Z,⟨(),Z,Ql⟩,Z⟩⟩) Z (by decide) (H':=V4 ..) Z (wC [0] [1,2,3] Z Q32 Z (QY N 0 ⟨(E 1),0,none⟩ ([9,8].length) 2 [9,8] fE) (asK [0] Z) Z (H':=V3 ..) Z ?_)
 rintro _ _ _ ⟨rfl,rfl,rfl⟩
 refine Q2 ?_
 exact Q1j (k:=2) default [] [0,1,2,3] Z Z Z Z
 intro E C
 show WL _ C _ _ [_] (V3 ..) [_] _ [_]
 refine Qq Z Z Z Zq Z Q1a Q1i Q3S Z (zs:=[.int .i64 0,.int .i64 0]) (by kernel_rfl) Z (out:=[_,_]) Z (fun g8=>(Q2 ?_))
 exact Q1j (k:=3) g8 [] [0,1,2,3] Z Z Z Z
 intro E C
 show WL _ C _ _ [_] [.blk (E 3) [.int .i64 9,.int .i64 7] 3,_,_,_] [(8,.slice (some ⟨(E 3),0,none⟩) 2 2),_] _ [_]
 refine Q1U (sz:=1) (m:=2) Qh ([9,7]) 0 Z (fun F w hφ=>⟨[.int .i64 9],[.int .i64 7],Z,Z,⟨(),Z,Ql⟩,⟨[.int .i64 7],[],Z,Z,⟨(),Z,Ql⟩,Z⟩⟩) Z (by decide) (H':=V4 ..) Z (wC [0] [1,2,3] Z Q32 Z (QY N 0 ⟨(E 3),0,none⟩ ([9,7].length) 2 [9,7] fF) (asK [0] Z) Z (H':=V3 ..) Z ?_)
 rintro _ _ _ ⟨rfl,rfl,rfl⟩
 refine Q2 ?_
 exact Q1j (k:=4) default [] [0,1,2,3] Z Z Z Z
 intro E C
 show WL _ C _ _ [_] [.own 3 1 Qh (.slice (some ⟨(E 1),0,none⟩) ([9,8].length) 2) ([9,8]),.own 3 1 Qh (.slice (some ⟨(E 3),0,none⟩) ([9,7].length) 2) ([9,7]),_,_,_] [(5,.agg #[V1,.slice f v4.length j]),(7,.agg #[.int .i64 0,.slice (some ⟨(E 1),0,none⟩) ([9,8].length) 2]),(9,.agg #[.int .i64 0,.slice (some ⟨(E 3),0,none⟩) ([9,7].length) 2]),_] _ [_]
 refine Q2j (.sli 2 QL none 0 ([] : List Qw)) (fun _ _ _=>Q2m) (Q1y [] [0,1,2,3,4] [3,0,1] Z Z Z Zq Z Z fn_20 Z (Q4Y N none 0 ([] : List Qw) f j v4 0 (some ⟨(E 1),0,none⟩) 2 [9,8] 0 (some ⟨(E 3),0,none⟩) 2 [9,7] _ dZ) (fun F w hφ hh=>(Qe (hφ _ (Qo (k:=0) Z)) (Qe (Q1d (hh _ (Qo (k:=0) Z))) (Qe (Q1d (hh _ (Qo (k:=1) Z))) (Qe (Q1d (hh _ (Qo (k:=2) Z))) (Qe (hφ _ (Qo (k:=1) Z)) Ql)))))) (fun _ _ _ hR=>by obtain ⟨rfl,rfl,rfl⟩:=hR; exact ⟨Z,(fun _ h=>Q1q h)⟩) Z Z (H':=V5 ..) Z ?_)
 rintro _ _ _ ⟨rfl,rfl,rfl⟩
 refine Qx (d:=10) (v':=.bool true) (S':=V4 ..) Z Z (Q16 cY) (Q2 ?_)
 exact Q1j (k:=5) default [0] [2,3,4] Z Z Z Z
 intro E C
 show WL _ C _ _ [.sli 2 QL none 0 ([] : List Qw),_] (V3 ..) [(10,.bool true),_] _ [_]
 refine wP Z (Q2 ?_)
 exact Q1j (k:=6) default [] [0,1,2] Z Z Z Z
 intro E C
 show WL _ C _ _ [_] (V3 ..) [(11,.bool false),_] _ [_]
 refine wP Z (Q2 ?_)
 exact Q1j (k:=7) default [] [0,1,2] Z Z Z Z
 intro E C
 show WL _ C _ _ [_] (V3 ..) [(12,.bool false),_] _ [_]
 refine Q1E 0 0 Z Z Z Zq Z Z Z (cs:=[_,_]) Z Q4z Q5L Z Z (Q2 ?_)
 exact Q1j (k:=8) default [] [0,1,2] Z Z Z Z
 intro E C
 show WL _ C _ _ [_] (V3 ..) [(12,.bool false),_] _ [_]
 refine Qq Z Z Z Zq Z Q1a Q1i Q3S Z (zs:=[.int .i64 0,.int .i64 0]) (by kernel_rfl) Z (out:=[_,_]) Z (fun e9=>(Q2 ?_))
 exact Q1j (k:=9) e9 [] [0,1,2,3] Z Z Z Z
 intro E C
 show WL _ C _ _ [_] [.blk (E 9) [.int .i64 9,.int .i64 8] 3,_,_,_] [(12,.bool false),(14,.slice (some ⟨(E 9),0,none⟩) 2 2),_] _ [_]
 refine Q1U (sz:=1) (m:=2) Qh ([9,8]) 0 Z (fun F w hφ=>⟨[.int .i64 9],[.int .i64 8],Z,Z,⟨(),Z,Ql⟩,⟨[.int .i64 8],[],Z,Z,⟨(),Z,Ql⟩,Z⟩⟩) Z (by decide) (H':=V4 ..) Z (wC [0] [1,2,3] Z Q32 Z (QY N 0 ⟨(E 9),0,none⟩ ([9,8].length) 2 [9,8] e0) (asK [0] Z) Z (H':=V3 ..) Z ?_)
 rintro _ _ _ ⟨rfl,rfl,rfl⟩
 refine Q2 ?_
 exact Q1j (k:=10) default [] [0,1,2,3] Z Z Z Z
 intro E C
 show WL _ C _ _ [_] (V3 ..) [(12,.bool false),_] _ [_]
 refine Qq Z Z Z Zq Z Q1a Q1i Q3S Z (zs:=[.int .i64 0]) (by kernel_rfl) Z (out:=[_]) Z (fun eA=>(Q2 ?_))
 exact Q1j (k:=11) eA [] [0,1,2,3] Z Z Z Z
 intro E C
 show WL _ C _ _ [_] [.blk (E 11) [.int .i64 9] 3,_,_,_] [(12,.bool false),(16,.slice (some ⟨(E 11),0,none⟩) 1 1),_] _ [_]
 refine Q1U (sz:=1) (m:=1) Qh [9] 0 Z (fun F w hφ=>⟨[.int .i64 9],[],Z,Z,⟨(),Z,Ql⟩,Z⟩) Z (by decide) (H':=V4 ..) Z (wC [0] [1,2,3] Z Q32 Z (QY N 0 ⟨(E 11),0,none⟩ ([9].length) 1 [9] e1) (asK [0] Z) Z (H':=V3 ..) Z ?_)
 rintro _ _ _ ⟨rfl,rfl,rfl⟩
 refine Q2 ?_
 exact Q1j (k:=12) default [] [0,1,2,3] Z Z Z Z
 intro E C
 show WL _ C _ _ [_] [.own 3 1 Qh (.slice (some ⟨(E 9),0,none⟩) ([9,8].length) 2) ([9,8]),.own 3 1 Qh (.slice (some ⟨(E 11),0,none⟩) [9].length 1) [9],_,_,_] [(12,.bool false),(13,.agg #[V1,.slice f v4.length j]),(15,.agg #[.int .i64 0,.slice (some ⟨(E 9),0,none⟩) ([9,8].length) 2]),(17,.agg #[.int .i64 0,.slice (some ⟨(E 11),0,none⟩) [9].length 1]),_] _ [_]
 refine Q2j (.sli 2 QL none 0 ([] : List Qw)) (fun _ _ _=>Q2m) (Q1y [] [0,1,2,3,4] [3,0,1] Z Z Z Zq Z Z fn_20 Z (Q4Y N none 0 ([] : List Qw) f j v4 0 (some ⟨(E 9),0,none⟩) 2 [9,8] 0 (some ⟨(E 11),0,none⟩) 1 [9] _ e2) (fun F w hφ hh=>(Qe (hφ _ (Qo (k:=0) Z)) (Qe (Q1d (hh _ (Qo (k:=0) Z))) (Qe (Q1d (hh _ (Qo (k:=1) Z))) (Qe (Q1d (hh _ (Qo (k:=2) Z))) (Qe (hφ _ (Qo (k:=1) Z)) Ql)))))) (fun _ _ _ hR=>by obtain ⟨rfl,rfl,rfl⟩:=hR; exact ⟨Z,(fun _ h=>Q1q h)⟩) Z Z (H':=V5 ..) Z ?_)
 rintro _ _ _ ⟨rfl,rfl,rfl⟩
 refine Qx (d:=18) (v':=.bool true) (S':=V5 ..) Z Z (Q16 cZ) (Q2 ?_)
 exact Q1j (k:=13) default [0] [2,3,4] Z Z Z Z
 intro E C
 show WL _ C _ _ [.sli 2 QL none 0 ([] : List Qw),_] (V3 ..) [(12,.bool false),(18,.bool true),_] _ [_]
 refine wP Z (Q2 ?_)
 exact Q1j (k:=14) default [] [0,1,2] Z Z Z Z
 intro E C
 show WL _ C _ _ [_] (V3 ..) [(12,.bool false),(19,.bool false),_] _ [_]
 refine wP Z (Q2 ?_)
 exact Q1j (k:=15) default [] [0,1,2] Z Z Z Z
 intro E C
 show WL _ C _ _ [_] (V3 ..) [(20,.bool false),_] _ [_]
 refine wP Z (Q2 ?_)
 exact Q1j (k:=16) default [] [0,1,2] Z Z Z Z
 intro E C
 show WL _ C _ _ [_] (V3 ..) [(21,.bool false),_] _ [_]
 refine Q1E 0 0 Z Z Z Zq Z Z Z (cs:=[_,_]) Z Q4z Q5L Z Z (Q2 ?_)
 exact Q1j (k:=17) default [] [0,1,2] Z Z Z Z
 intro E C
 show WL _ C _ _ [_] (V3 ..) [(21,.bool false),_] _ [_]
 refine Qq Z Z Z Zq Z Q1a Q1i Q3S Z (zs:=[.int .i64 0]) (by kernel_rfl) Z (out:=[_]) Z (fun eB=>(Q2 ?_))
 exact Q1j (k:=18) eB [] [0,1,2,3] Z Z Z Z
 intro E C
 show WL _ C _ _ [_] [.blk (E 18) [.int .i64 1] 3,_,_,_] [(21,.bool false),(23,.slice (some ⟨(E 18),0,none⟩) 1 1),_] _ [_]
 refine Q1U (sz:=1) (m:=1) Qh [1] 0 Z (fun F w hφ=>⟨[.int .i64 1],[],Z,Z,⟨(),Z,Ql⟩,Z⟩) Z (by decide) (H':=V4 ..) Z (wC [0] [1,2,3] Z Q32 Z (QY N 1 ⟨(E 18),0,none⟩ ([1].length) 1 [1] e3) (asK [0] Z) Z (H':=V3 ..) Z ?_)
 rintro _ _ _ ⟨rfl,rfl,rfl⟩
 refine Q2 ?_
 exact Q1j (k:=19) default [] [0,1,2,3] Z Z Z Z
 intro E C
 show WL _ C _ _ [_] (V3 ..) [(21,.bool false),_] _ [_]
 refine Qq Z Z Z Zq Z Q1a Q1i Q3S Z (zs:=[.int .i64 0,.int .i64 0]) (by kernel_rfl) Z (out:=[_,_]) Z (fun eC=>(Q2 ?_))
 exact Q1j (k:=20) eC [] [0,1,2,3] Z Z Z Z
 intro E C
 show WL _ C _ _ [_] [.blk (E 20) [.int .i64 9,.int .i64 8] 3,_,_,_] [(21,.bool false),(25,.slice (some ⟨(E 20),0,none⟩) 2 2),_] _ [_]
 refine Q1U (sz:=1) (m:=2) Qh ([9,8]) 0 Z (fun F w hφ=>⟨[.int .i64 9],[.int .i64 8],Z,Z,⟨(),Z,Ql⟩,⟨[.int .i64 8],[],Z,Z,⟨(),Z,Ql⟩,Z⟩⟩) Z (by decide) (H':=V4 ..) Z (wC [0] [1,2,3] Z Q32 Z (QY N 0 ⟨(E 20),0,none⟩ ([9,8].length) 2 [9,8] e4) (asK [0] Z) Z (H':=V3 ..) Z ?_)
 rintro _ _ _ ⟨rfl,rfl,rfl⟩
 refine Q2 ?_
 exact Q1j (k:=21) default [] [0,1,2,3] Z Z Z Z
 intro E C
 show WL _ C _ _ [_] [.own 3 1 Qh (.slice (some ⟨(E 18),0,none⟩) [1].length 1) [1],.own 3 1 Qh (.slice (some ⟨(E 20),0,none⟩) ([9,8].length) 2) ([9,8]),_,_,_] [(21,.bool false),(22,.agg #[V1,.slice f v4.length j]),(24,.agg #[.int .i64 1,.slice (some ⟨(E 18),0,none⟩) [1].length 1]),(26,.agg #[.int .i64 0,.slice (some ⟨(E 20),0,none⟩) ([9,8].length) 2]),_] _ [_]
 refine Q2j (.sli 2 QL none 0 ([] : List Qw)) (fun _ _ _=>Q2m) (Q1y [] [0,1,2,3,4] [3,0,1] Z Z Z Zq Z Z fn_20 Z (Q4Y N none 0 ([] : List Qw) f j v4 1 (some ⟨(E 18),0,none⟩) 1 [1] 0 (some ⟨(E 20),0,none⟩) 2 [9,8] _ e5) (fun F w hφ hh=>(Qe (hφ _ (Qo (k:=0) Z)) (Qe (Q1d (hh _ (Qo (k:=0) Z))) (Qe (Q1d (hh _ (Qo (k:=1) Z))) (Qe (Q1d (hh _ (Qo (k:=2) Z))) (Qe (hφ _ (Qo (k:=1) Z)) Ql)))))) (fun _ _ _ hR=>by obtain ⟨rfl,rfl,rfl⟩:=hR; exact ⟨Z,(fun _ h=>Q1q h)⟩) Z Z (H':=V5 ..) Z ?_)
 rintro _ _ _ ⟨rfl,rfl,rfl⟩
 refine Qx (d:=27) (v':=.bool true) (S':=V5 ..) Z Z (Q16 d0) (Q2 ?_)
 exact Q1j (k:=22) default [0] [2,3,4] Z Z Z Z
 intro E C
 show WL _ C _ _ [.sli 2 QL none 0 ([] : List Qw),_] (V3 ..) [(21,.bool false),(27,.bool true),_] _ [_]
 refine wP Z (Q2 ?_)
 exact Q1j (k:=23) default [] [0,1,2] Z Z Z Z
 intro E C
 show WL _ C _ _ [_] (V3 ..) [(21,.bool false),(28,.bool false),_] _ [_]
 refine wP Z (Q2 ?_)
 exact Q1j (k:=24) default [] [0,1,2] Z Z Z Z
 intro E C
 show WL _ C _ _ [_] (V3 ..) [(29,.bool false),_] _ [_]
 refine wP Z (Q2 ?_)
 exact Q1j (k:=25) default [] [0,1,2] Z Z Z Z
 intro E C
 show WL _ C _ _ [_] (V3 ..) [(30,.bool false),_] _ [_]
 refine Q1E 0 0 Z Z Z Zq Z Z Z (cs:=[_,_]) Z Q4z Q5L Z Z (Q2 ?_)
 exact Q1j (k:=26) default [] [0,1,2] Z Z Z Z
 intro E C
 show WL _ C _ _ [_] (V3 ..) [(30,.bool false),_] _ [_]
 refine Qq Z Z Z Zq Z Q1a Q1i Q3S Z (zs:=[.int .i64 0,.int .i64 0]) (by kernel_rfl) Z (out:=[_,_]) Z (fun eD=>(Q2 ?_))
 exact Q1j (k:=27) eD [] [0,1,2,3] Z Z Z Z
 intro E C
 show WL _ C _ _ [_] [.blk (E 27) [.int .i64 8,.int .i64 9] 3,_,_,_] [(30,.bool false),(32,.slice (some ⟨(E 27),0,none⟩) 2 2),_] _ [_]
 refine Q1U (sz:=1) (m:=2) Qh ([8,9]) 0 Z (fun F w hφ=>⟨[.int .i64 8],[.int .i64 9],Z,Z,⟨(),Z,Ql⟩,⟨[.int .i64 9],[],Z,Z,⟨(),Z,Ql⟩,Z⟩⟩) Z (by decide) (H':=V4 ..) Z (wC [0] [1,2,3] Z Q32 Z (QY N 0 ⟨(E 27),0,none⟩ ([8,9].length) 2 [8,9] e6) (asK [0] Z) Z (H':=V3 ..) Z ?_)
 rintro _ _ _ ⟨rfl,rfl,rfl⟩
 refine Q2 ?_
 exact Q1j (k:=28) default [] [0,1,2,3] Z Z Z Z
 intro E C
 show WL _ C _ _ [_] (V3 ..) [(30,.bool false),_] _ [_]
 refine Qq Z Z Z Zq Z Q1a Q1i Q3S Z (zs:=[.int .i64 0,.int .i64 0]) (by kernel_rfl) Z (out:=[_,_]) Z (fun eE=>(Q2 ?_))
 exact Q1j (k:=29) eE [] [0,1,2,3] Z Z Z Z
 intro E C
 show WL _ C _ _ [_] [.blk (E 29) [.int .i64 9,.int .i64 8] 3,_,_,_] [(30,.bool false),(34,.slice (some ⟨(E 29),0,none⟩) 2 2),_] _ [_]
 refine Q1U (sz:=1) (m:=2) Qh ([9,8]) 0 Z (fun F w hφ=>⟨[.int .i64 9],[.int .i64 8],Z,Z,⟨(),Z,Ql⟩,⟨[.int .i64 8],[],Z,Z,⟨(),Z,Ql⟩,Z⟩⟩) Z (by decide) (H':=V4 ..) Z (wC [0] [1,2,3] Z Q32 Z (QY N 0 ⟨(E 29),0,none⟩ ([9,8].length) 2 [9,8] e7) (asK [0] Z) Z (H':=V3 ..) Z ?_)
 rintro _ _ _ ⟨rfl,rfl,rfl⟩
 refine Q2 ?_
 exact Q1j (k:=30) default [] [0,1,2,3] Z Z Z Z
 intro E C
 show WL _ C _ _ [_] [.own 3 1 Qh (.slice (some ⟨(E 27),0,none⟩) ([8,9].length) 2) ([8,9]),.own 3 1 Qh (.slice (some ⟨(E 29),0,none⟩) ([9,8].length) 2) ([9,8]),_,_,_] [(30,.bool false),(31,.agg #[V1,.slice f v4.length j]),(33,.agg #[.int .i64 0,.slice (some ⟨(E 27),0,none⟩) ([8,9].length) 2]),(35,.agg #[.int .i64 0,.slice (some ⟨(E 29),0,none⟩) ([9,8].length) 2]),_] _ [_]
 refine Q2j (.sli 2 QL none 0 ([] : List Qw)) (fun _ _ _=>Q2m) (Q1y [] [0,1,2,3,4] [3,0,1] Z Z Z Zq Z Z fn_20 Z (Q4Y N none 0 ([] : List Qw) f j v4 0 (some ⟨(E 27),0,none⟩) 2 [8,9] 0 (some ⟨(E 29),0,none⟩) 2 [9,8] _ e8) (fun F w hφ hh=>(Qe (hφ _ (Qo (k:=0) Z)) (Qe (Q1d (hh _ (Qo (k:=0) Z))) (Qe (Q1d (hh _ (Qo (k:=1) Z))) (Qe (Q1d (hh _ (Qo (k:=2) Z))) (Qe (hφ _ (Qo (k:=1) Z)) Ql)))))) (fun _ _ _ hR=>by obtain ⟨rfl,rfl,rfl⟩:=hR; exact ⟨Z,(fun _ h=>Q1q h)⟩) Z Z (H':=V5 ..) Z ?_)
 rintro _ _ _ ⟨rfl,rfl,rfl⟩
 refine Qx (d:=36) (v':=.bool true) (S':=V5 ..) Z Z (Q16 d1) (Q2 ?_)
 exact Q1j (k:=31) default [0] [2,3,4] Z Z Z Z
 intro E C
 show WL _ C _ _ [.sli 2 QL none 0 ([] : List Qw),_] (V3 ..) [(30,.bool false),(36,.bool true),_] _ [_]
 refine wP Z (Q2 ?_)
 exact Q1j (k:=32) default [] [0,1,2] Z Z Z Z
 intro E C
 show WL _ C _ _ [_] (V3 ..) [(30,.bool false),(37,.bool false),_] _ [_]
 refine wP Z (Q2 ?_)
 exact Q1j (k:=33) default [] [0,1,2] Z Z Z Z
 show WE _ _ _ [.sli 2 QL none 0 ([] : List Qw),.sli 2 QL none 0 ([] : List Qw),.sli 2 QL none 0 ([] : List Qw),.sli 2 QL none 0 ([] : List Qw),_] (V3 ..) [(5,.agg #[V1,.slice f v4.length j]),(6,.slice (some ⟨(E 1),0,none⟩) 2 2),(7,.agg #[.int .i64 0,.slice (some ⟨(E 1),0,none⟩) ([9,8].length) 2]),(8,.slice (some ⟨(E 3),0,none⟩) 2 2),(9,.agg #[.int .i64 0,.slice (some ⟨(E 3),0,none⟩) ([9,7].length) 2]),(10,.bool true),(11,.bool false),(12,.bool false),(13,.agg #[V1,.slice f v4.length j]),(14,.slice (some ⟨(E 9),0,none⟩) 2 2),(15,.agg #[.int .i64 0,.slice (some ⟨(E 9),0,none⟩) ([9,8].length) 2]),(16,.slice (some ⟨(E 11),0,none⟩) 1 1),(17,.agg #[.int .i64 0,.slice (some ⟨(E 11),0,none⟩) [9].length 1]),(18,.bool true),(19,.bool false),(20,.bool false),(21,.bool false),(22,.agg #[V1,.slice f v4.length j]),(23,.slice (some ⟨(E 18),0,none⟩) 1 1),(24,.agg #[.int .i64 1,.slice (some ⟨(E 18),0,none⟩) [1].length 1]),(25,.slice (some ⟨(E 20),0,none⟩) 2 2),(26,.agg #[.int .i64 0,.slice (some ⟨(E 20),0,none⟩) ([9,8].length) 2]),(27,.bool true),(28,.bool false),(29,.bool false),(30,.bool false),(31,.agg #[V1,.slice f v4.length j]),(32,.slice (some ⟨(E 27),0,none⟩) 2 2),(33,.agg #[.int .i64 0,.slice (some ⟨(E 27),0,none⟩) ([8,9].length) 2]),(34,.slice (some ⟨(E 29),0,none⟩) 2 2),(35,.agg #[.int .i64 0,.slice (some ⟨(E 29),0,none⟩) ([9,8].length) 2]),(36,.bool true),(37,.bool false),(38,.bool false),_] .normal
 generalize (E 9) = e9
 generalize (E 11) = eA
 generalize (E 18) = eB
 generalize (E 20) = eC
 generalize (E 27) = eD
 generalize (E 29) = eE
 generalize (E 1) = g6
 generalize (E 3) = g8
 refine Q4 (Q5 [38,1] (S':=[_,_]) Z (Q2X Z (Q5 [1] (S':=[_]) Z (Qt (Q4 (Q6 (Q3 (Q1E 0 0 Z Z Z Zq Z Z Z (cs:=[_,_]) Z Q4z Q5L Z Z (Q2j (.sli 2 QL none 0 ([] : List Qw)) (fun _ _ _=>Q2m) ?_)))))))))
 obtain ⟨_ | fG,eF,hm⟩:=Q7 hm
 ·
  try dsimp only at hm
  cases hm
 try dsimp only at hm
 refine wC [1] [0,2] Z fn_7 Z (Q9k N none 0 ([] : List Qw) f v4.length j v4 _ eF) (asK [0,5] Z) Z (H':=[_,_]) Z ?_
 rintro _ _ _ ⟨o,q,s,y,d2,rfl,rfl,rfl⟩
 refine wP Z (Q2 (Q4 (Q5 [2] (S':=[_]) Z (Q6 (Q6 (Q3 (wP Z (Qq Z Z Z Zq Z Q1a Q1i Q3S Z (zs:=[.int .i64 0]) (by kernel_rfl) Z (out:=[_]) Z (fun a5=>(Q1U (sz:=1) (m:=1) Qh [1] 0 Z (fun F w hφ=>⟨[.int .i64 1],[],Z,Z,⟨(),Z,Ql⟩,Z⟩) Z (by decide) (H':=V7 ..) Z ?_))))))))))
 obtain ⟨_,eG,hm⟩:=Q7 hm
 try dsimp only at hm
 refine wC [0] [1,2,3,4,5,6] Z Q32 Z (QY N 0 ⟨a5,0,none⟩ ([1].length) 1 [1] eG) (asK [5] Z) Z (H':=V6 ..) Z ?_
 rintro _ _ _ ⟨rfl,rfl,rfl⟩
 refine Qq Z Z Z Zq Z Q1a Q1i Q3S Z (zs:=[.int .i64 0]) (by kernel_rfl) Z (out:=[_]) Z (fun a8=>(Q1U (sz:=1) (m:=1) Qh [1] 0 Z (fun F w hφ=>⟨[.int .i64 1],[],Z,Z,⟨(),Z,Ql⟩,Z⟩) Z (by decide) (H':=V8 ..) Z ?_))
 obtain ⟨_,eH,hm⟩:=Q7 hm
 try dsimp only at hm
 refine wC [0] [1,2,3,4,5,6,7] Z Q32 Z (QY N 1 ⟨a8,0,none⟩ ([1].length) 1 [1] eH) (asK [5] Z) Z (H':=V7 ..) Z ?_
 rintro _ _ _ ⟨rfl,rfl,rfl⟩
 refine Qq Z Z Z Zq Z QG Qg Q1X Z (zs:=[.int .i64 0,V1,.int .i64 0,V1]) (by kernel_rfl) Z (out:=V4 ..) Z (fun c2=>(Q6D 45 2 Q8 (Q6D 45 2 Q8 (Q1U (sz:=2) (m:=2) Qa.pair ([((⟨0,[1]⟩ : Q1),(some (⟨a5,0,none⟩ : Addr),1)),((⟨1,[1]⟩ : Q1),(some (⟨a8,0,none⟩ : Addr),1))]) 2 Z (fun F w hφ=>⟨[.int .i64 0,.slice (some ⟨a5,0,none⟩) [1].length 1],[.int .i64 1,.slice (some ⟨a8,0,none⟩) [1].length 1],Z,Z,Z,⟨[.int .i64 1,.slice (some ⟨a8,0,none⟩) [1].length 1],[],Z,Z,Z,Z⟩⟩) Z (by decide) (H':=V11 ..) Z (Q1t [Q1w Qa [] none,_,_,_,_,_,_,_,_,_,_,_] (fun _ h=>h.bagNil Qa) (Q1S [5,0,1,2,3,4,6,7,8,9,10,11] Z (H':=V12 ..) Z (Q1t [Q1w Qa ([((⟨0,[1]⟩ : Q1),(some (⟨a5,0,none⟩ : Addr),1))]) none,_,_,_,_,_,_,_,_,_,_] (fun _ h=>QU.bagPush (T:=Qa) (x:=(⟨0,[1]⟩ : Q1)) (r:=(some (⟨a5,0,none⟩ : Addr),1)) (zs:=[]) (H:=V11 ..) h 0 Z) (Q1S [4,0,1,2,3,5,6,7,8,9,10] Z (H':=V11 ..) Z (Q1t [Q1w Qa (([((⟨0,[1]⟩ : Q1),(some (⟨a5,0,none⟩ : Addr),1))]) ++ [((⟨1,[1]⟩ : Q1),(some (⟨a8,0,none⟩ : Addr),1))]) none,_,_,_,_,_,_,_,_,_] (fun _ h=>QU.bagPush (T:=Qa) (x:=(⟨1,[1]⟩ : Q1)) (r:=(some (⟨a8,0,none⟩ : Addr),1)) (zs:=[((⟨0,[1]⟩ : Q1),(some (⟨a5,0,none⟩ : Addr),1))]) (H:=V10 ..) h 0 Z) (Q1r 0 (φ':=Q1w Qa ([((⟨0,[1]⟩ : Q1),(some (⟨a5,0,none⟩ : Addr),1)),((⟨1,[1]⟩ : Q1),(some (⟨a8,0,none⟩ : Addr),1))]) none) Z Z (H':=V10 ..) Z (Q1t [_,_,Q1e Qa 45 2 (.slice (some ⟨c2,0,none⟩) 2 2) ([(⟨0,[1]⟩ : Q1),(⟨1,[1]⟩ : Q1)]),_,_,_,_,_,_] (fun _ h=>h.treeIn 3 0 Z Z Z Z) (Q1J 2 Z (fun cW _=>(Q23 0 (v':=.slice (some ⟨c2,0,none⟩) ([(⟨0,[1]⟩ : Q1),(⟨1,[1]⟩ : Q1)].length) 2) Z (by rw [cW]) (Q1r 2 (φ':=Q1e Qa 45 2 (.slice (some ⟨c2,0,none⟩) ([(⟨0,[1]⟩ : Q1),(⟨1,[1]⟩ : Q1)].length) 2) ([(⟨0,[1]⟩ : Q1),(⟨1,[1]⟩ : Q1)])) Z (by rw [cW]) (H':=V9 ..) Z ?_)))))))))))))))
 obtain ⟨⟨b3,b4,b5,b6,b7⟩,eI,hm⟩:=Q7 hm
 try dsimp only at hm
 refine wC [3,4,1,0,5,2] [6,7,8] Z fn_21 Z (Q30 N o q y s fG none 0 0 [] none 0 0 [] d2 ([] : List (ByteArray × Bool)) (some ⟨c2,0,none⟩) ([(⟨0,[1]⟩ : Q1),(⟨1,[1]⟩ : Q1)].length) 2 [(⟨0,[1]⟩ : Q1),(⟨1,[1]⟩ : Q1)] _ _ _ _ _ eI) (asK [5] Z) Z (H':=V3 ..) Z ?_
 rintro _ _ _ ⟨b8,b9,bA,bB,bC,bD,a1,rfl,rfl,rfl⟩
 refine wP Z (Qx (d:=48) (v':=.bool (b3 != 0)) (S':=V8 ..) Z Z (Q8e (a:=b3) (b:=0)) ?_)
 obtain ⟨d3,hm⟩:=Qd hm
 refine Qx (d:=48) (v':=.bool false) (S':=V8 ..) Z Z (Q16 d3) (wP Z (wP Z (Qq Z Z Z Zq Z Q1a Q1i Q3S Z (zs:=[.int .i64 0]) (by kernel_rfl) Z (out:=[_]) Z (fun eJ=>(Q1U (sz:=1) (m:=1) Qh [1] 0 Z (fun F w hφ=>⟨[.int .i64 1],[],Z,Z,⟨(),Z,Ql⟩,Z⟩) Z (by decide) (H':=V10 ..) Z ?_)))))
 obtain ⟨_,eK,hm⟩:=Q7 hm
 try dsimp only at hm
 refine wC [0] [1,2,3,4,5,6,7,8,9] Z Q32 Z (QY N 1 ⟨eJ,0,none⟩ ([1].length) 1 [1] eK) (asK [5] Z) Z (H':=V9 ..) Z ?_
 rintro _ _ _ ⟨rfl,rfl,rfl⟩
 obtain ⟨fW,eL,hm⟩:=Q7 hm
 refine wC [1,2,3,4,5,0] [6,7,8,9] Z fn_22 Z (Q4d N o q y s b4 b8 bA b9 b5 bB bD bC b6 a1 b7 1 ⟨eJ,0,none⟩ ([1].length) 1 [1] _ eL) (asK [5] Z) Z (H':=V4 ..) Z ?_
 rintro _ _ _ ⟨rfl,rfl,rfl⟩
 obtain ⟨d4,hm⟩:=Qd hm
 refine Qx (d:=53) (v':=.bool true) (S':=V13 ..) Z Z (Q16 d4) (wP Z (wP Z (wP Z (wP Z (Qq Z Z Z Zq Z Q1a Q1i Q3S Z (zs:=[.int .i64 0]) (by kernel_rfl) Z (out:=[_]) Z (fun d5=>(Q1U (sz:=1) (m:=1) Qh [1] 0 Z (fun F w hφ=>⟨[.int .i64 1],[],Z,Z,⟨(),Z,Ql⟩,Z⟩) Z (by decide) (H':=V11 ..) Z ?_)))))))
 obtain ⟨_,eM,hm⟩:=Q7 hm
 try dsimp only at hm
 refine wC [0] [1,2,3,4,5,6,7,8,9,10] Z Q32 Z (QY N 1 ⟨d5,0,none⟩ ([1].length) 1 [1] eM) (asK [5] Z) Z (H':=V10 ..) Z ?_
 rintro _ _ _ ⟨rfl,rfl,rfl⟩
 obtain ⟨⟨bE,a9,aA,aB,aC⟩,eN,hm⟩:=Q7 hm
 try dsimp only at hm
 refine wC [1,2,3,4,5,0] [6,7,8,9,10] Z fn_23 Z (Q7E N o q y s b4 b8 bA b9 b5 bB bD bC b6 a1 b7 1 ⟨d5,0,none⟩ ([1].length) 1 [1] _ _ _ _ _ eN) (asK [5] Z) Z (H':=V5 ..) Z ?_
 rintro _ _ _ ⟨aD,aE,aF,aG,aH,aI,rfl,rfl,rfl⟩
 obtain ⟨bF,hm⟩:=Qd hm
 refine Q23 2 (v':=.slice (some ⟨d5,0,none⟩) [1].length 1) Z (by rw [bF]) (wP Z (Qx (d:=61) (v':=.bool (bE != 0)) (S':=V21 ..) Z Z (Q8e (a:=bE) (b:=0)) ?_))
 obtain ⟨d6,hm⟩:=Qd hm
 refine Qx (d:=61) (v':=.bool false) (S':=V21 ..) Z Z (Q16 d6) (wP Z (wP Z (wP Z (Qq Z Z Z Zq Z Q1a Q1i Q3S Z (zs:=[.int .i64 0]) (by kernel_rfl) Z (out:=[_]) Z (fun eO=>(Q1U (sz:=1) (m:=1) Qh [1] 0 Z (fun F w hφ=>⟨[.int .i64 1],[],Z,Z,⟨(),Z,Ql⟩,Z⟩) Z (by decide) (H':=V12 ..) Z ?_))))))
 obtain ⟨_,eP,hm⟩:=Q7 hm
 try dsimp only at hm
 refine wC [0] [1,2,3,4,5,6,7,8,9,10,11] Z Q32 Z (QY N 0 ⟨eO,0,none⟩ ([1].length) 1 [1] eP) (asK [5] Z) Z (H':=V11 ..) Z ?_
 rintro _ _ _ ⟨rfl,rfl,rfl⟩
 obtain ⟨fY,eQ,hm⟩:=Q7 hm
 refine wC [1,2,3,4,5,0] [6,7,8,9,10,11] Z fn_22 Z (Q4d N o q y s a9 aD aF aE aA aG aI aH aB a1 aC 0 ⟨eO,0,none⟩ ([1].length) 1 [1] _ eQ) (asK [5] Z) Z (H':=V6 ..) Z ?_
 rintro _ _ _ ⟨rfl,rfl,rfl⟩
 obtain ⟨d7,hm⟩:=Qd hm
 refine Qx (d:=67) (v':=.bool true) (S':=V27 ..) Z Z (Q16 d7) (wP Z (wP Z (wP Z (wP Z ?_))))
 obtain ⟨eR,eS,hm⟩:=Q7 hm
 refine wC [0,1,2,3,4] [5,6,7,8,9,10,11] Z fn_15 Z (Q3U N o q y s a9 aD aF aE aA aG aI aH aB a1 aC _ eS) (asK [5] Z) Z (H':=V7 ..) Z ?_
 rintro _ _ _ ⟨fI,fJ,fK,rfl,rfl,rfl⟩
 refine Q1J 0 Z (fun eT _=>?_)
 subst eT
 refine wN Z QG (wP Z (Qx (d:=74) (v':=.bool (eR.length != 1)) (S':=V34 ..) Z Z (Q8e (a:=eR.length) (b:=1)) ?_))
 obtain ⟨d8,hm⟩:=Qd hm
 refine Qx (d:=74) (v':=.bool false) (S':=V34 ..) Z Z (Q16 d8) (wP Z (Q2 (Q4 (Q5 [75,2] (S':=[_,_]) Z (Q2X Z (Q5 [2] (S':=[_]) Z (Qt (Q4 (Q6 (Q6 (Q3 (wP Z (Qq Z Z Z Zq Z Q1a Q1i Q3S Z (zs:=[.int .i64 0]) (by kernel_rfl) Z (out:=[_]) Z (fun a6=>?_))))))))))))))
 refine Q1U (sz:=1) (m:=1) Qh [1] 0 Z (fun F w hφ=>⟨[.int .i64 1],[],Z,Z,⟨(),Z,Ql⟩,Z⟩) Z (by decide) (H':=V14 ..) Z ?_
 obtain ⟨_,eU,hm⟩:=Q7 hm
 try dsimp only at hm
 refine wC [0] [1,2,3,4,5,6,7,8,9,10,11,12,13] Z Q32 Z (QY N 1 ⟨a6,0,none⟩ ([1].length) 1 [1] eU) (asK [5] Z) Z (H':=V13 ..) Z ?_
 rintro _ _ _ ⟨rfl,rfl,rfl⟩
 refine Qq Z Z Z Zq Z Q1a Q1i Q3S Z (zs:=[.int .i64 0]) (by kernel_rfl) Z (out:=[_]) Z (fun aJ=>(Q1U (sz:=1) (m:=1) Qh [1] 0 Z (fun F w hφ=>⟨[.int .i64 1],[],Z,Z,⟨(),Z,Ql⟩,Z⟩) Z (by decide) (H':=V15 ..) Z ?_))
 obtain ⟨_,eV,hm⟩:=Q7 hm
 try dsimp only at hm
 refine wC [0] [1,2,3,4,5,6,7,8,9,10,11,12,13,14] Z Q32 Z (QY N 0 ⟨aJ,0,none⟩ ([1].length) 1 [1] eV) (asK [5] Z) Z (H':=V14 ..) Z ?_
 rintro _ _ _ ⟨rfl,rfl,rfl⟩
 refine Qq Z Z Z Zq Z QG Qg Q1X Z (zs:=[.int .i64 0,V1,.int .i64 0,V1]) (by kernel_rfl) Z (out:=V4 ..) Z (fun c3=>(Q1U (sz:=2) (m:=2) Qa.pair ([((⟨1,[1]⟩ : Q1),(some (⟨a6,0,none⟩ : Addr),1)),((⟨0,[1]⟩ : Q1),(some (⟨aJ,0,none⟩ : Addr),1))]) 0 Z (fun F w hφ=>⟨[.int .i64 1,.slice (some ⟨a6,0,none⟩) [1].length 1],[.int .i64 0,.slice (some ⟨aJ,0,none⟩) [1].length 1],Z,Z,Z,⟨[.int .i64 0,.slice (some ⟨aJ,0,none⟩) [1].length 1],[],Z,Z,Z,Z⟩⟩) Z (by decide) (H':=V16 ..) Z (Q1t [Q1w Qa [] none,_,_,_,_,_,_,_,_,_,_,_,_,_,_,_,_] (fun _ h=>h.bagNil Qa) (Q1S [3,0,1,2,4,5,6,7,8,9,10,11,12,13,14,15,16] Z (H':=V17 ..) Z (Q1t [Q1w Qa ([((⟨1,[1]⟩ : Q1),(some (⟨a6,0,none⟩ : Addr),1))]) none,_,_,_,_,_,_,_,_,_,_,_,_,_,_,_] (fun _ h=>QU.bagPush (T:=Qa) (x:=(⟨1,[1]⟩ : Q1)) (r:=(some (⟨a6,0,none⟩ : Addr),1)) (zs:=[]) (H:=V16 ..) h 0 Z) (Q1S [2,0,1,3,4,5,6,7,8,9,10,11,12,13,14,15] Z (H':=V16 ..) Z (Q1t [Q1w Qa (([((⟨1,[1]⟩ : Q1),(some (⟨a6,0,none⟩ : Addr),1))]) ++ [((⟨0,[1]⟩ : Q1),(some (⟨aJ,0,none⟩ : Addr),1))]) none,_,_,_,_,_,_,_,_,_,_,_,_,_,_] (fun _ h=>QU.bagPush (T:=Qa) (x:=(⟨0,[1]⟩ : Q1)) (r:=(some (⟨aJ,0,none⟩ : Addr),1)) (zs:=[((⟨1,[1]⟩ : Q1),(some (⟨a6,0,none⟩ : Addr),1))]) (H:=V15 ..) h 0 Z) (Q1r 0 (φ':=Q1w Qa ([((⟨1,[1]⟩ : Q1),(some (⟨a6,0,none⟩ : Addr),1)),((⟨0,[1]⟩ : Q1),(some (⟨aJ,0,none⟩ : Addr),1))]) none) Z Z (H':=V15 ..) Z (Q1t [Q1e Qa 45 2 (.slice (some ⟨c3,0,none⟩) 2 2) ([(⟨1,[1]⟩ : Q1),(⟨0,[1]⟩ : Q1)]),_,_,_,_,_,_,_,_,_,_,_,_,_] (fun _ h=>h.treeIn 1 0 Z Z Z Z) (Q1J 0 Z (fun bG _=>(Q23 0 (v':=.slice (some ⟨c3,0,none⟩) ([(⟨1,[1]⟩ : Q1),(⟨0,[1]⟩ : Q1)].length) 2) Z (by rw [bG]) (Q1r 0 (φ':=Q1e Qa 45 2 (.slice (some ⟨c3,0,none⟩) ([(⟨1,[1]⟩ : Q1),(⟨0,[1]⟩ : Q1)].length) 2) ([(⟨1,[1]⟩ : Q1),(⟨0,[1]⟩ : Q1)])) Z (by rw [bG]) (H':=V14 ..) Z ?_)))))))))))))
 obtain ⟨⟨bH,bI,bJ,bK,bL⟩,eW,hm⟩:=Q7 hm
 try dsimp only at hm
 refine wC [2,3,4,5,6,0] [1,7,8,9,10,11,12,13] Z fn_21 Z (Q30 N o q y s a9 aD aF aE aA aG aI aH aB a1 aC (some ⟨c3,0,none⟩) ([(⟨1,[1]⟩ : Q1),(⟨0,[1]⟩ : Q1)].length) 2 [(⟨1,[1]⟩ : Q1),(⟨0,[1]⟩ : Q1)] _ _ _ _ _ eW) (asK [5] Z) Z (H':=V8 ..) Z ?_
 rintro _ _ _ ⟨bM,bN,bO,bP,bQ,bR,bS,rfl,rfl,rfl⟩
 refine wP Z (Qx (d:=83) (v':=.bool (bH != 0)) (S':=V8 ..) Z Z (Q8e (a:=bH) (b:=0)) ?_)
 obtain ⟨d9,hm⟩:=Qd hm
 refine Qx (d:=83) (v':=.bool false) (S':=V8 ..) Z Z (Q16 d9) (wP Z (wP Z (Qq Z Z Z Zq Z Q1a Q1i Q3S Z (zs:=[.int .i64 0]) (by kernel_rfl) Z (out:=[_]) Z (fun eX=>(Q1U (sz:=1) (m:=1) Qh [1] 0 Z (fun F w hφ=>⟨[.int .i64 1],[],Z,Z,⟨(),Z,Ql⟩,Z⟩) Z (by decide) (H':=V15 ..) Z ?_)))))
 obtain ⟨_,eY,hm⟩:=Q7 hm
 try dsimp only at hm
 refine wC [0] [1,2,3,4,5,6,7,8,9,10,11,12,13,14] Z Q32 Z (QY N 0 ⟨eX,0,none⟩ ([1].length) 1 [1] eY) (asK [5] Z) Z (H':=V14 ..) Z ?_
 rintro _ _ _ ⟨rfl,rfl,rfl⟩
 obtain ⟨fZ,eZ,hm⟩:=Q7 hm
 refine wC [1,2,3,4,5,0] [6,7,8,9,10,11,12,13,14] Z fn_22 Z (Q4d N o q y s bI bM bO bN bJ bP bR bQ bK bS bL 0 ⟨eX,0,none⟩ ([1].length) 1 [1] _ eZ) (asK [5] Z) Z (H':=V9 ..) Z ?_
 rintro _ _ _ ⟨rfl,rfl,rfl⟩
 obtain ⟨dA,hm⟩:=Qd hm
 refine Qx (d:=88) (v':=.bool true) (S':=V13 ..) Z Z (Q16 dA) (wP Z (wP Z (wP Z (wP Z (Qq Z Z Z Zq Z Q1a Q1i Q3S Z (zs:=[.int .i64 0]) (by kernel_rfl) Z (out:=[_]) Z (fun bT=>(Q1U (sz:=1) (m:=1) Qh [1] 0 Z (fun F w hφ=>⟨[.int .i64 1],[],Z,Z,⟨(),Z,Ql⟩,Z⟩) Z (by decide) (H':=V16 ..) Z ?_)))))))
 obtain ⟨_,f0,hm⟩:=Q7 hm
 try dsimp only at hm
 refine wC [0] [1,2,3,4,5,6,7,8,9,10,11,12,13,14,15] Z Q32 Z (QY N 0 ⟨bT,0,none⟩ ([1].length) 1 [1] f0) (asK [5] Z) Z (H':=V15 ..) Z ?_
 rintro _ _ _ ⟨rfl,rfl,rfl⟩
 refine Qq Z Z Z Zq Z QG Qg Q1X Z (zs:=[.int .i64 0,V1]) (by kernel_rfl) Z (out:=[_,_]) Z (fun c4=>(Q1U (sz:=2) (m:=1) Qa.pair ([((⟨0,[1]⟩ : Q1),(some (⟨bT,0,none⟩ : Addr),1))]) 0 Z (fun F w hφ=>⟨[.int .i64 0,.slice (some ⟨bT,0,none⟩) [1].length 1],[],Z,Z,Z,Z⟩) Z (by decide) (H':=V17 ..) Z (Q1t [Q1w Qa [] none,_,_,_,_,_,_,_,_,_,_,_,_,_,_,_,_,_] (fun _ h=>h.bagNil Qa) (Q1S [2,0,1,3,4,5,6,7,8,9,10,11,12,13,14,15,16,17] Z (H':=V18 ..) Z (Q1t [Q1w Qa ([((⟨0,[1]⟩ : Q1),(some (⟨bT,0,none⟩ : Addr),1))]) none,_,_,_,_,_,_,_,_,_,_,_,_,_,_,_,_] (fun _ h=>QU.bagPush (T:=Qa) (x:=(⟨0,[1]⟩ : Q1)) (r:=(some (⟨bT,0,none⟩ : Addr),1)) (zs:=[]) (H:=V17 ..) h 0 Z) (Q1t [Q1e Qa 45 2 (.slice (some ⟨c4,0,none⟩) 1 1) ([(⟨0,[1]⟩ : Q1)]),_,_,_,_,_,_,_,_,_,_,_,_,_,_,_] (fun _ h=>h.treeIn 1 0 Z Z Z Z) (Q1J 0 Z (fun bU _=>(Q23 0 (v':=.slice (some ⟨c4,0,none⟩) ([(⟨0,[1]⟩ : Q1)].length) 1) Z (by rw [bU]) (Q1r 0 (φ':=Q1e Qa 45 2 (.slice (some ⟨c4,0,none⟩) ([(⟨0,[1]⟩ : Q1)].length) 1) ([(⟨0,[1]⟩ : Q1)])) Z (by rw [bU]) (H':=V16 ..) Z ?_))))))))))
 obtain ⟨⟨bV,dB,dC,dD,dE⟩,f1,hm⟩:=Q7 hm
 try dsimp only at hm
 refine wC [1,2,3,4,5,0] [6,7,8,9,10,11,12,13,14,15] Z fn_21 Z (Q30 N o q y s bI bM bO bN bJ bP bR bQ bK bS bL (some ⟨c4,0,none⟩) ([(⟨0,[1]⟩ : Q1)].length) 1 [(⟨0,[1]⟩ : Q1)] _ _ _ _ _ f1) (asK [5] Z) Z (H':=V10 ..) Z ?_
 rintro _ _ _ ⟨dF,dG,dH,dI,dJ,dK,dL,rfl,rfl,rfl⟩
 refine wP Z (Qx (d:=97) (v':=.bool (bV != 0)) (S':=V22 ..) Z Z (Q8e (a:=bV) (b:=0)) ?_)
 obtain ⟨dM,hm⟩:=Qd hm
 refine Qx (d:=97) (v':=.bool false) (S':=V22 ..) Z Z (Q16 dM) (wP Z (wP Z (wP Z (Qq Z Z Z Zq Z Q1a Q1i Q3S Z (zs:=[.int .i64 0]) (by kernel_rfl) Z (out:=[_]) Z (fun z=>(Q1U (sz:=1) (m:=1) Qh [1] 0 Z (fun F w hφ=>⟨[.int .i64 1],[],Z,Z,⟨(),Z,Ql⟩,Z⟩) Z (by decide) (H':=V17 ..) Z ?_))))))
 obtain ⟨_,dN,hm⟩:=Q7 hm
 try dsimp only at hm
 refine wC [0] [1,2,3,4,5,6,7,8,9,10,11,12,13,14,15,16] Z Q32 Z (QY N 0 ⟨z,0,none⟩ ([1].length) 1 [1] dN) (asK [5] Z) Z (H':=V16 ..) Z ?_
 rintro _ _ _ ⟨rfl,rfl,rfl⟩
 refine Qq Z Z Z Zq Z Q1a Q1i Q3S Z (zs:=[.int .i64 0]) (by kernel_rfl) Z (out:=[_]) Z (fun a2=>(Q1U (sz:=1) (m:=1) Qh [1] 0 Z (fun F w hφ=>⟨[.int .i64 1],[],Z,Z,⟨(),Z,Ql⟩,Z⟩) Z (by decide) (H':=V18 ..) Z ?_))
 obtain ⟨_,dO,hm⟩:=Q7 hm
 try dsimp only at hm
 refine wC [0] [1,2,3,4,5,6,7,8,9,10,11,12,13,14,15,16,17] Z Q32 Z (QY N 1 ⟨a2,0,none⟩ ([1].length) 1 [1] dO) (asK [5] Z) Z (H':=V17 ..) Z ?_
 rintro _ _ _ ⟨rfl,rfl,rfl⟩
 refine Qq Z Z Z Zq Z QG Qg Q1X Z (zs:=[.int .i64 0,V1,.int .i64 0,V1]) (by kernel_rfl) Z (out:=V4 ..) Z (fun aK=>(Q1U (sz:=2) (m:=2) Qa.pair ([((⟨0,[1]⟩ : Q1),(some (⟨z,0,none⟩ : Addr),1)),((⟨1,[1]⟩ : Q1),(some (⟨a2,0,none⟩ : Addr),1))]) 0 Z (fun F w hφ=>⟨[.int .i64 0,.slice (some ⟨z,0,none⟩) [1].length 1],[.int .i64 1,.slice (some ⟨a2,0,none⟩) [1].length 1],Z,Z,Z,⟨[.int .i64 1,.slice (some ⟨a2,0,none⟩) [1].length 1],[],Z,Z,Z,Z⟩⟩) Z (by decide) (H':=V19 ..) Z (Q1t [Q1w Qa [] none,_,_,_,_,_,_,_,_,_,_,_,_,_,_,_,_,_,_,_] (fun _ h=>h.bagNil Qa) (Q1S [3,0,1,2,4,5,6,7,8,9,10,11,12,13,14,15,16,17,18,19] Z (H':=V20 ..) Z (Q1t [Q1w Qa ([((⟨0,[1]⟩ : Q1),(some (⟨z,0,none⟩ : Addr),1))]) none,_,_,_,_,_,_,_,_,_,_,_,_,_,_,_,_,_,_] (fun _ h=>QU.bagPush (T:=Qa) (x:=(⟨0,[1]⟩ : Q1)) (r:=(some (⟨z,0,none⟩ : Addr),1)) (zs:=[]) (H:=V19 ..) h 0 Z) (Q1S [2,0,1,3,4,5,6,7,8,9,10,11,12,13,14,15,16,17,18] Z (H':=V19 ..) Z (Q1t [Q1w Qa (([((⟨0,[1]⟩ : Q1),(some (⟨z,0,none⟩ : Addr),1))]) ++ [((⟨1,[1]⟩ : Q1),(some (⟨a2,0,none⟩ : Addr),1))]) none,_,_,_,_,_,_,_,_,_,_,_,_,_,_,_,_,_] (fun _ h=>QU.bagPush (T:=Qa) (x:=(⟨1,[1]⟩ : Q1)) (r:=(some (⟨a2,0,none⟩ : Addr),1)) (zs:=[((⟨0,[1]⟩ : Q1),(some (⟨z,0,none⟩ : Addr),1))]) (H:=V18 ..) h 0 Z) (Q1r 0 (φ':=Q1w Qa ([((⟨0,[1]⟩ : Q1),(some (⟨z,0,none⟩ : Addr),1)),((⟨1,[1]⟩ : Q1),(some (⟨a2,0,none⟩ : Addr),1))]) none) Z Z (H':=V18 ..) Z (Q1t [Q1e Qa 45 2 (.slice (some ⟨aK,0,none⟩) 2 2) ([(⟨0,[1]⟩ : Q1),(⟨1,[1]⟩ : Q1)]),_,_,_,_,_,_,_,_,_,_,_,_,_,_,_,_] (fun _ h=>h.treeIn 1 0 Z Z Z Z) (Q1J 0 Z (fun bW _=>(Q23 0 (v':=.slice (some ⟨aK,0,none⟩) ([(⟨0,[1]⟩ : Q1),(⟨1,[1]⟩ : Q1)].length) 2) Z (by rw [bW]) (Q1r 0 (φ':=Q1e Qa 45 2 (.slice (some ⟨aK,0,none⟩) ([(⟨0,[1]⟩ : Q1),(⟨1,[1]⟩ : Q1)].length) 2) ([(⟨0,[1]⟩ : Q1),(⟨1,[1]⟩ : Q1)])) Z (by rw [bW]) (H':=V17 ..) Z ?_)))))))))))))
 obtain ⟨⟨aL,aM,aN,aO,aP⟩,dP,hm⟩:=Q7 hm
 try dsimp only at hm
 refine wC [1,2,3,4,5,0] [6,7,8,9,10,11,12,13,14,15,16] Z fn_21 Z (Q30 N o q y s dB dF dH dG dC dI dK dJ dD dL dE (some ⟨aK,0,none⟩) ([(⟨0,[1]⟩ : Q1),(⟨1,[1]⟩ : Q1)].length) 2 [(⟨0,[1]⟩ : Q1),(⟨1,[1]⟩ : Q1)] _ _ _ _ _ dP) (asK [5] Z) Z (H':=V11 ..) Z ?_
 rintro _ _ _ ⟨aQ,aR,aS,aT,aU,aV,aW,rfl,rfl,rfl⟩
 refine wP Z (Qx (d:=107) (v':=.bool (aL != 0)) (S':=V32 ..) Z Z (Q8e (a:=aL) (b:=0)) ?_)
 obtain ⟨c5,hm⟩:=Qd hm
 refine Qx (d:=107) (v':=.bool false) (S':=V32 ..) Z Z (Q16 c5) (wP Z (wP Z (wP Z (Qq Z Z Z Zq Z Q1a Q1i Q3S Z (zs:=[.int .i64 0]) (by kernel_rfl) Z (out:=[_]) Z (fun cX=>(Q1U (sz:=1) (m:=1) Qh [1] 0 Z (fun F w hφ=>⟨[.int .i64 1],[],Z,Z,⟨(),Z,Ql⟩,Z⟩) Z (by decide) (H':=V18 ..) Z ?_))))))
 obtain ⟨_,dQ,hm⟩:=Q7 hm
 try dsimp only at hm
 refine wC [0] [1,2,3,4,5,6,7,8,9,10,11,12,13,14,15,16,17] Z Q32 Z (QY N 1 ⟨cX,0,none⟩ ([1].length) 1 [1] dQ) (asK [5] Z) Z (H':=V17 ..) Z ?_
 rintro _ _ _ ⟨rfl,rfl,rfl⟩
 obtain ⟨fO,dR,hm⟩:=Q7 hm
 refine wC [1,2,3,4,5,0] [6,7,8,9,10,11,12,13,14,15,16,17] Z fn_22 Z (Q4d N o q y s aM aQ aS aR aN aT aV aU aO aW aP 1 ⟨cX,0,none⟩ ([1].length) 1 [1] _ dR) (asK [5] Z) Z (H':=V12 ..) Z ?_
 rintro _ _ _ ⟨rfl,rfl,rfl⟩
 obtain ⟨c6,hm⟩:=Qd hm
 refine Qx (d:=113) (v':=.bool true) (S':=V38 ..) Z Z (Q16 c6) (wP Z (wP Z (Q2 (Q4 (Q5 [115,2] (S':=[_,_]) Z (Q2X Z (Q5 [2] (S':=[_]) Z (Qt (Q4 (Q6 (Q3 (wP Z (Qq Z Z Z Zq Z Q1a Q1i Q3S Z (zs:=[.int .i64 0]) (by kernel_rfl) Z (out:=[_]) Z (fun a7=>?_))))))))))))))
 refine Q1U (sz:=1) (m:=1) Qh [1] 0 Z (fun F w hφ=>⟨[.int .i64 1],[],Z,Z,⟨(),Z,Ql⟩,Z⟩) Z (by decide) (H':=V19 ..) Z ?_
 obtain ⟨_,dS,hm⟩:=Q7 hm
 try dsimp only at hm
 refine wC [0] [1,2,3,4,5,6,7,8,9,10,11,12,13,14,15,16,17,18] Z Q32 Z (QY N 2 ⟨a7,0,none⟩ ([1].length) 1 [1] dS) (asK [5] Z) Z (H':=V18 ..) Z ?_
 rintro _ _ _ ⟨rfl,rfl,rfl⟩
 refine Qq Z Z Z Zq Z QG Qg Q1X Z (zs:=[.int .i64 0,V1]) (by kernel_rfl) Z (out:=[_,_]) Z (fun aX=>(Q1U (sz:=2) (m:=1) Qa.pair ([((⟨2,[1]⟩ : Q1),(some (⟨a7,0,none⟩ : Addr),1))]) 0 Z (fun F w hφ=>⟨[.int .i64 2,.slice (some ⟨a7,0,none⟩) [1].length 1],[],Z,Z,Z,Z⟩) Z (by decide) (H':=V20 ..) Z (Q1t [Q1w Qa [] none,_,_,_,_,_,_,_,_,_,_,_,_,_,_,_,_,_,_,_,_] (fun _ h=>h.bagNil Qa) (Q1S [2,0,1,3,4,5,6,7,8,9,10,11,12,13,14,15,16,17,18,19,20] Z (H':=V21 ..) Z (Q1t [Q1w Qa ([((⟨2,[1]⟩ : Q1),(some (⟨a7,0,none⟩ : Addr),1))]) none,_,_,_,_,_,_,_,_,_,_,_,_,_,_,_,_,_,_,_] (fun _ h=>QU.bagPush (T:=Qa) (x:=(⟨2,[1]⟩ : Q1)) (r:=(some (⟨a7,0,none⟩ : Addr),1)) (zs:=[]) (H:=V20 ..) h 0 Z) (Q1t [Q1e Qa 45 2 (.slice (some ⟨aX,0,none⟩) 1 1) ([(⟨2,[1]⟩ : Q1)]),_,_,_,_,_,_,_,_,_,_,_,_,_,_,_,_,_,_] (fun _ h=>h.treeIn 1 0 Z Z Z Z) (Q1J 0 Z (fun bX _=>(Q23 0 (v':=.slice (some ⟨aX,0,none⟩) ([(⟨2,[1]⟩ : Q1)].length) 1) Z (by rw [bX]) (Q1r 0 (φ':=Q1e Qa 45 2 (.slice (some ⟨aX,0,none⟩) ([(⟨2,[1]⟩ : Q1)].length) 1) ([(⟨2,[1]⟩ : Q1)])) Z (by rw [bX]) (H':=V19 ..) Z ?_))))))))))
 obtain ⟨⟨aY,c7,c8,c9,cA⟩,dT,hm⟩:=Q7 hm
 try dsimp only at hm
 refine wC [1,2,3,4,5,0] [6,7,8,9,10,11,12,13,14,15,16,17,18] Z fn_21 Z (Q30 N o q y s aM aQ aS aR aN aT aV aU aO aW aP (some ⟨aX,0,none⟩) ([(⟨2,[1]⟩ : Q1)].length) 1 [(⟨2,[1]⟩ : Q1)] _ _ _ _ _ dT) (asK [5] Z) Z (H':=V13 ..) Z ?_
 rintro _ _ _ ⟨cB,cC,cD,cE,cF,cG,cH,rfl,rfl,rfl⟩
 refine wP Z (Qx (d:=121) (v':=.bool (aY == 4)) (S':=V6 ..) Z Z (nateq (a:=aY) (b:=4)) ?_)
 obtain ⟨cI,hm⟩:=Qd hm
 refine Qx (d:=121) (v':=.bool true) (S':=V6 ..) Z Z (Q16 cI) (wP Z (wP Z (Qq Z Z Z Zq Z Q1a Q1i Q3S Z (zs:=[.int .i64 0]) (by kernel_rfl) Z (out:=[_]) Z (fun a0=>(Q1U (sz:=1) (m:=1) Qh [1] 0 Z (fun F w hφ=>⟨[.int .i64 1],[],Z,Z,⟨(),Z,Ql⟩,Z⟩) Z (by decide) (H':=V20 ..) Z ?_)))))
 obtain ⟨_,dU,hm⟩:=Q7 hm
 try dsimp only at hm
 refine wC [0] [1,2,3,4,5,6,7,8,9,10,11,12,13,14,15,16,17,18,19] Z Q32 Z (QY N 0 ⟨a0,0,none⟩ ([1].length) 1 [1] dU) (asK [5] Z) Z (H':=V19 ..) Z ?_
 rintro _ _ _ ⟨rfl,rfl,rfl⟩
 refine Qq Z Z Z Zq Z Q1a Q1i Q3S Z (zs:=[.int .i64 0]) (by kernel_rfl) Z (out:=[_]) Z (fun a3=>(Q1U (sz:=1) (m:=1) Qh [1] 0 Z (fun F w hφ=>⟨[.int .i64 1],[],Z,Z,⟨(),Z,Ql⟩,Z⟩) Z (by decide) (H':=V21 ..) Z ?_))
 obtain ⟨_,dV,hm⟩:=Q7 hm
 try dsimp only at hm
 refine wC [0] [1,2,3,4,5,6,7,8,9,10,11,12,13,14,15,16,17,18,19,20] Z Q32 Z (QY N 0 ⟨a3,0,none⟩ ([1].length) 1 [1] dV) (asK [5] Z) Z (H':=V20 ..) Z ?_
 rintro _ _ _ ⟨rfl,rfl,rfl⟩
 refine Qq Z Z Z Zq Z QG Qg Q1X Z (zs:=[.int .i64 0,V1,.int .i64 0,V1]) (by kernel_rfl) Z (out:=V4 ..) Z (fun aZ=>(Q1U (sz:=2) (m:=2) Qa.pair ([((⟨0,[1]⟩ : Q1),(some (⟨a0,0,none⟩ : Addr),1)),((⟨0,[1]⟩ : Q1),(some (⟨a3,0,none⟩ : Addr),1))]) 0 Z (fun F w hφ=>⟨[.int .i64 0,.slice (some ⟨a0,0,none⟩) [1].length 1],[.int .i64 0,.slice (some ⟨a3,0,none⟩) [1].length 1],Z,Z,Z,⟨[.int .i64 0,.slice (some ⟨a3,0,none⟩) [1].length 1],[],Z,Z,Z,Z⟩⟩) Z (by decide) (H':=V22 ..) Z (Q1t [Q1w Qa [] none,_,_,_,_,_,_,_,_,_,_,_,_,_,_,_,_,_,_,_,_,_,_] (fun _ h=>h.bagNil Qa) (Q1S [3,0,1,2,4,5,6,7,8,9,10,11,12,13,14,15,16,17,18,19,20,21,22] Z (H':=V23 ..) Z (Q1t [Q1w Qa ([((⟨0,[1]⟩ : Q1),(some (⟨a0,0,none⟩ : Addr),1))]) none,_,_,_,_,_,_,_,_,_,_,_,_,_,_,_,_,_,_,_,_,_] (fun _ h=>QU.bagPush (T:=Qa) (x:=(⟨0,[1]⟩ : Q1)) (r:=(some (⟨a0,0,none⟩ : Addr),1)) (zs:=[]) (H:=V22 ..) h 0 Z) (Q1S [2,0,1,3,4,5,6,7,8,9,10,11,12,13,14,15,16,17,18,19,20,21] Z (H':=V22 ..) Z (Q1t [Q1w Qa (([((⟨0,[1]⟩ : Q1),(some (⟨a0,0,none⟩ : Addr),1))]) ++ [((⟨0,[1]⟩ : Q1),(some (⟨a3,0,none⟩ : Addr),1))]) none,_,_,_,_,_,_,_,_,_,_,_,_,_,_,_,_,_,_,_,_] (fun _ h=>QU.bagPush (T:=Qa) (x:=(⟨0,[1]⟩ : Q1)) (r:=(some (⟨a3,0,none⟩ : Addr),1)) (zs:=[((⟨0,[1]⟩ : Q1),(some (⟨a0,0,none⟩ : Addr),1))]) (H:=V21 ..) h 0 Z) (Q1r 0 (φ':=Q1w Qa ([((⟨0,[1]⟩ : Q1),(some (⟨a0,0,none⟩ : Addr),1)),((⟨0,[1]⟩ : Q1),(some (⟨a3,0,none⟩ : Addr),1))]) none) Z Z (H':=V21 ..) Z (Q1t [Q1e Qa 45 2 (.slice (some ⟨aZ,0,none⟩) 2 2) ([(⟨0,[1]⟩ : Q1),(⟨0,[1]⟩ : Q1)]),_,_,_,_,_,_,_,_,_,_,_,_,_,_,_,_,_,_,_] (fun _ h=>h.treeIn 1 0 Z Z Z Z) (Q1J 0 Z (fun bY _=>(Q23 0 (v':=.slice (some ⟨aZ,0,none⟩) ([(⟨0,[1]⟩ : Q1),(⟨0,[1]⟩ : Q1)].length) 2) Z (by rw [bY]) (Q1r 0 (φ':=Q1e Qa 45 2 (.slice (some ⟨aZ,0,none⟩) ([(⟨0,[1]⟩ : Q1),(⟨0,[1]⟩ : Q1)].length) 2) ([(⟨0,[1]⟩ : Q1),(⟨0,[1]⟩ : Q1)])) Z (by rw [bY]) (H':=V20 ..) Z ?_)))))))))))))
 obtain ⟨⟨b0,cJ,cK,cL,cM⟩,dW,hm⟩:=Q7 hm
 try dsimp only at hm
 refine wC [1,2,3,4,5,0] [6,7,8,9,10,11,12,13,14,15,16,17,18,19] Z fn_21 Z (Q30 N o q y s c7 cB cD cC c8 cE cG cF c9 cH cA (some ⟨aZ,0,none⟩) ([(⟨0,[1]⟩ : Q1),(⟨0,[1]⟩ : Q1)].length) 2 [(⟨0,[1]⟩ : Q1),(⟨0,[1]⟩ : Q1)] _ _ _ _ _ dW) (asK [5] Z) Z (H':=V14 ..) Z ?_
 rintro _ _ _ ⟨cN,cO,cP,cQ,cR,cS,cT,rfl,rfl,rfl⟩
 refine wP Z (Qx (d:=130) (v':=.bool (b0 == 4)) (S':=V15 ..) Z Z (nateq (a:=b0) (b:=4)) ?_)
 obtain ⟨cU,hm⟩:=Qd hm
 refine Qx (d:=130) (v':=.bool true) (S':=V15 ..) Z Z (Q16 cU) (wP Z (wP Z (wP Z (Qq Z Z Z Zq Z Q1a Q1i Q3S Z (zs:=[.int .i64 0]) (by kernel_rfl) Z (out:=[_]) Z (fun bZ=>(Q1U (sz:=1) (m:=1) Qh [2] 0 Z (fun F w hφ=>⟨[.int .i64 2],[],Z,Z,⟨(),Z,Ql⟩,Z⟩) Z (by decide) (H':=V21 ..) Z ?_))))))
 obtain ⟨_,dX,hm⟩:=Q7 hm
 try dsimp only at hm
 refine wC [0] [1,2,3,4,5,6,7,8,9,10,11,12,13,14,15,16,17,18,19,20] Z Q32 Z (QY N 0 ⟨bZ,0,none⟩ ([2].length) 1 [2] dX) (asK [5] Z) Z (H':=V20 ..) Z ?_
 rintro _ _ _ ⟨rfl,rfl,rfl⟩
 obtain ⟨⟨b1,f2,f3,f4,f5⟩,dY,hm⟩:=Q7 hm
 try dsimp only at hm
 refine wC [1,2,3,4,5,0] [6,7,8,9,10,11,12,13,14,15,16,17,18,19,20] Z fn_23 Z (Q7E N o q y s cJ cN cP cO cK cQ cS cR cL cT cM 0 ⟨bZ,0,none⟩ ([2].length) 1 [2] _ _ _ _ _ dY) (asK [5] Z) Z (H':=V15 ..) Z ?_
 rintro _ _ _ ⟨f6,f7,f8,f9,fA,fB,rfl,rfl,rfl⟩
 obtain ⟨b2,hm⟩:=Qd hm
 refine Q23 2 (v':=.slice (some ⟨bZ,0,none⟩) [2].length 1) Z (by rw [b2]) (wP Z (Qx (d:=137) (v':=.bool (b1 == 6)) (S':=V22 ..) Z Z (nateq (a:=b1) (b:=6)) ?_))
 obtain ⟨cV,hm⟩:=Qd hm
 refine Qx (d:=137) (v':=.bool true) (S':=V22 ..) Z Z (Q16 cV) (wP Z (wP Z (Q2 (Q4 (Q5 [0] (S':=[_]) Z (QJ ?_))))))
 have hE:=(Zi hm).symm
 refine QA (Hr:=[]) [] Tryz.results5 (Qy Z) ⟨Z,Z,Z⟩ (asK [] Z) Z Z (.inl Z)
theorem Q3V (N:Nat) (a0:Int) (a1:Int)  (hm:Q3P N a0 a1 = some ()):Q1z Tryz.prog 99 [.int .i64 a0,.int .i64 a1] [] [] (fun v Φr Hr=>v = .int .i64 (IntKind.wrap .i64 ((IntKind.wrap .i64 (1000003 * (IntKind.wrap .i64 (a0 + 7)))) + a1)) ∧ Φr = [] ∧ Hr = []):=by
 unfold Q3P at hm
 refine Q12 Tryz.func99 Z Tryz.ntmps99 Z (S:=[_,_]) Z (fun C=>(Q6 (Q3 (wP Z (Q2 (Q4 (Q5 [0,1] (S':=[_,_]) Z (Q6 (Q3 (wP Z (wP Z (wP Z (wP Z (wP Z ?_))))))))))))))
 refine wP Z (Q2 (Q4 (Q5 [4] (S':=[_]) Z (QJ ?_))))
 have hE:=(Zi hm).symm
 refine QA (Hr:=[]) [] Tryz.results99 (Qy Z) ⟨Z,Z,Z⟩ (asK [] Z) Z Z (.inl Z)
theorem Q9V (N:Nat) (a4:OA) (a5:Nat) (l0:List Int) (o2:List Int) (hm:Q6S N l0 = some o2):Q1z Tryz.prog 86 [.slice a4 l0.length a5] [.sli 1 Qh a4 a5 l0] [] (fun v Φr Hr=>∃ (o0:OA) (o1:Nat) (o3:Nat),v = .slice o0 l0.length o1 ∧ Φr = [] ∧ Hr = [.own 3 1 Qh (.slice o0 o3 o1) o2]):=by
 unfold Q6S at hm
 refine Q12 Tryz.func86 Z Tryz.ntmps86 Z (S:=[_]) Z (fun C=>(Q6 (Q3 (wP Z (Q2 (Q4 (Q5 [0] (S':=[_]) Z (Q6 (Q3 (wP Z (wN Z Q1a (wP Z ?_))))))))))))
 obtain ⟨aL,hm⟩:=Qd hm
 refine Qx (d:=7) (v':=.int .i64 ((l0.length + 12:Nat):Int)) (S':=V3 ..) Z Z (Q1f (a:=l0.length) (b:=12) aL) ?_
 obtain ⟨aG,hm⟩:=Qd hm
 refine wl_makeCap (m:=l0.length + 12) Qh Z Z Z Zq Z Z Z Z Q1a tR_3 Z Z (Nat.le_trans (Nat.mul_le_mul_left _ aG) (by decide)) (Nat.le_trans aG (by decide)) (fun g8=>(wP Z (Q2 (Q4 (Q5 [3,0] (S':=[_,_]) Z (Q6 (Q3 (wP Z (wP Z ?_)))))))))
 obtain ⟨a8,hm⟩:=Qd hm
 refine Q8v 0 0 Z Z Z Zq Z Z Z Z Z Q1a tR_3 Z Z (Nat.le_trans a8 (by decide)) (Nat.le_trans (Nat.mul_le_mul_right _ a8) (by decide)) (H2:=fun aB aC=>[.own 3 1 Qh (.slice aB (l0).length aC) l0]) (fun _ _=>Z) (fun aB aC=>(QM (S':=V4 ..) Z Z Z Z Z (Q2 (Q4 (Q5 [3,0] (S':=[_,_]) Z (Q6 ?_))))))
 obtain ⟨a9,hm,hLj_1⟩:=Q7 hm
 refine Q15 (σ:=(List Int) × OA × Nat × Nat) (fun (a1,o,q,s)=>a9 = a1) (fun (a1,o,q,s)=>[(3,.slice o s q),(0,.slice a4 l0.length a5)]) (fun (a1,o,q,s)=>[.sli 1 Qh a4 a5 l0]) (fun (a1,o,q,s)=>[.own 3 1 Qh (.slice o s q) a1]) ?_ ?_
 refine Q6 (Q3 (wP Z (Q2 (Q4 (Qn (Q1b (σ:=Nat × Nat × (List Int) × OA × Nat × Nat) (fun (a3,j,f,y,z,a0)=>Q1B (Q5R N) a3 (j,f) = some a9) (fun (a3,j,f,y,z,a0)=>a3) (fun (a3,j,f,y,z,a0)=>[(4,.int .i64 ((j:Nat):Int)),(3,.slice y a0 z),(0,.slice a4 l0.length a5)]) (fun (a3,j,f,y,z,a0)=>[.sli 1 Qh a4 a5 l0]) (fun (a3,j,f,y,z,a0)=>[.own 3 1 Qh (.slice y a0 z) f]) (N,0,l0,aB,aC,(l0).length) hm [4,3,0] Z (asK [0] Z) Z (fun s_ hm=>?_)))))))
 obtain ⟨a3,j,f,y,z,a0⟩:=s_
 try dsimp only at hm ⊢
 obtain ⟨aQ,aR,aH,hq,hLu1⟩:=Q18 hm
 clear hm
 subst aH
 replace hm:=hq
 clear hq
 unfold Q5R at hm
 try dsimp only at hm
 refine Q6 (Q6 (Q3 (wP Z (wP Z (Qx (d:=13) (v':=.bool (decide (j < 12))) (S':=V4 ..) Z Z (Q20 (a:=j) (b:=12)) (Q2 (Q4 (Q5 [13,4,3,0] (S':=V4 ..) Z ?_))))))))
 refine Qv Z (fun a6=>?_) (fun a6=>?_)
 replace hm:=Q1m hm a6
 refine Q5 [4,3,0] (S':=V3 ..) Z (Qt (Q4 (Q6 (Qn (Q3 (wP Z (wP Z ?_)))))))
 obtain ⟨_,aI,hm⟩:=Q7 hm
 try dsimp only at hm
 refine wC [] [0] Z fn_99 Z (Q3V N 1 ((j:Nat):Int) aI) (asK [] Z) Z (H':=[_]) Z ?_
 rintro _ _ _ ⟨rfl,rfl,rfl⟩
 refine Qq Z Z Z Zq Z Q1a Q1i Q3S Z (zs:=[.int .i64 0]) (by kernel_rfl) Z (out:=[_]) Z (fun aS=>?_)
 obtain ⟨aA,hm⟩:=Qd hm
 refine Q21 ([(IntKind.wrap .i64 ((IntKind.wrap .i64 (1000003 * (IntKind.wrap .i64 (1 + 7)))) + ((j:Nat):Int)))]) 1 0 Z Z Z Zq Z Z Z Z Z (fun F w hφ=>⟨[.int .i64 (IntKind.wrap .i64 ((IntKind.wrap .i64 (1000003 * (IntKind.wrap .i64 (1 + 7)))) + ((j:Nat):Int)))],[],Z,Z,⟨(),Z,Ql⟩,Z⟩) Q1a tR_3 Z Z (Nat.le_trans aA (by decide)) (Nat.le_trans (Nat.mul_le_mul_right _ aA) (by decide)) (H2:=fun aD aE=>[_,.own 3 1 Qh (.slice aD ((f ++ ([(IntKind.wrap .i64 ((IntKind.wrap .i64 (1000003 * (IntKind.wrap .i64 (1 + 7)))) + ((j:Nat):Int)))])).length) aE) (f ++ ([(IntKind.wrap .i64 ((IntKind.wrap .i64 (1000003 * (IntKind.wrap .i64 (1 + 7)))) + ((j:Nat):Int)))]))]) (fun _ _=>Z) (fun aD aE=>(Q2J 0 Z (H':=[_]) Z (QM (S':=V7 ..) Z Z Z Z Z (Q2 (Qi (Q4 (Q5 [3,4,0] (S':=V3 ..) Z (Q3 (wP Z (wP Z ?_))))))))))
 obtain ⟨aJ,hm⟩:=Qd hm
 refine Qx (d:=15) (v':=.int .i64 ((j + 1:Nat):Int)) (S':=V4 ..) Z Z (Q1f (a:=j) (b:=1) aJ) (QM (S':=V4 ..) Z Z Z Z Z (Q2 ?_))
 have hE:=(Zi hm).symm
 replace hE:=Q11 hLu1 hE
 refine Q14 (_,j + 1,(f ++ ([(IntKind.wrap .i64 ((IntKind.wrap .i64 (1000003 * (IntKind.wrap .i64 (1 + 7)))) + ((j:Nat):Int)))])),aD,aE,((f ++ ([(IntKind.wrap .i64 ((IntKind.wrap .i64 (1000003 * (IntKind.wrap .i64 (1 + 7)))) + ((j:Nat):Int)))])).length)) (Nat.lt_succ_self _) hE [4,3,0] Z (asK [0] Z) Z
 replace hm:=Q1l hm a6
 refine Q5 [3,0] (S':=[_,_]) Z (Q19 (Qc (Qc (Qu ?_))))
 have hE:=(Zi hm).symm
 replace hE:=QE hLu1 hE
 refine Qp (f,y,z,a0) hE [3,0] Z (asK [0] Z) Z
 rintro ⟨a1,o,q,s⟩ hE
 try dsimp only
 have hm:=hLj_1
 try rw [hE] at hm
 refine Q6 (Q3 (wP Z (wP Z (wN Z Q1a ?_))))
 obtain ⟨aK,hm⟩:=Qd hm
 refine Q9t 0 Z (fun aF a7=>(Q82 Z Z Z Zq Z Z Z Z Q1a Q1i (Nat.le_trans aK (by rw [← a7.2]; exact a7.1)) aF (wP Z (Q2 (Q4 (Q5 [2] (S':=[_]) Z (QJ ?_)))))))
 have hE:=(Zi hm).symm
 replace hE:=hE.symm
 subst hE
 refine QA (Hr:=[_]) [0] Tryz.results86 (Qy Z) ⟨o,q,s,Z,Z,Z⟩ (asK [] Z) Z Z (.inl Z)
theorem Q1n (N:Nat) (a0:Int) (qp0:OA) (qc1:Nat) (l1:List Int) (o2:List Int) (hm:Q3T N a0 l1 = some o2):Q1z Tryz.prog 38 [.agg #[.int .i64 a0,.slice qp0 l1.length qc1]] [.sli 1 Qh qp0 qc1 l1] [] (fun v Φr Hr=>∃ (o0:OA) (o1:Nat) (o3:Nat),v = .agg #[.int .i64 a0,.slice o0 l1.length o1] ∧ Φr = [] ∧ Hr = [.own 3 1 Qh (.slice o0 o3 o1) o2]):=by
 unfold Q3T at hm
 refine Q12 Tryz.func38 Z Tryz.ntmps38 Z (S:=[_]) Z (fun C=>(Q6 (Q3 (wB Z (fun g1=>(Q1s Z Z Z Zq Z Q1X Z (fun g2=>(Q2 (Q4 (Q5 [2,1] (S':=[_,_]) Z (Q6 (Q3 (wF Z Q2i (wD 1 1 Z Q1T Q2Q Z ?_))))))))))))))
 obtain ⟨v5,hc5,hm⟩:=Q7 hm
 refine wC [] [0,1] Z fn_86 Z (Q9V N qp0 qc1 l1 _ hc5) (asK [0] Z) Z (H':=[_,_]) Z ?_
 rintro _ _ _ ⟨p5_0,c5_1,c5_2,rfl,rfl,rfl⟩
 refine wF Z Q2i (wS 2 1 Z Q1T (all':=[_,_]) Z (H':=V3 ..) Z (Q2 (Q4 (Q5 [2,1] (S':=[_,_]) Z (Q6 (Q3 (Q1E 2 0 Z Z Z Zq Z Z Z (cs:=[_,_]) Z Qg QT Z Z (wS 1 0 Z Qg (all':=[_,_]) Z (H':=V3 ..) Z (Q2 (Q4 (Q5 [2] (S':=[_]) Z (QJ ?_))))))))))))
 have hE:=(Zi hm).symm
 replace hE:=hE.symm
 subst hE
 refine QA (Hr:=[_]) [0] Tryz.results38 (Q4Q 1 Z Z Qg QT Z Z) ⟨p5_0,c5_1,c5_2,Z,Z,Z⟩ (asK [] Z) Z Z (.inl Z)
theorem Q7t (N:Nat) (o:OA) (q:Nat) (l0:List Qw) (s:OA) (y:Nat) (l1:List QP) (a2:Int) (z:OA) (a0:Nat) (l3:List Int) (o0:Int) (hm:Q4C N l0 l1 a2 l3 = some o0):Q1z Tryz.prog 54 [.agg #[.slice o l0.length q,.slice s l1.length y],.agg #[.int .i64 a2,.slice z l3.length a0]] [.sli 2 QL o q l0,.sli 5 QO s y l1,.sli 1 Qh z a0 l3,tF] [] (fun v Φr Hr=>v = .int .i64 o0 ∧ Φr = [] ∧ Hr = []):=by
 unfold Q4C at hm
 refine Q12 Tryz.func54 Z Tryz.ntmps54 Z (S:=[_,_]) Z (fun C=>(Q6 (Q3 (wB Z (fun g2=>(wB Z (fun g3=>(wP Z (Q2 (Q4 (Q5 [3,2] (S':=[_,_]) Z (Q6 (Q6 ?_)))))))))))))
 obtain ⟨a7,hm,hLj_1⟩:=Q7 hm
 refine Q15 (σ:=Bool) (fun f=>a7 = f) (fun f=>[(3,.pointer (some ⟨g3,0,none⟩)),(2,.pointer (some ⟨g2,0,none⟩)),(15,.bool f)]) (fun f=>[.sli 1 Qh z a0 l3,.sli 2 QL o q l0,.sli 5 QO s y l1,tF]) (fun f=>[.blk g3 [.int .i64 a2,.slice z l3.length a0] 45,.blk g2 [.slice o l0.length q,.slice s l1.length y] 28]) ?_ ?_
 refine Q3 (wF Z Q22 (wD 0 0 Z Q1i Q2d Z (wP Z (wP Z ?_))))
 refine Q28 (d:=8) (S':=V5 ..) Z Z (fun a1=>?_) (fun a1=>?_)
 replace hm:=Q1m hm a1
 refine wO Z (wO Z (wO Z (wO Z (wO Z (wO Z (wP Z (Q2 ?_)))))))
 have hE:=(Zi hm).symm
 refine Qp true hE [3,2,15] Z (asK [2,0,1,3] Z) Z
 replace hm:=Q1l hm a1
 refine wF Z Q22 (wD 0 0 Z Q1i Q2d Z (wF Z Q4a (wD 1 1 Z Q7q Q85 Z (wN Z Q60 (wP Z (wP Z (Q2 ?_)))))))
 have hE:=(Zi hm).symm
 refine Qp (decide (a2 ≥ ((l1.length:Nat):Int))) hE [3,2,15] Z (asK [2,0,1,3] Z) Z
 rintro f hE
 try dsimp only
 have hm:=hLj_1
 try rw [hE] at hm
 refine Qv Z (fun j=>?_) (fun j=>?_)
 replace hm:=Q1m hm j
 refine Q5 [] (S':=[]) Z (Q6 (Q3 (wP Z (Q2 (Q4 (QJ (Qj ?_)))))))
 have hE:=(Zi hm).symm
 replace hE:=hE.symm
 subst hE
 refine QA (Hr:=[]) [] Tryz.results54 (Qy Z) ⟨Z,Z,Z⟩ (asK [] Z) Z Z (.inl Z)
 replace hm:=Q1l hm j
 refine Q5 [3,2] (S':=[_,_]) Z (Qt (Q4 (Q6 (Q3 (wF Z Q4a (wD 1 1 Z Q7q Q85 Z (wF Z Q22 (wD 0 0 Z Q1i Q2d Z ?_))))))))
 obtain ⟨a8,hm⟩:=Qd hm
 obtain ⟨aG,a9,hm⟩:=Q7 hm
 refine Q3z 2 a2.toNat Z Z Z Zq Z Z Z Z (QK a8) a9 Q60 Q7D (fun aH aI aF aB=>(Q5m Q3Z 1 Z (fun aJ aA _=>?_)))
 subst aA
 refine wF Z Q9K (Q5l 2 1 Z Z Z Zq Z Z Z (cs:=[_]) Z Q1i Q2d Z Z (wP Z (Q2 (Q4 (Q5 [4] (S':=[_]) Z (QJ ?_))))))
 have hE:=(Zi hm).symm
 replace hE:=hE.symm
 subst hE
 refine QA (Hr:=[]) [] Tryz.results54 (Qy Z) ⟨Z,Z,Z⟩ (asK [] Z) Z Z (.inl Z)
end Go.Proofs.YtgangmegcejllaaGreatDoor
