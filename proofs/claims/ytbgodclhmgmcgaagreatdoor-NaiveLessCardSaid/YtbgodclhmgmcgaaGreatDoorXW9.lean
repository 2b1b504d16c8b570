import Derived.Test.YtbgodclhmgmcgaaGreatDoorXW8
namespace Go.Proofs.YtbgodclhmgmcgaaGreatDoor
open Go.RowKit
set_option maxRecDepth 100000
set_option maxHeartbeats 4000000
theorem Qao (N:Nat) (aI:OA) (aJ:Nat) (s:List Qz) (z:Int)  (hm:Q3o N s z = some ()):Q17 Tryz.prog 22 [.slice aI s.length aJ,.int .i64 z] [.sli 3 QP aI aJ s] [] (fun v Φr Hr=>∃ (o0:OA) (o1:Nat),v = .slice o0 (((([] : List Qz) ++ (s.take z.toNat)) ++ (s.drop ((z + 1).toNat))).length) o1 ∧ Φr = [] ∧ Hr = [.own 71 3 QP (.slice o0 (((([] : List Qz) ++ (s.take z.toNat)) ++ (s.drop ((z + 1).toNat))).length) o1) ((([] : List Qz) ++ (s.take z.toNat)) ++ (s.drop ((z + 1).toNat)))]):=by
 unfold Q3o at hm
 refine QC Tryz.func22 Z Tryz.ntmps22 Z (S:=[_,_]) Z (fun C=>(Q5 (Q1 (wP Z (Q4 (Q3 (Q2 [0,1] (S':=[_,_]) Z (Q5 ?_))))))))
 obtain ⟨aB,hm⟩:=Qd hm
 obtain ⟨aH,hm⟩:=Qd hm
 obtain ⟨a7,hm⟩:=Qd hm
 obtain ⟨aK,hm⟩:=Qd hm
 obtain ⟨a6,hm⟩:=Qd hm
 obtain ⟨aC,hm⟩:=Qd hm
 obtain ⟨aA,hm⟩:=Qd hm
 refine QM (σ:=OA × Nat) (fun _=>True) (fun (a0,a5)=>[(4,.slice a0 (((([] : List Qz) ++ (s.take z.toNat)) ++ (s.drop ((z + 1).toNat))).length) a5)]) (fun (a0,a5)=>[]) (fun (a0,a5)=>[.own 71 3 QP (.slice a0 (((([] : List Qz) ++ (s.take z.toNat)) ++ (s.drop ((z + 1).toNat))).length) a5) ((([] : List Qz) ++ (s.take z.toNat)) ++ (s.drop ((z + 1).toNat)))]) ?_ ?_
 refine QW [1,2,5,6,7] Z Z (fun hok=>(xP hok 1 Z (xP hok 2 Z (xP hok 5 Z (xP hok 6 Z (xP hok 7 Z (Q1z (d:=12) (v':=.int .i64 (z + 1)) (S':=V6 ..) Z Z (i64_in aK) ?_)))))))
 refine wx_step3 hok 0 3 8 Z Z Z Z Z Z Z Z ?_ ?_ ?_
 ·
  refine QB Z Z Z Zq Z Q2y Q2N Q9N Z (zs:=[]) (by kernel_rfl) Z (out:=[]) Z (fun g5=>(Q4 (QJ [0] [] Z Z ?_)))
  refine Q34 hok 3 8 Z Z Z Z Z Z ?_ ?_
  rotate_left
  focus
   refine Q8b 0 Z Z Z Zq Z Z Z Z (Q1d a6) Q2y Q2N aC (fun aG=>(Q4 (QJ [1] [] Z Z (xS hok 3 Z (Qcj 1 Z Z Z Zq Z Z Z Z (Q1d aB) Q2y Q2N aH (fun p8=>(Q4 (QJ [1,2] [] Z Z (xS hok 4 Z (Q1Z (sz:=3) (m:=0) Q11.pair [] 0 Z (fun F w hφ=>Z) Z (by decide) (H':=[_]) Z (Q27 [Q4i Q11 [] none,_] (fun _ h=>h.bagNil Q11) (Q27 [Q21 Q11 71 3 (.slice (some ⟨g5,0,none⟩) 0 0) ([] : List Qz)] (fun _ h=>h.treeIn 1 0 Z Z Z Z) (Q27 [.own 71 3 QP (.slice (some ⟨g5,0,none⟩) 0 0) ([] : List Qz)] (fun _ h=>h.letgo Q2X 0 Z) (Q4M 0 0 Z Z Z Zq Z Z Z Z Z Q2y tR_71 Z Z (Nat.le_trans a7 (by decide)) (Nat.le_trans (Nat.mul_le_mul_right _ a7) (by decide)) (H2:=fun p9 c9=>[.own 71 3 QP (.slice p9 ((([] : List Qz) ++ (s.take z.toNat)).length) c9) (([] : List Qz) ++ (s.take z.toNat))]) (fun _ _=>Z) (fun p9 c9=>(Q4 ?_))))))))))))))))
   refine QJ [0,1,2] [] Z Z (xS hok 9 Z (Q4M 0 1 Z Z Z Zq Z Z Z Z Z Q2y tR_71 Z Z (Nat.le_trans aA (by decide)) (Nat.le_trans (Nat.mul_le_mul_right _ aA) (by decide)) (H2:=fun a8 a9=>[.own 71 3 QP (.slice a8 (((([] : List Qz) ++ (s.take z.toNat)) ++ (s.drop ((z + 1).toNat))).length) a9) ((([] : List Qz) ++ (s.take z.toNat)) ++ (s.drop ((z + 1).toNat)))]) (fun _ _=>Z) (fun a8 a9=>?_)))
  rotate_right
  focus
   refine Qcj 0 Z Z Z Zq Z Z Z Z (Q1d aB) Q2y Q2N aH (fun p8=>(Q4 (QJ [1] [] Z Z ?_)))
   refine Q34 hok 4 8 Z Z Z Z Z Z ?_ ?_
   rotate_left
   focus
    refine Q8b 1 Z Z Z Zq Z Z Z Z (Q1d a6) Q2y Q2N aC (fun aG=>(Q4 (QJ [1,2] [] Z Z (xS hok 4 Z (Q1Z (sz:=3) (m:=0) Q11.pair [] 0 Z (fun F w hφ=>Z) Z (by decide) (H':=[_]) Z (Q27 [Q4i Q11 [] none,_] (fun _ h=>h.bagNil Q11) (Q27 [Q21 Q11 71 3 (.slice (some ⟨g5,0,none⟩) 0 0) ([] : List Qz)] (fun _ h=>h.treeIn 1 0 Z Z Z Z) (Q27 [.own 71 3 QP (.slice (some ⟨g5,0,none⟩) 0 0) ([] : List Qz)] (fun _ h=>h.letgo Q2X 0 Z) (Q4M 0 1 Z Z Z Zq Z Z Z Z Z Q2y tR_71 Z Z (Nat.le_trans a7 (by decide)) (Nat.le_trans (Nat.mul_le_mul_right _ a7) (by decide)) (H2:=fun p9 c9=>[.own 71 3 QP (.slice p9 ((([] : List Qz) ++ (s.take z.toNat)).length) c9) (([] : List Qz) ++ (s.take z.toNat))]) (fun _ _=>Z) (fun p9 c9=>(Q4 (QJ [0,1,2] [] Z Z ?_))))))))))))
   rotate_right
   focus
    refine Q1Z (sz:=3) (m:=0) Q11.pair [] 0 Z (fun F w hφ=>Z) Z (by decide) (H':=[_]) Z (Q27 [Q4i Q11 [] none,_] (fun _ h=>h.bagNil Q11) (Q27 [Q21 Q11 71 3 (.slice (some ⟨g5,0,none⟩) 0 0) ([] : List Qz)] (fun _ h=>h.treeIn 1 0 Z Z Z Z) (Q27 [.own 71 3 QP (.slice (some ⟨g5,0,none⟩) 0 0) ([] : List Qz)] (fun _ h=>h.letgo Q2X 0 Z) (Q4M 0 0 Z Z Z Zq Z Z Z Z Z Q2y tR_71 Z Z (Nat.le_trans a7 (by decide)) (Nat.le_trans (Nat.mul_le_mul_right _ a7) (by decide)) (H2:=fun p9 c9=>[.own 71 3 QP (.slice p9 ((([] : List Qz) ++ (s.take z.toNat)).length) c9) (([] : List Qz) ++ (s.take z.toNat))]) (fun _ _=>Z) (fun p9 c9=>(Q4 (QJ [0,1] [] Z Z (xS hok 8 Z (Q8b 1 Z Z Z Zq Z Z Z Z (Q1d a6) Q2y Q2N aC (fun aG=>(Q4 (QJ [1,2] [] Z Z ?_))))))))))))
   all_goals
    refine xS hok 9 Z (Q4M 0 0 Z Z Z Zq Z Z Z Z Z Q2y tR_71 Z Z (Nat.le_trans aA (by decide)) (Nat.le_trans (Nat.mul_le_mul_right _ aA) (by decide)) (H2:=fun a8 a9=>[.own 71 3 QP (.slice a8 (((([] : List Qz) ++ (s.take z.toNat)) ++ (s.drop ((z + 1).toNat))).length) a9) ((([] : List Qz) ++ (s.take z.toNat)) ++ (s.drop ((z + 1).toNat)))]) (fun _ _=>Z) (fun a8 a9=>?_))
  all_goals
   refine Q4 (QJ [0,1,2] [] Z Z (xS hok 10 Z (wP Z (Q4 (QJ [0,1,2] [] Z Z (QS hok Z ?_))))))
   refine Qh (a8,a9) trivial [4] Z (asK [] Z) Z
 ·
  refine Qcj 0 Z Z Z Zq Z Z Z Z (Q1d aB) Q2y Q2N aH (fun p8=>(Q4 (QJ [1] [] Z Z ?_)))
  refine Q34 hok 0 8 Z Z Z Z Z Z ?_ ?_
  rotate_left
  focus
   refine Q8b 1 Z Z Z Zq Z Z Z Z (Q1d a6) Q2y Q2N aC (fun aG=>(Q4 (QJ [1,2] [] Z Z (xS hok 0 Z (QB Z Z Z Zq Z Q2y Q2N Q9N Z (zs:=[]) (by kernel_rfl) Z (out:=[]) Z (fun g5=>(Q4 (QJ [0,1,2] [] Z Z (xS hok 4 Z (Q1Z (sz:=3) (m:=0) Q11.pair [] 0 Z (fun F w hφ=>Z) Z (by decide) (H':=[_]) Z (Q27 [Q4i Q11 [] none,_] (fun _ h=>h.bagNil Q11) (Q27 [Q21 Q11 71 3 (.slice (some ⟨g5,0,none⟩) 0 0) ([] : List Qz)] (fun _ h=>h.treeIn 1 0 Z Z Z Z) (Q27 [.own 71 3 QP (.slice (some ⟨g5,0,none⟩) 0 0) ([] : List Qz)] (fun _ h=>h.letgo Q2X 0 Z) (Q4M 0 1 Z Z Z Zq Z Z Z Z Z Q2y tR_71 Z Z (Nat.le_trans a7 (by decide)) (Nat.le_trans (Nat.mul_le_mul_right _ a7) (by decide)) (H2:=fun p9 c9=>[.own 71 3 QP (.slice p9 ((([] : List Qz) ++ (s.take z.toNat)).length) c9) (([] : List Qz) ++ (s.take z.toNat))]) (fun _ _=>Z) (fun p9 c9=>(Q4 ?_))))))))))))))))
   refine QJ [0,1,2] [] Z Z ?_
  rotate_right
  focus
   refine QB Z Z Z Zq Z Q2y Q2N Q9N Z (zs:=[]) (by kernel_rfl) Z (out:=[]) Z (fun g5=>(Q4 (QJ [0,1] [] Z Z ?_)))
   refine Q34 hok 4 8 Z Z Z Z Z Z ?_ ?_
   rotate_left
   focus
    refine Q8b 1 Z Z Z Zq Z Z Z Z (Q1d a6) Q2y Q2N aC (fun aG=>(Q4 (QJ [1,2] [] Z Z (xS hok 4 Z (Q1Z (sz:=3) (m:=0) Q11.pair [] 0 Z (fun F w hφ=>Z) Z (by decide) (H':=[_]) Z (Q27 [Q4i Q11 [] none,_] (fun _ h=>h.bagNil Q11) (Q27 [Q21 Q11 71 3 (.slice (some ⟨g5,0,none⟩) 0 0) ([] : List Qz)] (fun _ h=>h.treeIn 1 0 Z Z Z Z) (Q27 [.own 71 3 QP (.slice (some ⟨g5,0,none⟩) 0 0) ([] : List Qz)] (fun _ h=>h.letgo Q2X 0 Z) (Q4M 0 1 Z Z Z Zq Z Z Z Z Z Q2y tR_71 Z Z (Nat.le_trans a7 (by decide)) (Nat.le_trans (Nat.mul_le_mul_right _ a7) (by decide)) (H2:=fun p9 c9=>[.own 71 3 QP (.slice p9 ((([] : List Qz) ++ (s.take z.toNat)).length) c9) (([] : List Qz) ++ (s.take z.toNat))]) (fun _ _=>Z) (fun p9 c9=>(Q4 (QJ [0,1,2] [] Z Z ?_))))))))))))
   rotate_right
   focus
    refine Q1Z (sz:=3) (m:=0) Q11.pair [] 0 Z (fun F w hφ=>Z) Z (by decide) (H':=[_]) Z (Q27 [Q4i Q11 [] none,_] (fun _ h=>h.bagNil Q11) (Q27 [Q21 Q11 71 3 (.slice (some ⟨g5,0,none⟩) 0 0) ([] : List Qz)] (fun _ h=>h.treeIn 1 0 Z Z Z Z) (Q27 [.own 71 3 QP (.slice (some ⟨g5,0,none⟩) 0 0) ([] : List Qz)] (fun _ h=>h.letgo Q2X 0 Z) (Q4M 0 0 Z Z Z Zq Z Z Z Z Z Q2y tR_71 Z Z (Nat.le_trans a7 (by decide)) (Nat.le_trans (Nat.mul_le_mul_right _ a7) (by decide)) (H2:=fun p9 c9=>[.own 71 3 QP (.slice p9 ((([] : List Qz) ++ (s.take z.toNat)).length) c9) (([] : List Qz) ++ (s.take z.toNat))]) (fun _ _=>Z) (fun p9 c9=>(Q4 (QJ [0,1] [] Z Z (xS hok 8 Z (Q8b 1 Z Z Z Zq Z Z Z Z (Q1d a6) Q2y Q2N aC (fun aG=>(Q4 (QJ [1,2] [] Z Z ?_))))))))))))
  all_goals
   refine xS hok 9 Z (Q4M 0 0 Z Z Z Zq Z Z Z Z Z Q2y tR_71 Z Z (Nat.le_trans aA (by decide)) (Nat.le_trans (Nat.mul_le_mul_right _ aA) (by decide)) (H2:=fun a8 a9=>[.own 71 3 QP (.slice a8 (((([] : List Qz) ++ (s.take z.toNat)) ++ (s.drop ((z + 1).toNat))).length) a9) ((([] : List Qz) ++ (s.take z.toNat)) ++ (s.drop ((z + 1).toNat)))]) (fun _ _=>Z) (fun a8 a9=>(Q4 (QJ [0,1,2] [] Z Z (xS hok 10 Z (wP Z (Q4 (QJ [0,1,2] [] Z Z (QS hok Z ?_)))))))))
   refine Qh (a8,a9) trivial [4] Z (asK [] Z) Z
 ·
  refine Q8b 0 Z Z Z Zq Z Z Z Z (Q1d a6) Q2y Q2N aC (fun aG=>(Q4 (QJ [1] [] Z Z ?_)))
  refine Q34 hok 0 3 Z Z Z Z Z Z ?_ ?_
  rotate_left
  focus
   refine Qcj 1 Z Z Z Zq Z Z Z Z (Q1d aB) Q2y Q2N aH (fun p8=>(Q4 (QJ [1,2] [] Z Z (xS hok 0 Z (QB Z Z Z Zq Z Q2y Q2N Q9N Z (zs:=[]) (by kernel_rfl) Z (out:=[]) Z (fun g5=>(Q4 (QJ [0,1,2] [] Z Z ?_))))))))
  rotate_right
  focus
   refine QB Z Z Z Zq Z Q2y Q2N Q9N Z (zs:=[]) (by kernel_rfl) Z (out:=[]) Z (fun g5=>(Q4 (QJ [0,1] [] Z Z (xS hok 3 Z (Qcj 1 Z Z Z Zq Z Z Z Z (Q1d aB) Q2y Q2N aH (fun p8=>(Q4 (QJ [1,2] [] Z Z ?_))))))))
  all_goals
   refine xS hok 4 Z (Q1Z (sz:=3) (m:=0) Q11.pair [] 0 Z (fun F w hφ=>Z) Z (by decide) (H':=[_]) Z (Q27 [Q4i Q11 [] none,_] (fun _ h=>h.bagNil Q11) (Q27 [Q21 Q11 71 3 (.slice (some ⟨g5,0,none⟩) 0 0) ([] : List Qz)] (fun _ h=>h.treeIn 1 0 Z Z Z Z) (Q27 [.own 71 3 QP (.slice (some ⟨g5,0,none⟩) 0 0) ([] : List Qz)] (fun _ h=>h.letgo Q2X 0 Z) (Q4M 0 0 Z Z Z Zq Z Z Z Z Z Q2y tR_71 Z Z (Nat.le_trans a7 (by decide)) (Nat.le_trans (Nat.mul_le_mul_right _ a7) (by decide)) (H2:=fun p9 c9=>[.own 71 3 QP (.slice p9 ((([] : List Qz) ++ (s.take z.toNat)).length) c9) (([] : List Qz) ++ (s.take z.toNat))]) (fun _ _=>Z) (fun p9 c9=>(Q4 (QJ [0,1,2] [] Z Z (xS hok 9 Z (Q4M 0 1 Z Z Z Zq Z Z Z Z Z Q2y tR_71 Z Z (Nat.le_trans aA (by decide)) (Nat.le_trans (Nat.mul_le_mul_right _ aA) (by decide)) (H2:=fun a8 a9=>[.own 71 3 QP (.slice a8 (((([] : List Qz) ++ (s.take z.toNat)) ++ (s.drop ((z + 1).toNat))).length) a9) ((([] : List Qz) ++ (s.take z.toNat)) ++ (s.drop ((z + 1).toNat)))]) (fun _ _=>Z) (fun a8 a9=>(Q4 (QJ [0,1,2] [] Z Z (xS hok 10 Z (wP Z ?_)))))))))))))))
   refine Q4 (QJ [0,1,2] [] Z Z (QS hok Z ?_))
   refine Qh (a8,a9) trivial [4] Z (asK [] Z) Z
 rintro ⟨a0,a5⟩ _
 try dsimp only
 refine Qo ?_
 have hE:=(Zi hm).symm
 refine Qp (Hr:=[_]) [0] Tryz.results22 (Qg Z) ⟨a0,a5,Z,Z,Z⟩ (asK [] Z) Z Z (.inl Z)
theorem Q8P (N:Nat) (a7:OA) (a8:Nat) (l0:List Qv) (a1:Int) (a0:OA) (a5:Nat) (l2:List Int) (o0:Bool) (hm:Q3S N l0 a1 l2 = some o0):Q17 Tryz.prog 23 [.slice a7 l0.length a8,.agg #[.int .i64 a1,.slice a0 l2.length a5]] [.sli 2 Q1x a7 a8 l0,.sli 1 Q20 a0 a5 l2] [] (fun v Φr Hr=>v = .bool o0 ∧ Φr = [] ∧ Hr = []):=by
 unfold Q3S at hm
 refine QC Tryz.func23 Z Tryz.ntmps23 Z (S:=[_,_]) Z (fun C=>(Q5 (Q1 (wB Z (fun g3=>(wP Z (Q4 (Q3 (Q2 [3,0] (S':=[_,_]) Z (Q5 ?_))))))))))
 obtain ⟨aA,hm,hLj_1⟩:=Q1o hm
 refine QM (σ:=Unit) (fun _=>aA = .inl ()) (fun _=>[]) (fun _=>[]) (fun _=>[]) ?_ ?_
 refine Q5 (Q1 (wP Z (Q4 (Q3 (Qw (Q1j (σ:=Nat × Nat) (fun (z,s)=>Q1h (Q2Z N l0 a1 l2) z s = some aA) (fun (z,s)=>z) (fun (z,s)=>[(5,.int .i64 ((s:Nat):Int)),(3,.pointer (some ⟨g3,0,none⟩)),(0,.slice a7 l0.length a8)]) (fun (z,s)=>[.sli 1 Q20 a0 a5 l2,.sli 2 Q1x a7 a8 l0]) (fun (z,s)=>[.blk g3 [.int .i64 a1,.slice a0 l2.length a5] 41]) (N,0) hm [5,3,0] Z (asK [1,0] Z) Z (fun s_ hm=>?_)))))))
 obtain ⟨z,s⟩:=s_
 try dsimp only at hm ⊢
 obtain ⟨aP,aQ,aE,hq,hLu1⟩:=QV hm
 clear hm
 subst aE
 replace hm:=hq
 clear hq
 unfold Q2Z at hm
 try dsimp only at hm
 refine Q5 (Q5 (Q1 (wP Z (wP Z (wN Z Q9i (wP Z (Qs (d:=9) (v':=.bool (decide (s < l0.length))) (S':=V6 ..) Z Z (Q2l (a:=s) (b:=l0.length)) (Q4 (Q3 (Q2 [9,5,3,0] (S':=V4 ..) Z ?_))))))))))
 refine Qt Z (fun aC=>?_) (fun aC=>?_)
 replace hm:=QI hm aC
 refine Q2 [5,3,0] (S':=V3 ..) Z (Qr (Q3 (Q5 (Qw (Q5 ?_)))))
 obtain ⟨aF,aG,hm⟩:=Q6 hm
 obtain ⟨aR,aH,hm⟩:=Q6 hm
 refine QW [0,1,2,3,4] Z Z (fun hok=>(xP hok 0 Z (xP hok 1 Z (Q2P hok 2 1 s Z Z Z Zq Z Z Z Z Z Z aG Q9i Q8f (fun aS aT aO aL=>(Q3s Q1T 1 Z (fun aI aJ _=>?_)))))))
 subst aJ
 refine Q4N hok 3 1 0 Z Z Z Zq Z Z Z Z (cs:=[_,_]) Z Q8f tA_41 Z Z (Qn hok 4 0 0 Z Z Z Zq Z Z Z Z (cs:=[_,_]) Z Q8f tA_41 Z Z (xS hok 5 Z (wC [] [0] Z fn_37 Z (Qan N aF.rule aI.1 aI.2 aF.ids a1 a0 a5 l2 _ aH) (asK [0,3] Z) Z (H':=[_]) Z ?_)))
 rintro _ _ _ ⟨rfl,rfl,rfl⟩
 refine Q4 (QJ [0,1,2,3,4] [] Z Z (QS hok Z (Q3 (Q2 [17,5,3,0] (S':=V4 ..) Z ?_))))
 refine Qt Z (fun a6=>?_) (fun a6=>?_)
 replace hm:=QI hm a6
 refine Q2 [] (S':=[]) Z (Q5 (Q1 (wP Z (Q4 (Q3 (Qo (Qk (Q9 (Q9 (Qk (Q9 ?_)))))))))))
 have hE:=(Zi hm).symm
 replace hE:=Qx hLu1 hE
 replace hE:=Qx hLj_1 hE
 replace hE:=hE.symm
 subst hE
 refine Qp (Hr:=[]) [] Tryz.results23 (Qg Z) ⟨Z,Z,Z⟩ (asK [] Z) Z Z (.inl Z)
 replace hm:=QH hm a6
 refine Q2 [5,3,0] (S':=V3 ..) Z (Qr (Qf (Q3 (Q1 (wP Z (wP Z ?_))))))
 obtain ⟨aK,hm⟩:=Qd hm
 refine Qs (d:=11) (v':=.int .i64 ((s + 1:Nat):Int)) (S':=V4 ..) Z Z (Q1r (a:=s) (b:=1) aK) (QT (S':=V4 ..) Z Z Z Z Z (Q4 ?_))
 have hE:=(Zi hm).symm
 replace hE:=QF hLu1 hE
 refine QU (_,s + 1) (Nat.lt_succ_self _) hE [5,3,0] Z (asK [3,4] Z) Z
 replace hm:=QH hm aC
 refine Q2 [] (S':=[]) Z (Q1g (Qj (Qj (QD ?_))))
 have hE:=(Zi hm).symm
 replace hE:=Qx hLu1 hE
 refine QE [] Z (H':=[]) Z ?_
 refine Qh () hE [] Z (asK [] Z) Z
 rintro _ hE
 try dsimp only
 have hm:=QF hLj_1 hE
 try dsimp only at hm
 refine Q5 (Q1 (wP Z (Q4 (Q3 (Qo ?_)))))
 have hE:=(Zi hm).symm
 replace hE:=hE.symm
 subst hE
 refine Qp (Hr:=[]) [] Tryz.results23 (Qg Z) ⟨Z,Z,Z⟩ (asK [] Z) Z Z (.inl Z)
theorem Q9V (N:Nat) (aB:OA) (aC:Nat) (l0:List Ql) (aD:OA) (aE:Nat) (l1:List Qi) (aL:OA) (aM:Nat) (l2:List Qz) (a3:Int) (o0:Bool) (hm:Q32 N l0 l1 l2 a3 = some o0):Q17 Tryz.prog 6 [.agg #[.slice aB l0.length aC,.slice aD l1.length aE],.slice aL l2.length aM,.int .i64 a3] [.sli 2 Qb aB aC l0,.sli 5 Qa aD aE l1,.sli 3 QP aL aM l2] [] (fun v Φr Hr=>v = .bool o0 ∧ Φr = [] ∧ Hr = []):=by
 unfold Q32 at hm
 refine QC Tryz.func6 Z Tryz.ntmps6 Z (S:=V3 ..) Z (fun C=>(Q5 (Q1 (wB Z (fun g3=>(wP Z (Q4 (Q3 (Q2 [3,1,2] (S':=V3 ..) Z (Q5 (Q5 (Q1 ?_))))))))))))
 obtain ⟨dV,cH,hm⟩:=Q6 hm
 refine wC [] [0] Z fn_8 Z (Qbd N _ cH) (asK [] Z) Z (H':=[_]) Z ?_
 rintro _ _ _ ⟨rfl,rfl,rfl⟩
 refine wP Z (Q4 (Q3 (Q2 [20,3,1,2] (S':=V4 ..) Z ?_)))
 refine Qt Z (fun bC=>?_) (fun bC=>?_)
 replace hm:=QI hm bC
 refine Q2 [] (S':=[]) Z (Q5 (Q1 (wP Z (Q4 (Q3 (Qo (Q9 ?_)))))))
 have hE:=(Zi hm).symm
 replace hE:=hE.symm
 subst hE
 refine Qp (Hr:=[]) [] Tryz.results6 (Qg Z) ⟨Z,Z,Z⟩ (asK [] Z) Z Z (.inl Z)
 replace hm:=QH hm bC
 refine Q2 [3,1,2] (S':=V3 ..) Z (Qr (Q3 (Q5 (Q5 ?_))))
 obtain ⟨cI,hm,hLj_1⟩:=Q6 hm
 refine QM (σ:=Bool) (fun aP=>cI = aP) (fun aP=>[(3,.pointer (some ⟨g3,0,none⟩)),(1,.slice aL l2.length aM),(2,.int .i64 a3),(29,.bool aP)]) (fun aP=>[.sli 2 Qb aB aC l0,.sli 5 Qa aD aE l1,.sli 3 QP aL aM l2]) (fun aP=>[.blk g3 [.slice aB l0.length aC,.slice aD l1.length aE] 25]) ?_ ?_
 refine Q1 (QO 0 0 Z Z Z Zq Z Z Z (cs:=[_,_]) Z Q8M QaE Z Z (wP Z ?_))
 obtain ⟨dW,cJ,hm⟩:=Q6 hm
 refine wC [] [0] Z fn_9 Z (Qbe N aB aC l0 aD aE l1 aL aM l2 _ cJ) (asK [0,1,2] Z) Z (H':=[_]) Z ?_
 rintro _ _ _ ⟨rfl,rfl,rfl⟩
 refine wP Z (wP Z ?_)
 refine QG (d:=25) (S':=V7 ..) Z Z (fun bD=>?_) (fun bD=>?_)
 replace hm:=QI hm bD
 refine wO Z (wO Z (wO Z (wP Z (Q4 ?_))))
 have hE:=(Zi hm).symm
 refine Qh true hE [3,1,2,29] Z (asK [0,1,2] Z) Z
 replace hm:=QH hm bD
 refine wP Z (wN Z Q2y (wP Z (Qs (d:=28) (v':=.bool (l2.length == 0)) (S':=V10 ..) Z Z (Q4J (a:=l2.length) (b:=0)) (wP Z (Q4 ?_)))))
 have hE:=(Zi hm).symm
 refine Qh (l2.length == 0) hE [3,1,2,29] Z (asK [0,1,2] Z) Z
 rintro aP hE
 try dsimp only
 have hm:=hLj_1
 try rw [hE] at hm
 refine Qt Z (fun bE=>?_) (fun bE=>?_)
 replace hm:=QI hm bE
 refine Q2 [] (S':=[]) Z (Q5 (Q1 (wP Z (Q4 (Q3 (Qo (Q9 ?_)))))))
 have hE:=(Zi hm).symm
 replace hE:=hE.symm
 subst hE
 refine Qp (Hr:=[]) [] Tryz.results6 (Qg Z) ⟨Z,Z,Z⟩ (asK [] Z) Z Z (.inl Z)
 replace hm:=QH hm bE
 refine Q2 [3,1,2] (S':=V3 ..) Z (Qr (Q3 (Q5 (Q1 (QO 0 0 Z Z Z Zq Z Z Z (cs:=[_,_]) Z Q8M QaE Z Z (wP Z ?_))))))
 obtain ⟨⟨s,bF⟩,cK,hm⟩:=Q6 hm
 try dsimp only at hm
 refine wC [] [0] Z fn_12 Z (Q90 N aB aC l0 aD aE l1 aL aM l2 _ _ cK) (asK [0,1,2] Z) Z (H':=[_]) Z ?_
 rintro _ _ _ ⟨a7,z,a5,rfl,rfl,rfl⟩
 refine Q27 [.own 41 2 Q1x (.slice a7 a5 z) s,_] (fun _ h=>h.letgo Q8m 0 Z) (wP Z (wP Z (wP Z (wP Z (wP Z (Q4 (Q3 (Q2 [8,7,3,1,2] (S':=V5 ..) Z (Q5 (Q1 (wP Z (wP Z (wN Z Q2y ?_)))))))))))))
 obtain ⟨aV,cL,hm⟩:=Q6 hm
 refine wC [] [0,1] Z fn_17 Z (Qci N a3 ((l2.length:Nat):Int) _ cL) (asK [] Z) Z (H':=[_,_]) Z ?_
 rintro _ _ _ ⟨rfl,rfl,rfl⟩
 refine wP Z (Q4 (Q3 (Q2 [9,8,7,3,1] (S':=V5 ..) Z (Q5 ?_))))
 obtain ⟨_,cM,hm⟩:=Q6 hm
 try dsimp only at hm
 obtain ⟨⟨a0,bG⟩,cN,hm⟩:=Q6 hm
 try dsimp only at hm
 refine QW [0,1,2,5,6,7] Z Z (fun hok=>(Qn hok 0 1 0 Z Z Z Zq Z Z Z Z (cs:=[_,_]) Z Q8M QaE Z Z (xP hok 1 Z (xP hok 2 Z (xS hok 3 Z (wC [] [0,1] Z fn_22 Z (Qao N aL aM l2 aV cM) (asK [2] Z) Z (H':=[_,_]) Z ?_))))))
 rintro _ _ _ ⟨bH,bI,rfl,rfl,rfl⟩
 refine Q4 (QJ [0,1,2] [2] Z Z (xS hok 4 Z (Q1P 0 Z (H':=[_,_]) Z (Q2n (.sli 3 QP bH bI ((([] : List Qz) ++ (l2.take aV.toNat)) ++ (l2.drop ((aV + 1).toNat)))) (fun F w hφ=>Q1A (hφ _ (Q12 (k:=0) Z))) (wC [] [0,1] Z fn_12 Z (Q90 N aB aC l0 aD aE l1 bH bI ((([] : List Qz) ++ (l2.take aV.toNat)) ++ (l2.drop ((aV + 1).toNat))) _ _ cN) (asK [2,3,0] Z) Z (H':=[_,_]) Z ?_)))))
 rintro _ _ _ ⟨aA,a1,a6,rfl,rfl,rfl⟩
 refine Q27 [.own 41 2 Q1x (.slice aA a6 a1) a0,_,_] (fun _ h=>h.letgo Q8m 0 Z) (Q4 (QJ [2,3,4] [] Z Z (xP hok 5 Z (xP hok 6 Z (xP hok 7 Z (xS hok 8 Z (wP Z (Q4 (QJ [0,1,2,3,4] [] Z Z (xS hok 9 Z (wP Z (Q4 (QJ [0,1,2,3,4] [] Z Z ?_)))))))))))))
 refine QS hok Z (Q3 (Q2 [11,10,9,8,7,3,1] (S':=V7 ..) Z (Q5 (Q5 ?_))))
 obtain ⟨cO,hm,hLj_2⟩:=Q6 hm
 unfold Q4P at hm
 refine QM (σ:=Bool) (fun aQ=>cO = aQ) (fun aQ=>[(10,.slice aA a6 a1),(9,.int .i64 aV),(7,.slice a7 a5 z),(3,.pointer (some ⟨g3,0,none⟩)),(1,.slice aL l2.length aM),(61,.bool aQ)]) (fun aQ=>[.sli 2 Qb aB aC l0,.sli 5 Qa aD aE l1,.sli 3 QP aL aM l2]) (fun aQ=>[.own 41 2 Q1x (.slice aA a6 a1) a0,.own 41 2 Q1x (.slice a7 a5 z) s,.blk g3 [.slice aB l0.length aC,.slice aD l1.length aE] 25]) ?_ ?_
 refine Q1 (wP Z (wP Z (Qs (d:=49) (v':=.bool (bF != 0)) (S':=V8 ..) Z Z (natne (a:=bF) (b:=0)) (wP Z ?_))))
 refine QG (d:=50) (S':=V9 ..) Z Z (fun bJ=>?_) (fun bJ=>?_)
 replace hm:=QI hm bJ
 refine wO Z (wO Z (wP Z (wP Z (wO Z (wO Z (wO Z (wO Z (wO Z (wO Z (wP Z (Q4 ?_)))))))))))
 have hE:=(Zi hm).symm
 refine Qh true hE [10,9,7,3,1,61] Z (asK [2,3,4] Z) Z
 replace hm:=QH hm bJ
 refine wP Z (wP Z (Qs (d:=52) (v':=.bool (bG != 0)) (S':=V11 ..) Z Z (natne (a:=bG) (b:=0)) (wP Z (wP Z ?_))))
 refine QG (d:=54) (S':=V13 ..) Z Z (fun bK=>?_) (fun bK=>?_)
 replace hm:=QI hm bK
 refine wO Z (wO Z (wO Z (wO Z (wO Z (wO Z (wP Z (Q4 ?_)))))))
 have hE:=(Zi hm).symm
 refine Qh true hE [10,9,7,3,1,61] Z (asK [2,3,4] Z) Z
 replace hm:=QH hm bK
 refine wP Z (QQ 1 Z (fun cP _=>(wN Z Q9i (Qs (d:=56) (v':=.int .i64 ((s.length:Nat):Int)) (S':=V15 ..) Z Z (Q7a cP) (wP Z (QQ 0 Z (fun cQ _=>(wN Z Q9i (Qs (d:=58) (v':=.int .i64 ((a0.length:Nat):Int)) (S':=V17 ..) Z Z (Q7a cQ) (wP Z ?_))))))))))
 obtain ⟨cR,hm⟩:=Qd hm
 refine Qs (d:=59) (v':=.int .i64 ((s.length + a0.length:Nat):Int)) (S':=V18 ..) Z Z (Q1r (a:=s.length) (b:=a0.length) cR) (wP Z (Qs (d:=60) (v':=.bool (decide (600 < (s.length + a0.length)))) (S':=V19 ..) Z Z (natgt (a:=s.length + a0.length) (b:=600)) (wP Z (Q4 ?_))))
 have hE:=(Zi hm).symm
 refine Qh (decide (600 < (s.length + a0.length))) hE [10,9,7,3,1,61] Z (asK [2,3,4] Z) Z
 rintro aQ hE
 try dsimp only
 have hm:=hLj_2
 try rw [hE] at hm
 refine Qt Z (fun bL=>?_) (fun bL=>?_)
 replace hm:=QI hm bL
 refine Q2 [] (S':=[]) Z (Q5 (Q1 (wP Z (Q4 (Q3 (Qo (Q9 ?_)))))))
 have hE:=(Zi hm).symm
 replace hE:=hE.symm
 subst hE
 refine Qp (Hr:=[]) [] Tryz.results6 (Qg Z) ⟨Z,Z,Z⟩ (asK [] Z) Z Z (.inl Z)
 replace hm:=QH hm bL
 refine Q2 [10,9,7,3,1] (S':=V5 ..) Z (Qr (Q3 (Q5 ?_)))
 obtain ⟨bV,hm,hLj_3⟩:=Q1o hm
 refine QM (σ:=Unit) (fun _=>bV = .inl ()) (fun _=>[(10,.slice aA a6 a1),(7,.slice a7 a5 z),(3,.pointer (some ⟨g3,0,none⟩))]) (fun _=>[.sli 2 Qb aB aC l0,.sli 5 Qa aD aE l1]) (fun _=>[.own 41 2 Q1x (.slice aA a6 a1) a0,.own 41 2 Q1x (.slice a7 a5 z) s,.blk g3 [.slice aB l0.length aC,.slice aD l1.length aE] 25]) ?_ ?_
 refine Q5 (Q1 (wP Z (Q4 (Q3 (Qw (Q1j (σ:=Nat × Nat) (fun (b1,a8)=>Q1h (Q2f N s aV l2 a0) b1 a8 = some bV) (fun (b1,a8)=>b1) (fun (b1,a8)=>[(12,.int .i64 ((a8:Nat):Int)),(10,.slice aA a6 a1),(9,.int .i64 aV),(7,.slice a7 a5 z),(3,.pointer (some ⟨g3,0,none⟩)),(1,.slice aL l2.length aM)]) (fun (b1,a8)=>[.sli 2 Qb aB aC l0,.sli 5 Qa aD aE l1,.sli 3 QP aL aM l2]) (fun (b1,a8)=>[.own 41 2 Q1x (.slice aA a6 a1) a0,.own 41 2 Q1x (.slice a7 a5 z) s,.blk g3 [.slice aB l0.length aC,.slice aD l1.length aE] 25]) (N,0) hm [12,10,9,7,3,1] Z (asK [0,1,2] Z) Z (fun s_ hm=>?_)))))))
 obtain ⟨b1,a8⟩:=s_
 try dsimp only at hm ⊢
 obtain ⟨dX,dY,cS,hq,hLu1⟩:=QV hm
 clear hm
 subst cS
 replace hm:=hq
 clear hq
 unfold Q2f at hm
 try dsimp only at hm
 refine Q5 (Q5 (Q1 (wP Z (wP Z (QQ 1 Z (fun cT _=>(wN Z Q9i (Qs (d:=64) (v':=.int .i64 ((s.length:Nat):Int)) (S':=V8 ..) Z Z (Q7a cT) (wP Z (Qs (d:=65) (v':=.bool (decide (a8 < s.length))) (S':=V9 ..) Z Z (Q2l (a:=a8) (b:=s.length)) (Q4 (Q3 (Q2 [65,12,10,9,7,3,1] (S':=V7 ..) Z ?_)))))))))))))
 refine Qt Z (fun bM=>?_) (fun bM=>?_)
 replace hm:=QI hm bM
 refine Q2 [12,10,9,7,3,1] (S':=V6 ..) Z (Qr (Q3 (Q5 (Qw (Q5 (Q1 (wP Z (Q4 (Q3 (Q5 ?_))))))))))
 obtain ⟨bW,hm,hLj_4⟩:=Q6 hm
 refine QM (σ:=Bool) (fun aI=>bW = aI) (fun aI=>[(12,.int .i64 ((a8:Nat):Int)),(10,.slice aA a6 a1),(9,.int .i64 aV),(7,.slice a7 a5 z),(3,.pointer (some ⟨g3,0,none⟩)),(1,.slice aL l2.length aM),(13,.bool aI)]) (fun aI=>[.sli 2 Qb aB aC l0,.sli 5 Qa aD aE l1,.sli 3 QP aL aM l2]) (fun aI=>[.own 41 2 Q1x (.slice aA a6 a1) a0,.own 41 2 Q1x (.slice a7 a5 z) s,.blk g3 [.slice aB l0.length aC,.slice aD l1.length aE] 25]) ?_ ?_
 refine Q5 (Q1 (wP Z (Q4 (Q3 (Qw (Q1j (σ:=Nat × Nat × Bool) (fun (b2,aF,aN)=>Q1h (Q2g N s a8 aV l2) b2 (aF,aN) = some bW) (fun (b2,aF,aN)=>b2) (fun (b2,aF,aN)=>[(14,.int .i64 ((aF:Nat):Int)),(13,.bool aN),(12,.int .i64 ((a8:Nat):Int)),(10,.slice aA a6 a1),(9,.int .i64 aV),(7,.slice a7 a5 z),(3,.pointer (some ⟨g3,0,none⟩)),(1,.slice aL l2.length aM)]) (fun (b2,aF,aN)=>[.sli 2 Qb aB aC l0,.sli 5 Qa aD aE l1,.sli 3 QP aL aM l2]) (fun (b2,aF,aN)=>[.own 41 2 Q1x (.slice aA a6 a1) a0,.own 41 2 Q1x (.slice a7 a5 z) s,.blk g3 [.slice aB l0.length aC,.slice aD l1.length aE] 25]) (N,0,false) hm [14,13,12,10,9,7,3,1] Z (asK [0,1,2] Z) Z (fun s_ hm=>?_)))))))
 obtain ⟨b2,aF,aN⟩:=s_
 try dsimp only at hm ⊢
 obtain ⟨dZ,e0,cU,hq,hLu2⟩:=QV hm
 clear hm
 subst cU
 replace hm:=hq
 clear hq
 unfold Q2g at hm
 try dsimp only at hm
 refine Q5 (Q5 (Q1 (wP Z (wP Z (wP Z ?_)))))
 obtain ⟨c3,bX,hm⟩:=Q6 hm
 refine Q7N 1 a8 Z Z Z Zq Z Z Z Z Z (Q2Y bX) Q9i Q8f (fun cV cW=>?_)
 subst cW
 refine wF Z Q9Q (Q29 Q1T 1 a8 1 Z Z Z Zq Z Z Z bX Q9n tA_39 (v:=fun c4=>.slice c4.1 c3.ids.length c4.2) (fun _=>Z) (fun _=>Z) (fun c4 _=>(wN Z Q5V (wP Z (Qs (d:=75) (v':=.bool (decide (aF < c3.ids.length))) (S':=V15 ..) Z Z (Q2l (a:=aF) (b:=c3.ids.length)) (Q4 (Q3 (Q2 [75,14,13,12,10,9,7,3,1] (S':=V9 ..) Z ?_))))))))
 refine Qt Z (fun bN=>?_) (fun bN=>?_)
 replace hm:=QI hm bN
 refine Q2 [14,13,12,10,9,7,3,1] (S':=V8 ..) Z (Qr (Q3 (Q5 ?_)))
 obtain ⟨cX,hm,hLj_5⟩:=Q6 hm
 unfold Q3g at hm
 refine QM (σ:=Bool) (fun aJ=>cX = aJ) (fun aJ=>[(14,.int .i64 ((aF:Nat):Int)),(13,.bool aJ),(12,.int .i64 ((a8:Nat):Int)),(10,.slice aA a6 a1),(9,.int .i64 aV),(7,.slice (some ⟨cV,0,none⟩) a5 z),(3,.pointer (some ⟨g3,0,none⟩)),(1,.slice aL l2.length aM)]) (fun aJ=>[.sli 2 Qb aB aC l0,.sli 5 Qa aD aE l1,.sli 3 QP aL aM l2]) (fun aJ=>[.own 41 2 Q1x (.slice aA a6 a1) a0,.own 41 2 Q1x (.slice (some ⟨cV,0,none⟩) a5 z) s,.blk g3 [.slice aB l0.length aC,.slice aD l1.length aE] 25]) ?_ ?_
 refine Qw ?_
 rcases Q1E hm with ⟨bO,hm⟩ | ⟨bO,hm⟩
 refine QW [0,1,2,3,4,5,7,8,9,10,11,12,13,14,15,16] Z Z (fun hok=>(xP hok 0 Z (xP hok 1 Z (Q1z (d:=79) (v':=.bool true) (S':=V9 ..) Z Z (Qy bO) (xO hok 2 Z (xO hok 3 Z (xO hok 4 Z (xO hok 5 Z (xO hok 7 Z (xO hok 10 Z (xO hok 11 Z (xO hok 12 Z (xO hok 13 Z (xO hok 14 Z ?_))))))))))))))
 refine xS hok 6 Z (wO Z (Q4 (QJ [0,1,2,3] [] Z Z (xO hok 8 Z (xO hok 9 Z (xO hok 15 Z (xP hok 16 Z (xS hok 17 Z (QT (S':=V24 ..) Z Z Z Z Z (Q4 (QJ [0,1,2,3] [] Z Z (QS hok Z (Qf ?_)))))))))))))
 have hE:=(Zi hm).symm
 refine Qh true hE [14,13,12,10,9,7,3,1] Z (asK [1,2,3] Z) Z
 obtain ⟨dG,bY,hm⟩:=Q6 hm
 obtain ⟨dH,cY,hm⟩:=Q6 hm
 obtain ⟨cZ,hm⟩:=Qd hm
 obtain ⟨dI,d0,hm⟩:=Q6 hm
 refine QW [0,1,2,3,4,5,7,8,9,10,11,12,13,14,15,16] Z Z (fun hok=>(xP hok 0 Z (xP hok 1 Z (Q1z (d:=79) (v':=.bool false) (S':=V9 ..) Z Z (Qy bO) (xP hok 2 Z (xP hok 3 Z (wx_indexK hok 4 1 a8 Z Z Z Zq Z Z Z Z Z Z (Q2Y bY) Q9i Q8f (Q8 hok 5 Z Z Z Zq Z Z Z Q9Q (xP hok 7 Z (xP hok 10 Z (xP hok 11 Z (Q2P hok 12 3 aV.toNat Z Z Z Zq Z Z Z Z Z (Q1d cZ) d0 Q2y Q2N (fun e1 e2 dO dJ=>(Q3s Q3c 1 Z (fun e3 d1 _=>?_)))))))))))))))
 subst d1
 refine Q8 hok 13 Z Z Z Zq Z Z Z Q6d (Q4N hok 14 1 0 Z Z Z Zq Z Z Z Z (cs:=[_]) Z Q1m Q1H Z Z (xS hok 6 Z (Q29 Q1T 1 a8 1 Z Z Z Zq Z Z Z bY Q9n tA_39 (v:=fun c5=>.slice c5.1 dG.ids.length c5.2) (fun _=>Z) (fun _=>Z) (fun c5 _=>(Q4 (QJ [1,2,3,4,5,6,7] [] Z Z (Q2P hok 8 0 aF Z Z Z Zq Z Z Z Z Z Z cY Q5V Q1m (fun e4 e5 dP dK=>(Q3s Q9a 1 Z (fun e6 d2 _=>?_))))))))))
 subst d2
 refine Q4N hok 9 0 0 Z Z Z Zq Z Z Z Z (cs:=[_]) Z Q1m Q1H Z Z (xP hok 15 Z (xP hok 16 Z (xS hok 17 Z (QT (S':=V24 ..) Z Z Z Z Z (Q4 (QJ [0,1,2,3,4,5,6,7,8,9] [] Z Z (QS hok Z (Qf ?_))))))))
 have hE:=(Zi hm).symm
 refine Qh (dH == dI.id) hE [14,13,12,10,9,7,3,1] Z (asK [7,8,9] Z) Z
 rintro aJ hE
 try dsimp only
 have hm:=hLj_5
 try rw [hE] at hm
 refine Q1 (wP Z (wP Z ?_))
 obtain ⟨d3,hm⟩:=Qd hm
 refine Qs (d:=77) (v':=.int .i64 ((aF + 1:Nat):Int)) (S':=V9 ..) Z Z (Q1r (a:=aF) (b:=1) d3) (QT (S':=V9 ..) Z Z Z Z Z (Q4 ?_))
 have hE:=(Zi hm).symm
 replace hE:=QF hLu2 hE
 refine QU (_,aF + 1,aJ) (Nat.lt_succ_self _) hE [14,13,12,10,9,7,3,1] Z (asK [0,1,2] Z) Z
 replace hm:=QH hm bN
 refine Q2 [13,12,10,9,7,3,1] (S':=V7 ..) Z (Q1g (Qj (Qj (QD ?_))))
 have hE:=(Zi hm).symm
 replace hE:=Qx hLu2 hE
 refine Qh aN hE [12,10,9,7,3,1,13] Z (asK [1,2,3] Z) Z
 rintro aI hE
 try dsimp only
 have hm:=hLj_4
 try rw [hE] at hm
 refine Q5 (Q1 (wP Z (wP Z (wP Z ?_))))
 obtain ⟨bU,bZ,hm⟩:=Q6 hm
 refine Q7N 1 a8 Z Z Z Zq Z Z Z Z Z (Q2Y bZ) Q9i Q8f (fun e7 d4=>?_)
 subst d4
 refine Q29 Q1T 1 a8 0 Z Z Z Zq Z Z Z bZ Q8f tA_41 (v:=fun bP=>.agg #[.int .i64 (bU.rule),.slice bP.1 bU.ids.length bP.2]) (fun _=>Z) (fun _=>Z) (fun bP _=>(QQ 0 Z (fun bQ _=>?_)))
 subst bQ
 obtain ⟨d5,c6,hm⟩:=Q6 hm
 refine Q53 [] [0,1,2] [0] Z Z Z Zq Z Z fn_23 Z (Q8P N aA a1 a0 bU.rule bP.1 bP.2 bU.ids _ c6) (fun F w hφ hh=>(Q14 (Q1A (hh _ (Q12 (k:=0) Z))) (Q14 (hφ _ (Q12 (k:=0) Z)) Qu))) (fun _ _ _ hR=>by obtain ⟨rfl,rfl,rfl⟩:=hR; exact ⟨Z,(fun _ h=>Q3G h)⟩) Z Z (H':=V3 ..) Z ?_
 rintro _ _ _ ⟨rfl,rfl,rfl⟩
 refine wP Z (Q8E Z Z Z Zq Z Z Z (eqlB _ _ d5 aI) (Q4 (Q3 (Q2 [102,12,10,9,7,3,1] (S':=V7 ..) Z ?_))))
 refine Qt Z (fun b3=>?_) (fun b3=>?_)
 replace hm:=QI hm b3
 refine Q2 [] (S':=[]) Z (Q5 (Q1 (wP Z (Q4 (Q3 (Qo (Qk (Q9 (Q9 (Qk (Q9 ?_)))))))))))
 have hE:=(Zi hm).symm
 replace hE:=Qx hLu1 hE
 replace hE:=Qx hLj_3 hE
 replace hE:=hE.symm
 subst hE
 refine Qp (Hr:=[]) [] Tryz.results6 (Qg Z) ⟨Z,Z,Z⟩ (asK [] Z) Z Z (.inl Z)
 replace hm:=QH hm b3
 refine Q2 [12,10,9,7,3,1] (S':=V6 ..) Z (Qr (Qf (Q3 (Q1 (wP Z (wP Z ?_))))))
 obtain ⟨d6,hm⟩:=Qd hm
 refine Qs (d:=67) (v':=.int .i64 ((a8 + 1:Nat):Int)) (S':=V7 ..) Z Z (Q1r (a:=a8) (b:=1) d6) (QT (S':=V7 ..) Z Z Z Z Z (Q4 ?_))
 have hE:=(Zi hm).symm
 replace hE:=QF hLu1 hE
 refine QU (_,a8 + 1) (Nat.lt_succ_self _) hE [12,10,9,7,3,1] Z (asK [1,2,3] Z) Z
 replace hm:=QH hm bM
 refine Q2 [10,7,3] (S':=V3 ..) Z (Q1g (Qj (Qj (QD ?_))))
 have hE:=(Zi hm).symm
 replace hE:=Qx hLu1 hE
 refine Qh () hE [10,7,3] Z (asK [0,1] Z) Z
 rintro _ hE
 try dsimp only
 have hm:=QF hLj_3 hE
 try dsimp only at hm
 refine Q5 ?_
 obtain ⟨c0,hm,hLj_6⟩:=Q1o hm
 refine QM (σ:=Unit) (fun _=>c0 = .inl ()) (fun _=>[]) (fun _=>[]) (fun _=>[]) ?_ ?_
 refine Q5 (Q1 (wP Z (Q4 (Q3 (Qw (Q1j (σ:=Nat × Nat) (fun (b4,a9)=>Q1h (Q2h N a0 l1 s) b4 a9 = some c0) (fun (b4,a9)=>b4) (fun (b4,a9)=>[(15,.int .i64 ((a9:Nat):Int)),(10,.slice aA a6 a1),(7,.slice a7 a5 z),(3,.pointer (some ⟨g3,0,none⟩))]) (fun (b4,a9)=>[.sli 2 Qb aB aC l0,.sli 5 Qa aD aE l1]) (fun (b4,a9)=>[.own 41 2 Q1x (.slice aA a6 a1) a0,.own 41 2 Q1x (.slice a7 a5 z) s,.blk g3 [.slice aB l0.length aC,.slice aD l1.length aE] 25]) (N,0) hm [15,10,7,3] Z (asK [0,1] Z) Z (fun s_ hm=>?_)))))))
 obtain ⟨b4,a9⟩:=s_
 try dsimp only at hm ⊢
 obtain ⟨e8,e9,d7,hq,hLu3⟩:=QV hm
 clear hm
 subst d7
 replace hm:=hq
 clear hq
 unfold Q2h at hm
 try dsimp only at hm
 refine Q5 (Q5 (Q1 (wP Z (wP Z (QQ 0 Z (fun c7 _=>(wN Z Q9i (Qs (d:=105) (v':=.int .i64 ((a0.length:Nat):Int)) (S':=V6 ..) Z Z (Q7a c7) (wP Z (Qs (d:=106) (v':=.bool (decide (a9 < a0.length))) (S':=V7 ..) Z Z (Q2l (a:=a9) (b:=a0.length)) (Q4 (Q3 (Q2 [106,15,10,7,3] (S':=V5 ..) Z ?_)))))))))))))
 refine Qt Z (fun b5=>?_) (fun b5=>?_)
 replace hm:=QI hm b5
 refine Q2 [15,10,7,3] (S':=V4 ..) Z (Qr (Q3 (Q5 (Qw (Q5 (Q1 (wP Z (Q4 (Q3 (Q5 ?_))))))))))
 obtain ⟨c1,bR,hm⟩:=Q6 hm
 obtain ⟨c8,hm⟩:=Qd hm
 obtain ⟨aZ,c9,hm⟩:=Q6 hm
 refine QW [0,1,2,3,4,5,7,8,9] Z Z (fun hok=>(Q8 hok 0 Z Z Z Zq Z Z Z Q6Z (Qn hok 1 2 1 Z Z Z Zq Z Z Z Z (cs:=[_]) Z Qai QaD Z Z (xP hok 2 Z (xP hok 3 Z (Q79 hok 4 0 a9 Z Z Z Zq Z Z Z Z Z Z (Q2Y bR) Q9i Q8f (fun aW cA=>?_)))))))
 subst cA
 refine Q8 hok 5 Z Z Z Zq Z Z Z tF_41_0 (xS hok 6 Z (Q29 Q1T 0 a9 0 Z Z Z Zq Z Z Z bR Q1m Q1H (v:=fun d8=>.int .i64 (c1.rule)) (fun _=>Z) (fun _=>Z) (fun d8 _=>(Q4 (QJ [1,2] [2] Z Z (Q2P hok 7 2 c1.rule.toNat Z Z Z Zq Z Z Z Z Z (Q1d c8) c9 Q8x Q5X (fun dQ dR dL dE=>(Q3s Q3D 1 Z (fun aX cB _=>?_)))))))))
 subst cB
 refine Q8 hok 8 Z Z Z Zq Z Z Z Q7o (Q4N hok 9 2 3 Z Z Z Zq Z Z Z Z (cs:=[_]) Z QaI tA_49 Z Z (xS hok 10 Z (wP Z (Q4 (QJ [0,1,2,3,4,5,6] [] Z Z (QS hok Z (Q3 (Q2 [17,16,15,10,7,3] (S':=V6 ..) Z (Q5 ?_)))))))))
 obtain ⟨c2,hm,hLj_7⟩:=Q6 hm
 refine QM (σ:=Bool) (fun aR=>c2 = aR) (fun aR=>[(16,.bool aR),(15,.int .i64 ((a9:Nat):Int)),(10,.slice (some ⟨aW,0,none⟩) a6 a1),(7,.slice a7 a5 z),(3,.pointer (some ⟨g3,0,none⟩))]) (fun aR=>[.sli 2 Qb aB aC l0,.sli 5 Qa aD aE l1]) (fun aR=>[.own 41 2 Q1x (.slice (some ⟨aW,0,none⟩) a6 a1) a0,.own 41 2 Q1x (.slice a7 a5 z) s,.blk g3 [.slice aB l0.length aC,.slice aD l1.length aE] 25]) ?_ ?_
 refine Q5 (Q1 (wP Z (Q4 (Q3 (Qw (Q1j (σ:=Nat × Nat × Bool) (fun (b6,aG,aO)=>Q1h (Q2i N aZ) b6 (aG,aO) = some c2) (fun (b6,aG,aO)=>b6) (fun (b6,aG,aO)=>[(18,.int .i64 ((aG:Nat):Int)),(17,.slice aX.1.1 aZ.conds.length aX.1.2),(16,.bool aO),(15,.int .i64 ((a9:Nat):Int)),(10,.slice (some ⟨aW,0,none⟩) a6 a1),(7,.slice a7 a5 z),(3,.pointer (some ⟨g3,0,none⟩))]) (fun (b6,aG,aO)=>[.sli 10 QR aX.1.1 aX.1.2 aZ.conds,.sli 2 Qb aB aC l0,.sli 5 Qa aD aE l1]) (fun (b6,aG,aO)=>[.own 41 2 Q1x (.slice (some ⟨aW,0,none⟩) a6 a1) a0,.own 41 2 Q1x (.slice a7 a5 z) s,.blk g3 [.slice aB l0.length aC,.slice aD l1.length aE] 25]) (N,0,false) hm [18,17,16,15,10,7,3] Z (asK [0,5,6] Z) Z (fun s_ hm=>?_)))))))
 obtain ⟨b6,aG,aO⟩:=s_
 try dsimp only at hm ⊢
 obtain ⟨eA,eB,d9,hq,hLu4⟩:=QV hm
 clear hm
 subst d9
 replace hm:=hq
 clear hq
 unfold Q2i at hm
 try dsimp only at hm
 refine Q5 (Q5 (Q1 (wP Z (wP Z (wN Z Q9j (wP Z (Qs (d:=122) (v':=.bool (decide (aG < aZ.conds.length))) (S':=V10 ..) Z Z (Q2l (a:=aG) (b:=aZ.conds.length)) (Q4 (Q3 (Q2 [122,18,17,16,15,10,7,3] (S':=V8 ..) Z ?_))))))))))
 refine Qt Z (fun b7=>?_) (fun b7=>?_)
 replace hm:=QI hm b7
 refine Q2 [18,17,16,15,10,7,3] (S':=V7 ..) Z (Qr (Q3 (Q5 ?_)))
 obtain ⟨dA,hm,hLj_8⟩:=Q6 hm
 refine QM (σ:=Bool) (fun aK=>dA = aK) (fun aK=>[(18,.int .i64 ((aG:Nat):Int)),(17,.slice aX.1.1 aZ.conds.length aX.1.2),(16,.bool aK),(15,.int .i64 ((a9:Nat):Int)),(10,.slice (some ⟨aW,0,none⟩) a6 a1),(7,.slice a7 a5 z),(3,.pointer (some ⟨g3,0,none⟩))]) (fun aK=>[.sli 10 QR aX.1.1 aX.1.2 aZ.conds,.sli 2 Qb aB aC l0,.sli 5 Qa aD aE l1]) (fun aK=>[.own 41 2 Q1x (.slice (some ⟨aW,0,none⟩) a6 a1) a0,.own 41 2 Q1x (.slice a7 a5 z) s,.blk g3 [.slice aB l0.length aC,.slice aD l1.length aE] 25]) ?_ ?_
 refine Qw (Q1 (wP Z (wP Z ?_)))
 refine QG (d:=126) (S':=V8 ..) Z Z (fun b8=>?_) (fun b8=>?_)
 replace hm:=QI hm b8
 refine wO Z (wO Z (wO Z (wO Z (wO Z (wO Z (wP Z (QT (S':=V15 ..) Z Z Z Z Z (Q4 (Qf ?_)))))))))
 have hE:=(Zi hm).symm
 refine Qh true hE [18,17,16,15,10,7,3] Z (asK [0,1,2] Z) Z
 replace hm:=QH hm b8
 refine wP Z (wP Z ?_)
 obtain ⟨dB,cC,hm⟩:=Q6 hm
 refine Q1a 0 aG Z Z Z Zq Z Z Z Z Z cC Q9j Q6E (fun dS dT dM dF=>(Q1G Q3C 1 Z (fun dU cD _=>?_)))
 subst cD
 refine wF Z Q9T (Q1F 2 0 Z Z Z Zq Z Z Z (cs:=[_]) Z tS_53 tA_53 Z Z (wP Z (wP Z (QT (S':=V15 ..) Z Z Z Z Z (Q4 (Qf ?_))))))
 have hE:=(Zi hm).symm
 refine Qh (dB.kind == 2) hE [18,17,16,15,10,7,3] Z (asK [4,5,6] Z) Z
 rintro aK hE
 try dsimp only
 have hm:=hLj_8
 try rw [hE] at hm
 refine Q1 (wP Z (wP Z ?_))
 obtain ⟨cE,hm⟩:=Qd hm
 refine Qs (d:=124) (v':=.int .i64 ((aG + 1:Nat):Int)) (S':=V8 ..) Z Z (Q1r (a:=aG) (b:=1) cE) (QT (S':=V8 ..) Z Z Z Z Z (Q4 ?_))
 have hE:=(Zi hm).symm
 replace hE:=QF hLu4 hE
 refine QU (_,aG + 1,aK) (Nat.lt_succ_self _) hE [18,17,16,15,10,7,3] Z (asK [0,1,2] Z) Z
 replace hm:=QH hm b7
 refine Q2 [16,15,10,7,3] (S':=V5 ..) Z (Q1g (Qj (Qj (QD ?_))))
 have hE:=(Zi hm).symm
 replace hE:=Qx hLu4 hE
 refine Qh aO hE [16,15,10,7,3] Z (asK [1,2] Z) Z
 rintro aR hE
 try dsimp only
 have hm:=hLj_7
 try rw [hE] at hm
 refine Q5 ?_
 obtain ⟨dC,hm,hLj_9⟩:=Q6 hm
 refine QM (σ:=Bool) (fun aH=>dC = aH) (fun aH=>[(15,.int .i64 ((a9:Nat):Int)),(10,.slice (some ⟨aW,0,none⟩) a6 a1),(7,.slice a7 a5 z),(3,.pointer (some ⟨g3,0,none⟩)),(144,.bool aH)]) (fun aH=>[.sli 2 Qb aB aC l0,.sli 5 Qa aD aE l1]) (fun aH=>[.own 41 2 Q1x (.slice (some ⟨aW,0,none⟩) a6 a1) a0,.own 41 2 Q1x (.slice a7 a5 z) s,.blk g3 [.slice aB l0.length aC,.slice aD l1.length aE] 25]) ?_ ?_
 refine Q1 (wP Z (wP Z (wP Z ?_)))
 refine QG (d:=136) (S':=V7 ..) Z Z (fun b9=>?_) (fun b9=>?_)
 replace hm:=QI hm b9
 refine wP Z (wP Z (wP Z ?_))
 obtain ⟨bB,bS,hm⟩:=Q6 hm
 refine Q8j 0 a9 Z Z Z Zq Z Z Z Z Z (Q2Y bS) Q9i Q8f (Q29 Q1T 0 a9 0 Z Z Z Zq Z Z Z bS Q8f tA_41 (v:=fun b0=>.agg #[.int .i64 (bB.rule),.slice b0.1 bB.ids.length b0.2]) (fun _=>Z) (fun _=>Z) (fun b0 _=>(QQ 1 Z (fun bT _=>?_))))
 subst bT
 obtain ⟨dD,cF,hm⟩:=Q6 hm
 refine Q53 [] [0,1,2] [1] Z Z Z Zq Z Z fn_23 Z (Q8P N a7 z s bB.rule b0.1 b0.2 bB.ids _ cF) (fun F w hφ hh=>(Q14 (Q1A (hh _ (Q12 (k:=0) Z))) (Q14 (hφ _ (Q12 (k:=0) Z)) Qu))) (fun _ _ _ hR=>by obtain ⟨rfl,rfl,rfl⟩:=hR; exact ⟨Z,(fun _ h=>Q3G h)⟩) Z Z (H':=V3 ..) Z ?_
 rintro _ _ _ ⟨rfl,rfl,rfl⟩
 refine wP Z (wP Z (Q4 ?_))
 have hE:=(Zi hm).symm
 refine Qh (!dD) hE [15,10,7,3,144] Z (asK [1,2] Z) Z
 replace hm:=QH hm b9
 refine wO Z (wO Z (wO Z (wO Z (wO Z (wO Z (wO Z (wP Z (Q4 ?_))))))))
 have hE:=(Zi hm).symm
 refine Qh false hE [15,10,7,3,144] Z (asK [0,1] Z) Z
 rintro aH hE
 try dsimp only
 have hm:=hLj_9
 try rw [hE] at hm
 refine Qt Z (fun bA=>?_) (fun bA=>?_)
 replace hm:=QI hm bA
 refine Q2 [] (S':=[]) Z (Q5 (Q1 (wP Z (Q4 (Q3 (Qo (Qk (Q9 (Q9 (Qk (Q9 ?_)))))))))))
 have hE:=(Zi hm).symm
 replace hE:=Qx hLu3 hE
 replace hE:=Qx hLj_6 hE
 replace hE:=hE.symm
 subst hE
 refine Qp (Hr:=[]) [] Tryz.results6 (Qg Z) ⟨Z,Z,Z⟩ (asK [] Z) Z Z (.inl Z)
 replace hm:=QH hm bA
 refine Q2 [15,10,7,3] (S':=V4 ..) Z (Qr (Qf (Q3 (Q1 (wP Z (wP Z ?_))))))
 obtain ⟨cG,hm⟩:=Qd hm
 refine Qs (d:=108) (v':=.int .i64 ((a9 + 1:Nat):Int)) (S':=V5 ..) Z Z (Q1r (a:=a9) (b:=1) cG) (QT (S':=V5 ..) Z Z Z Z Z (Q4 ?_))
 have hE:=(Zi hm).symm
 replace hE:=QF hLu3 hE
 refine QU (_,a9 + 1) (Nat.lt_succ_self _) hE [15,10,7,3] Z (asK [0,1] Z) Z
 replace hm:=QH hm b5
 refine Q2 [] (S':=[]) Z (Q1g (Qj (Qj (QD ?_))))
 have hE:=(Zi hm).symm
 replace hE:=Qx hLu3 hE
 refine QE [] Z (H':=[]) Z ?_
 refine Qh () hE [] Z (asK [] Z) Z
 rintro _ hE
 try dsimp only
 have hm:=QF hLj_6 hE
 try dsimp only at hm
 refine Q5 (Q1 (wP Z (Q4 (Q3 (Qo ?_)))))
 have hE:=(Zi hm).symm
 replace hE:=hE.symm
 subst hE
 refine Qp (Hr:=[]) [] Tryz.results6 (Qg Z) ⟨Z,Z,Z⟩ (asK [] Z) Z Z (.inl Z)
end Go.Proofs.YtbgodclhmgmcgaaGreatDoor
