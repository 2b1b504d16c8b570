import Derived.Test.YtgangmegcejllaaGreatDoorXW8
namespace Go.Proofs.YtgangmegcejllaaGreatDoor
open Go.RowKit
set_option maxRecDepth 100000
set_option maxHeartbeats 4000000
def Q34 (k i:Int):Int:=IntKind.wrap .i64 ((IntKind.wrap .i64 (1000003 * (IntKind.wrap .i64 (k + 7)))) + i)
theorem Q6i (k i:Int):Q1z Tryz.prog 49 [.int .i64 k,.int .i64 i] [] [] (fun v Φr Hr=>v = .agg #[.int .i64 (Q34 k i),V1] ∧ Φr = [] ∧ Hr = []):=Q3E 0 k i rfl
def Q2s (k i:Nat):List Value:=[.int .i64 (Q34 ((k:Nat):Int) ((i:Nat):Int)),V1]
theorem Q96 (z:Int):Q4n 2 z z = some true:=by
 simp [Q4n,Q43,Q4m,Q1B,Qf,Q5v,gd]
theorem fl_flatTokens (p:OA) (c:Nat) (hs:List Hdr) (hL:hs.length ≤ 1073741824) (hb : ∀ h ∈ hs,h.2.1 ≤ 1073741824):Q1z Tryz.prog 74 [.slice p hs.length c] [] [.own 40 1 Q2Z (.slice p hs.length c) hs,Q1x 45 2 (hs.map Q58)] (fun v Φr Hr=>∃ rows,FlE hs Q2s rows ∧ v = .bool true ∧ Φr = [] ∧ Hr = [Q1x 45 2 rows]):=by
 refine Q12 Tryz.func74 Z Tryz.ntmps74 Z (S:=[_]) Z (fun C=>(Q6 (Q3 (wP Z (Q2 (Q4 (Q6 (Q6 (Q3 (wP Z (Q2 (Q4 (Qn (Q1b (σ:=List Q7k × Nat) (fun s=>s.2 ≤ hs.length ∧ FlA hs Q2s s.2 0 s.1) (fun s=>hs.length - s.2) (fun s=>[(3,.int .i64 ((s.2:Nat):Int)),(2,.bool false),(0,.slice p hs.length c)]) (fun s=>[]) (fun s=>[.own 40 1 Q2Z (.slice p hs.length c) hs,Q1x 45 2 s.1]) (hs.map Q58,0) ⟨Nat.zero_le _,FlA.start⟩ [3,2,0] Z (asK [] Z) Z (fun o b5=>?_)))))))))))))))
 refine Q6 (Q6 (Q3 (wP Z (wP Z (wN Z Q6y (wP Z (Q2 (Q4 (Q5 [19,3,2,0] (S':=V4 ..) Z ?_)))))))))
 refine Qv Z (fun aO=>?_) (fun aO=>?_)
 replace aO:=of_decide_eq_true aO
 have b7:o.2 < hs.length:=by omega
 obtain ⟨y1,aJ⟩ : ∃ y,hs[o.2]? = some y:=⟨_,List.getElem?_eq_getElem b7⟩
 have hB1:y1.2.1 ≤ 1073741824:=hb _ (List.mem_of_getElem? aJ)
 refine Qt (Q4 (Q6 (Qn (Q6 (Q3 (wP Z (Q2 (Q4 (Qn (Q1b (σ:=List Q7k × Nat) (fun s=>s.2 ≤ y1.2.1 ∧ FlA hs Q2s o.2 s.2 s.1) (fun s=>y1.2.1 - s.2) (fun s=>[(4,.int .i64 ((s.2:Nat):Int)),(19,.bool (decide (((o.2:Nat):Int) < ((hs.length:Nat):Int)))),(3,.int .i64 ((o.2:Nat):Int)),(2,.bool false),(0,.slice p hs.length c)]) (fun s=>[]) (fun s=>[.own 40 1 Q2Z (.slice p hs.length c) hs,Q1x 45 2 s.1]) (o.1,0) ⟨Nat.zero_le _,b5.2⟩ [4,19,3,2,0] Z (asK [] Z) Z (fun s2 aP=>(Q6 (Q6 (Q3 ?_))))))))))))))
 refine wP Z (wP Z (wP Z (Q24 0 o.2 Z Z Z Zq Z Z Z Z Z b7 Q6y Q1O (fun cG bL=>?_))))
 subst bL
 refine Qk Q2w 0 o.2 0 Z Z Z Zq Z Z Z aJ Q1O Q2I (v:=fun _=>.slice y1.1 y1.2.1 y1.2.2) (fun _=>Z) (fun _=>Z) (fun _ _=>(wN Z QG (wP Z (Q2 (Q4 (Q5 [28,4,19,3,2,0] (S':=V6 ..) Z ?_))))))
 refine Qv Z (fun aQ=>?_) (fun aQ=>?_)
 replace aQ:=of_decide_eq_true aQ
 obtain ⟨r2,b8,bM,bN,c2⟩:=aP.2.at_ aJ
 refine Qt (Q4 (Q6 (Qn (QV [0,1,2,3,4,5,6,8] Z Z (fun hok=>(xP hok 0 Z (xP hok 1 Z (QS hok 2 0 o.2 Z Z Z Zq Z Z Z Z Z Z b7 Q6y Q1O (Q2v hok 3 Q2w 0 o.2 0 Z Z Z Zq Z Z Z Z aJ Q1O Q2I (v:=.slice y1.1 y1.2.1 y1.2.2) Z Z (fun _=>(xP hok 4 Z (xP hok 5 Z (xP hok 6 Z (xS hok 7 Z (wC [] [0,1] Z fn_49 Z (Q6i ((o.2:Nat):Int) ((s2.2:Nat):Int)) (asK [] Z) Z (H':=[_,_]) Z ?_)))))))))))))))
 rintro _ _ _ ⟨rfl,rfl,rfl⟩
 refine Q2 (Qs [] [0] Z Z (Q9e hok 8 (p:=y1.1) (m:=y1.2.1) (cp:=y1.2.2) 1 o.2 s2.2 Z Z Z Zq Z Z Z b8 bM Z Z Z (by omega) c2 QG Qg (fun cH bO=>(xS hok 9 Z (wl_flStore (cs:=Q2s o.2 s2.2) 1 o.2 s2.2 Z Z Z Z b8 bN (hdr_eq bM bO) Z (by omega) Z Z Qg Z (one_of Z) (H':=[_,_]) Z (Q2 (Qs [] [] Z Z (QI hok Z (Qi (Q4 (Q3 (wP Z (wP Z (Qx (d:=30) (v':=.int .i64 ((s2.2 + 1:Nat):Int)) (S':=V16 ..) Z Z (Q1f (a:=s2.2) (b:=1) (by omega)) ?_))))))))))))))
 refine QM (S':=V16 ..) Z Z Z Z Z (Q2 ?_)
 refine Q3g (s2.1.set o.2 ⟨r2.h,(r2.l.set s2.2 (some (Q2s o.2 s2.2))),r2.h,(r2.l.set s2.2 (some (Q2s o.2 s2.2)))⟩,s2.2 + 1) (by show y1.2.1 - (s2.2 + 1) < _; omega) ⟨by show s2.2 + 1 ≤ _; omega,aP.2.store aJ b8 (by omega)⟩ [4,19,3,2,0] Z (asK [] Z) Z
 replace aQ:=of_decide_eq_false aQ
 refine Q19 (Qc (Qc (Qu (Qi (Q4 (Q3 (wP Z (wP Z (Qx (d:=21) (v':=.int .i64 ((o.2 + 1:Nat):Int)) (S':=V7 ..) Z Z (Q1f (a:=o.2) (b:=1) (by omega)) (QM (S':=V7 ..) Z Z Z Z Z (Q2 ?_)))))))))))
 refine Q3g (s2.1,o.2 + 1) (by show hs.length - (o.2 + 1) < _; omega) ⟨by show o.2 + 1 ≤ _; omega,aP.2.next aJ (by omega)⟩ [3,2,0] Z (asK [] Z) Z
 replace aO:=of_decide_eq_false aO
 refine Q19 (Qc (Qc (Qu (Q4 (Q6 (Q3 (wP Z (wN Z Q6y (Q7y (m:=hs.length) Q2Z (none,0,0) Z Z Z Zq Z Z Z Z Z Q6y tR_40 Z Z (fun _ _=>Z) (by omega) (by omega) (fun a0=>(wP Z (Q2 (Q4 (Q5 [5,19,3,2,0] (S':=V5 ..) Z ?_))))))))))))))
 refine Q6 (Q6 (Q3 (wP Z (Q2 (Q4 (Qn (Q1b (σ:=List Hdr × List Q7k × Nat) (fun s=>s.2.2 ≤ hs.length ∧ FlB hs Q2s s.1 s.2.2 s.2.1) (fun s=>hs.length - s.2.2) (fun s=>[(6,.int .i64 ((s.2.2:Nat):Int)),(5,.slice (some ⟨a0,0,none⟩) hs.length hs.length),(19,.bool (decide (((o.2:Nat):Int) < ((hs.length:Nat):Int)))),(3,.int .i64 ((o.2:Nat):Int)),(2,.bool false),(0,.slice p hs.length c)]) (fun s=>[]) (fun s=>[.own 40 1 Q2Z (.slice (some ⟨a0,0,none⟩) hs.length hs.length) s.1,.own 40 1 Q2Z (.slice p hs.length c) hs,Q1x 45 2 s.2.1]) (List.replicate hs.length (none,0,0),o.1,0) ⟨Nat.zero_le _,b5.2.grow (by omega) (by simp)⟩ [6,5,19,3,2,0] Z (asK [] Z) Z (fun f a2=>(Q6 (Q6 (Q3 (wP Z (wP Z (wN Z Q6y ?_))))))))))))))
 refine wP Z (Q2 (Q4 (Q5 [46,6,5,19,3,2,0] (S':=V7 ..) Z ?_)))
 refine Qv Z (fun aR=>?_) (fun aR=>?_)
 replace aR:=of_decide_eq_true aR
 have aK:f.2.2 < hs.length:=by omega
 obtain ⟨y3,aL⟩ : ∃ y,hs[f.2.2]? = some y:=⟨_,List.getElem?_eq_getElem aK⟩
 have hB3:y3.2.1 ≤ 1073741824:=hb _ (List.mem_of_getElem? aL)
 refine Qt (Q4 (Q6 (Qn (Q6 (Q3 (wP Z (wP Z (Q24 1 f.2.2 Z Z Z Zq Z Z Z Z Z aK Q6y Q1O (fun bP bQ=>?_)))))))))
 subst bQ
 refine Qk Q2w 1 f.2.2 0 Z Z Z Zq Z Z Z aL Q1O Q2I (v:=fun _=>.slice y3.1 y3.2.1 y3.2.2) (fun _=>Z) (fun _=>Z) (fun _ _=>(wP Z (Q2 (Q4 (Q5 [7,46,6,5,19,3,2,0] (S':=V8 ..) Z (Q6 (Q6 (Q3 (wP Z (Q2 (Q4 (Qn (Q1b (σ:=List Q7k × Hdr × Nat) (fun s=>s.2.2 ≤ 64 ∧ FlC hs Q2s f.1 f.2.2 s.2.2 s.2.1 s.1) (fun s=>64 - s.2.2) (fun s=>[(8,.int .i64 ((s.2.2:Nat):Int)),(7,.slice s.2.1.1 s.2.1.2.1 s.2.1.2.2),(46,.bool (decide (((f.2.2:Nat):Int) < ((hs.length:Nat):Int)))),(6,.int .i64 ((f.2.2:Nat):Int)),(5,.slice (some ⟨a0,0,none⟩) hs.length hs.length),(19,.bool (decide (((o.2:Nat):Int) < ((hs.length:Nat):Int)))),(3,.int .i64 ((o.2:Nat):Int)),(2,.bool false),(0,.slice (some ⟨bP,0,none⟩) hs.length c)]) (fun s=>[]) (fun s=>[.own 40 1 Q2Z (.slice (some ⟨a0,0,none⟩) hs.length hs.length) f.1,.own 40 1 Q2Z (.slice (some ⟨bP,0,none⟩) hs.length c) hs,Q1x 45 2 s.1]) (f.2.1,y3,0) ⟨Nat.zero_le _,a2.2.begin aL⟩ [8,7,46,6,5,19,3,2,0] Z (asK [] Z) Z (fun s4 aS=>(Q6 ?_)))))))))))))))
 refine Q6 (Q3 (wP Z (wP Z (Q2 (Q4 (Q5 [54,8,7,46,6,5,19,3,2,0] (S':=V10 ..) Z ?_))))))
 refine Qv Z (fun aT=>?_) (fun aT=>?_)
 replace aT:=of_decide_eq_true aT
 obtain ⟨r4,bR,cI,cJ,c3,bS⟩:=aS.2.at_ aL
 refine Qt (Q4 (Q6 (Qn (Q3 (wP Z (wP Z (wP Z (wP Z (Q6C 1 f.2.2 Z Z Z Zq Z Z Z Z Z aK Q6y Q1O (Qk Q2w 1 f.2.2 0 Z Z Z Zq Z Z Z aL Q1O Q2I (v:=fun _=>.slice y3.1 y3.2.1 y3.2.2) (fun _=>Z) (fun _=>Z) (fun _ _=>(wN Z QG (wP Z (wP Z ?_))))))))))))))
 refine Qx (d:=65) (v':=.int .i64 ((y3.2.1 + s4.2.2:Nat):Int)) (S':=V18 ..) Z Z (Q1f (a:=y3.2.1) (b:=s4.2.2) (by omega)) (wC [] [0,1,2] Z fn_49 Z (Q6i ((f.2.2:Nat):Int) ((y3.2.1 + s4.2.2:Nat):Int)) (asK [] Z) Z (H':=V3 ..) Z ?_)
 rintro _ _ _ ⟨rfl,rfl,rfl⟩
 refine Qq Z Z Z Zq Z QG Qg Q1X Z (zs:=[.int .i64 0,V1]) (by kernel_rfl) Z (out:=[_,_]) Z (fun cK=>(wl_flAppB (cs:=Q2s f.2.2 (y3.2.1 + s4.2.2)) 3 f.2.2 0 Z Z Z Zq Z Z bR (by rw [c3]; rfl) Z Z Z (one_of Z) QG Q8i Z Z (by rw [bS]; simp only [Q2y,List.length_append,List.length_cons,List.length_nil]; omega) (by rw [bS]; simp only [Q2y,List.length_append,List.length_cons,List.length_nil]; omega) (H2:=fun aF=>[_,_,_,Q1x 45 2 (s4.1.set f.2.2 ⟨r4.h,r4.l,aF,r4.m ++ [some (Q2s f.2.2 (y3.2.1 + s4.2.2))]⟩)]) (fun _=>Z) (fun aF=>(Q2J 0 Z (H':=V3 ..) Z (QM (S':=V21 ..) Z Z Z Z Z (Q2 (Qi (Q4 (Q3 (wP Z (wP Z (Qx (d:=56) (v':=.int .i64 ((s4.2.2 + 1:Nat):Int)) (S':=V23 ..) Z Z (Q1f (a:=s4.2.2) (b:=1) (by omega)) (QM (S':=V23 ..) Z Z Z Z Z (Q2 ?_))))))))))))))
 refine Q3g (s4.1.set f.2.2 ⟨r4.h,r4.l,aF,r4.m ++ [some (Q2s f.2.2 (y3.2.1 + s4.2.2))]⟩,aF,s4.2.2 + 1) (by show 64 - (s4.2.2 + 1) < _; omega) ⟨by show s4.2.2 + 1 ≤ 64; omega,aS.2.app aL bR _⟩ [8,7,46,6,5,19,3,2,0] Z (asK [] Z) Z
 replace aT:=of_decide_eq_false aT
 refine Q19 (Qc (Qc (Qu (Q4 (Q3 (wP Z (wP Z (wP Z (Q6C 0 f.2.2 Z Z Z Zq Z Z Z Z Z (by rw [a2.2.2.1]; exact aK) Q6y Q1O (Q10 (u:=s4.2.1) 0 f.2.2 Z Z Z Z Z (by rw [a2.2.2.1]; exact aK) Z Z Q1O Z (fun _ _ _=>Z) (H':=V3 ..) Z (Q2 (Qi (Q4 ?_)))))))))))))
 refine Q3 (wP Z (wP Z (Qx (d:=48) (v':=.int .i64 ((f.2.2 + 1:Nat):Int)) (S':=V15 ..) Z Z (Q1f (a:=f.2.2) (b:=1) (by omega)) (QM (S':=V15 ..) Z Z Z Z Z (Q2 ?_)))))
 have bT:=aS.2
 rw [show s4.2.2 = 64 from by omega] at bT
 refine Q3g (f.1.set f.2.2 s4.2.1,s4.1,f.2.2 + 1) (by show hs.length - (f.2.2 + 1) < _; omega) ⟨by show f.2.2 + 1 ≤ _; omega,bT.done aK⟩ [6,5,19,3,2,0] Z (asK [] Z) Z
 replace aR:=of_decide_eq_false aR
 refine Q19 (Qc (Qc (Qu (Q4 (Q6 (Q6 (Q3 (wP Z (Q2 (Q4 (Qn (Q1b (σ:=Nat) (fun s=>s ≤ hs.length) (fun s=>hs.length - s) (fun s=>[(9,.int .i64 ((s:Nat):Int)),(46,.bool (decide (((f.2.2:Nat):Int) < ((hs.length:Nat):Int)))),(6,.int .i64 ((f.2.2:Nat):Int)),(5,.slice (some ⟨a0,0,none⟩) hs.length hs.length),(19,.bool (decide (((o.2:Nat):Int) < ((hs.length:Nat):Int)))),(3,.int .i64 ((o.2:Nat):Int)),(2,.bool false),(0,.slice p hs.length c)]) (fun s=>[]) (fun s=>[.own 40 1 Q2Z (.slice (some ⟨a0,0,none⟩) hs.length hs.length) f.1,.own 40 1 Q2Z (.slice p hs.length c) hs,Q1x 45 2 f.2.1]) 0 (Nat.zero_le _) [9,46,6,5,19,3,2,0] Z (asK [] Z) Z (fun q c7=>(Q6 ?_))))))))))))))
 refine Q6 (Q3 (wP Z (wP Z (wN Z Q6y (wP Z (Q2 (Q4 (Q5 [76,9,46,6,5,19,3,2,0] (S':=V9 ..) Z ?_))))))))
 refine Qv Z (fun aU=>?_) (fun aU=>?_)
 replace aU:=of_decide_eq_true aU
 have aV:q < hs.length:=by omega
 obtain ⟨y5,aZ⟩ : ∃ y,hs[q]? = some y:=⟨_,List.getElem?_eq_getElem aV⟩
 have hB5:y5.2.1 ≤ 1073741824:=hb _ (List.mem_of_getElem? aZ)
 obtain ⟨r5,aW,bU,b9,bV,bA⟩:=a2.2.look (by omega) aZ
 refine wc_flLen 2 Z aW (fun hA5 hC5=>?_)
 rw [b9,Q2y] at hA5
 rw [bA,Q2y] at hC5
 refine Qt (Q4 (Q6 (Qn (Q6 (Q3 (wP Z (Q2 (Q4 (Qn (Q1b (σ:=Nat) (fun s=>s ≤ y5.2.1 + 64) (fun s=>y5.2.1 + 64 - s) (fun s=>[(10,.int .i64 ((s:Nat):Int)),(76,.bool (decide (((q:Nat):Int) < ((hs.length:Nat):Int)))),(9,.int .i64 ((q:Nat):Int)),(46,.bool (decide (((f.2.2:Nat):Int) < ((hs.length:Nat):Int)))),(6,.int .i64 ((f.2.2:Nat):Int)),(5,.slice (some ⟨a0,0,none⟩) hs.length hs.length),(19,.bool (decide (((o.2:Nat):Int) < ((hs.length:Nat):Int)))),(3,.int .i64 ((o.2:Nat):Int)),(2,.bool false),(0,.slice p hs.length c)]) (fun s=>[]) (fun s=>[.own 40 1 Q2Z (.slice (some ⟨a0,0,none⟩) hs.length hs.length) f.1,.own 40 1 Q2Z (.slice p hs.length c) hs,Q1x 45 2 f.2.1]) 0 (Nat.zero_le _) [10,76,9,46,6,5,19,3,2,0] Z (asK [] Z) Z (fun s6 c8=>(Q6 (Q6 (Q3 ?_))))))))))))))
 refine wP Z (wP Z (wP Z (Q6C 0 q Z Z Z Zq Z Z Z Z Z (by rw [a2.2.2.1]; exact aV) Q6y Q1O (Qk Q2w 0 q 0 Z Z Z Zq Z Z Z bV Q1O Q2I (v:=fun _=>.slice r5.g.1 r5.g.2.1 r5.g.2.2) (fun _=>Z) (fun _=>Z) (fun _ _=>(wN Z QG (wP Z (Q2 (Q4 (Q5 [85,10,76,9,46,6,5,19,3,2,0] (S':=V11 ..) Z ?_))))))))))
 refine Qv Z (fun aX=>?_) (fun aX=>?_)
 replace aX:=of_decide_eq_true aX
 refine Qt (Q4 (Q6 (Qn (Q6 (QV [0,1,2,3,4,5,6,7,8,11,12,13,14,15,16,17,18,19,20,21,22,23,24,25,26,27,28,29,32,33,34] Z Z (fun hok=>(xP hok 0 Z (xP hok 1 Z (QS hok 2 0 q Z Z Z Zq Z Z Z Z Z Z (by rw [a2.2.2.1]; exact aV) Q6y Q1O (Q2v hok 3 Q2w 0 q 0 Z Z Z Zq Z Z Z Z bV Q1O Q2I (v:=.slice r5.g.1 r5.g.2.1 r5.g.2.2) Z Z (fun _=>(xP hok 4 Z (QaI hok 5 (p:=r5.g.1) (m:=r5.g.2.1) (cp:=r5.g.2.2) 2 q s6 Z Z Z Zq Z Z Z aW Z Z Z Z (by omega) (by rw [bA,Q2y]; omega) QG Qg (fun cL bW=>(Qap hok 6 2 q s6 Z Z Z Zq Z Z Z aW (hdr_eqG bW) Z (cs:=Q2s q s6) (by rw [bA]; exact Q8C (by omega)) Qg QT Z (v:=.agg #[.int .i64 (Q34 ((q:Nat):Int) ((s6:Nat):Int)),V1]) Z (xP hok 7 Z ?_))))))))))))))))
 refine xP hok 8 Z (xS hok 9 Z (wC [] [0,1,2] Z fn_49 Z (Q6i ((q:Nat):Int) ((s6:Nat):Int)) (asK [] Z) Z (H':=V3 ..) Z ?_))
 rintro _ _ _ ⟨rfl,rfl,rfl⟩
 refine Q2 (Qs [] [2,0] Z Z (xS hok 10 Z (wC [] [0,1,2] Z fn_13 Z (Q3W 2 (Q34 ((q:Nat):Int) ((s6:Nat):Int)) (Q34 ((q:Nat):Int) ((s6:Nat):Int)) _ (Q96 _)) (asK [] Z) Z (H':=V3 ..) Z ?_)))
 rintro _ _ _ ⟨rfl,rfl,rfl⟩
 refine Q2 (Qs [] [0] Z Z (xP hok 11 Z (xP hok 12 Z (xP hok 13 Z (xP hok 14 Z (xP hok 15 Z (Q1C hok 16 1 q Z Z Z Zq Z Z Z Z Z Z aV Q6y Q1O (fun c9 bB=>?_))))))))
 subst bB
 refine Q2v hok 17 Q2w 1 q 0 Z Z Z Zq Z Z Z Z aZ Q1O Q2I (v:=.slice y5.1 y5.2.1 y5.2.2) Z Z (fun _=>(Q3r hok 18 Z Z Z Zq Z Z Z QG (xP hok 19 Z (xP hok 20 Z ?_))))
 refine wx_split (d:=108) (S':=V31 ..) Z Z (fun a8=>?_) (fun a8=>?_)
 replace a8:=of_decide_eq_true a8
 refine xP hok 21 Z (xP hok 22 Z (QS hok 23 1 q Z Z Z Zq Z Z Z Z Z Z aV Q6y Q1O (Q2v hok 24 Q2w 1 q 0 Z Z Z Zq Z Z Z Z aZ Q1O Q2I (v:=.slice y5.1 y5.2.1 y5.2.2) Z Z (fun _=>(xP hok 25 Z (Q9e hok 26 (p:=y5.1) (m:=y5.2.1) (cp:=y5.2.2) 2 q s6 Z Z Z Zq Z Z Z aW bU Z Z Z (by omega) (by rw [b9,Q2y]) QG Qg (fun cA bC=>(Qaq hok 27 2 q s6 Z Z Z Zq Z Z Z aW (hdr_eq bU bC) Z (cs:=Q2s q s6) (by rw [b9]; exact Q8C (by omega)) Qg QT Z (v:=.agg #[.int .i64 (Q34 ((q:Nat):Int) ((s6:Nat):Int)),V1]) Z (xP hok 28 Z (xP hok 29 Z (xS hok 30 Z (wC [] [0,1,2] Z fn_49 Z (Q6i ((q:Nat):Int) ((s6:Nat):Int)) (asK [] Z) Z (H':=V3 ..) Z ?_))))))))))))
 rintro _ _ _ ⟨rfl,rfl,rfl⟩
 refine Q2 (Qs [] [2,1,1,2,0] Z Z (xS hok 31 Z (wC [] [0,1,2] Z fn_13 Z (Q3W 2 (Q34 ((q:Nat):Int) ((s6:Nat):Int)) (Q34 ((q:Nat):Int) ((s6:Nat):Int)) _ (Q96 _)) (asK [] Z) Z (H':=V3 ..) Z ?_)))
 rintro _ _ _ ⟨rfl,rfl,rfl⟩
 refine Q2 (Qs [] [1,1,2,0] Z Z (xP hok 32 Z (xP hok 33 Z (xP hok 34 Z (QI hok Z (Q4 (Q5 [122,85,10,76,9,46,6,5,19,3,2,0] (S':=V12 ..) Z (Q2X Z (Qt (Qi (Q4 (Q3 (wP Z ?_)))))))))))))
 refine wP Z (Qx (d:=87) (v':=.int .i64 ((s6 + 1:Nat):Int)) (S':=V13 ..) Z Z (Q1f (a:=s6) (b:=1) (by omega)) (QM (S':=V13 ..) Z Z Z Z Z (Q2 ?_)))
 refine Q3g (s6 + 1) (by omega) (by omega) [10,76,9,46,6,5,19,3,2,0] Z (asK [] Z) Z
 replace a8:=of_decide_eq_false a8
 refine xO hok 21 Z (xO hok 22 Z (xO hok 23 Z (xO hok 24 Z (xO hok 25 Z (xO hok 26 Z (xO hok 27 Z (xO hok 28 Z (xO hok 29 Z (xS hok 30 Z (wO Z (Q2 (Qs [] [1,2,0] Z Z (xS hok 31 Z ?_)))))))))))))
 refine wO Z (Q2 (Qs [] [1,2,0] Z Z (xO hok 32 Z (xP hok 33 Z (xP hok 34 Z (QI hok Z (Q4 (Q5 [122,85,10,76,9,46,6,5,19,3,2,0] (S':=V12 ..) Z (Q2X Z (Qt (Qi (Q4 (Q3 ?_)))))))))))))
 refine wP Z (wP Z (Qx (d:=87) (v':=.int .i64 ((s6 + 1:Nat):Int)) (S':=V13 ..) Z Z (Q1f (a:=s6) (b:=1) (by omega)) (QM (S':=V13 ..) Z Z Z Z Z (Q2 ?_))))
 refine Q3g (s6 + 1) (by omega) (by omega) [10,76,9,46,6,5,19,3,2,0] Z (asK [] Z) Z
 replace aX:=of_decide_eq_false aX
 refine Q19 (Qc (Qc (Qu (Qi (Q4 (Q3 (wP Z (wP Z (Qx (d:=78) (v':=.int .i64 ((q + 1:Nat):Int)) (S':=V12 ..) Z Z (Q1f (a:=q) (b:=1) (by omega)) (QM (S':=V12 ..) Z Z Z Z Z (Q2 ?_)))))))))))
 refine Q3g (q + 1) (by omega) (by omega) [9,46,6,5,19,3,2,0] Z (asK [] Z) Z
 replace aU:=of_decide_eq_false aU
 refine Q19 (Qc (Qc (Qu (Q4 (Q6 (Q6 (Q3 (wP Z (Q2 (Q4 (Qn (Q1b (σ:=List Hdr × List Q7k × Nat) (fun s=>s.2.2 ≤ hs.length ∧ FlD hs Q2s s.1 s.2.2 s.2.1) (fun s=>hs.length - s.2.2) (fun s=>[(11,.int .i64 ((s.2.2:Nat):Int)),(76,.bool (decide (((q:Nat):Int) < ((hs.length:Nat):Int)))),(9,.int .i64 ((q:Nat):Int)),(46,.bool (decide (((f.2.2:Nat):Int) < ((hs.length:Nat):Int)))),(6,.int .i64 ((f.2.2:Nat):Int)),(5,.slice (some ⟨a0,0,none⟩) hs.length hs.length),(19,.bool (decide (((o.2:Nat):Int) < ((hs.length:Nat):Int)))),(3,.int .i64 ((o.2:Nat):Int)),(2,.bool false),(0,.slice p hs.length c)]) (fun s=>[]) (fun s=>[.own 40 1 Q2Z (.slice (some ⟨a0,0,none⟩) hs.length hs.length) s.1,.own 40 1 Q2Z (.slice p hs.length c) hs,Q1x 45 2 s.2.1]) (f.1,f.2.1,0) ⟨Nat.zero_le _,a2.2.again⟩ [11,76,9,46,6,5,19,3,2,0] Z (asK [] Z) Z (fun j a3=>(Q6 ?_))))))))))))))
 refine Q6 (Q3 (wP Z (wP Z (wN Z Q6y (wP Z (Q2 (Q4 (Q5 [126,11,76,9,46,6,5,19,3,2,0] (S':=V11 ..) Z ?_))))))))
 refine Qv Z (fun a9=>?_) (fun a9=>?_)
 replace a9:=of_decide_eq_true a9
 have b1:j.2.2 < hs.length:=by omega
 obtain ⟨y7,b2⟩ : ∃ y,hs[j.2.2]? = some y:=⟨_,List.getElem?_eq_getElem b1⟩
 have hB7:y7.2.1 ≤ 1073741824:=hb _ (List.mem_of_getElem? b2)
 obtain ⟨r7,bD,c4,bX⟩:=a3.2.at_ b2
 refine Qt (Q4 (Q6 (Qn (Q6 (Q3 (Q7y (m:=64) celR (none:Cel) Z Z Z Zq Z Z Z Z Z QG Q8i Z Z (fun _ _=>cel_any Z) (by omega) (by omega) (fun b6=>(wP Z (Q2 (Q4 (Q5 [12,126,11,76,9,46,6,5,19,3,2,0] (S':=V12 ..) Z (Q6 (Q6 (Q3 ?_))))))))))))))
 refine wP Z (Q2 (Q4 (Qn (Q1b (σ:=List Cel × Nat) (fun s=>s.2 ≤ 64 ∧ s.1.length = 64) (fun s=>64 - s.2) (fun s=>[(13,.int .i64 ((s.2:Nat):Int)),(12,.slice (some ⟨b6,0,none⟩) 64 64),(126,.bool (decide (((j.2.2:Nat):Int) < ((hs.length:Nat):Int)))),(11,.int .i64 ((j.2.2:Nat):Int)),(76,.bool (decide (((q:Nat):Int) < ((hs.length:Nat):Int)))),(9,.int .i64 ((q:Nat):Int)),(46,.bool (decide (((f.2.2:Nat):Int) < ((hs.length:Nat):Int)))),(6,.int .i64 ((f.2.2:Nat):Int)),(5,.slice (some ⟨a0,0,none⟩) hs.length hs.length),(19,.bool (decide (((o.2:Nat):Int) < ((hs.length:Nat):Int)))),(3,.int .i64 ((o.2:Nat):Int)),(2,.bool false),(0,.slice p hs.length c)]) (fun s=>[]) (fun s=>[.own 45 2 celR (.slice (some ⟨b6,0,none⟩) 64 64) s.1,.own 40 1 Q2Z (.slice (some ⟨a0,0,none⟩) hs.length hs.length) j.1,.own 40 1 Q2Z (.slice p hs.length c) hs,Q1x 45 2 j.2.1]) (List.replicate 64 (none:Cel),0) ⟨Nat.zero_le _,by simp⟩ [13,12,126,11,76,9,46,6,5,19,3,2,0] Z (asK [] Z) Z (fun s8 aH=>(Q6 (Q6 (Q3 (wP Z (wP Z (Q2 (Q4 (Q5 [131,13,12,126,11,76,9,46,6,5,19,3,2,0] (S':=V14 ..) Z ?_)))))))))))))
 refine Qv Z (fun aA=>?_) (fun aA=>?_)
 replace aA:=of_decide_eq_true aA
 refine Qt (Q4 (Q6 (Qn (Q3 (wP Z (wP Z (wP Z (wP Z (wN Z Q6y (wP Z (Qx (d:=139) (v':=.int .i64 ((j.2.2 + hs.length:Nat):Int)) (S':=V19 ..) Z Z (Q1f (a:=j.2.2) (b:=hs.length) (by omega)) (wP Z (wC [] [0,1,2,3] Z fn_49 Z (Q6i ((j.2.2 + hs.length:Nat):Int) ((s8.2:Nat):Int)) (asK [] Z) Z (H':=V4 ..) Z ?_)))))))))))))
 rintro _ _ _ ⟨rfl,rfl,rfl⟩
 refine Q6C 0 s8.2 Z Z Z Zq Z Z Z Z Z (by rw [aH.2]; omega) QG Qg (Q10 (u:=some ([.int .i64 (Q34 ((j.2.2 + hs.length:Nat):Int) ((s8.2:Nat):Int)),V1] : List Value)) 0 s8.2 Z Z Z Z Z (by rw [aH.2]; omega) Z Z Qg Z (fun _ _ _=>cel_some Z) (H':=V4 ..) Z (Q2 (Qi (Q4 (Q3 (wP Z (wP Z (Qx (d:=133) (v':=.int .i64 ((s8.2 + 1:Nat):Int)) (S':=V24 ..) Z Z (Q1f (a:=s8.2) (b:=1) (by omega)) (QM (S':=V24 ..) Z Z Z Z Z (Q2 ?_))))))))))
 refine Q3g (s8.1.set s8.2 (some ([.int .i64 (Q34 ((j.2.2 + hs.length:Nat):Int) ((s8.2:Nat):Int)),V1] : List Value)),s8.2 + 1) (by show 64 - (s8.2 + 1) < _; omega) ⟨by show s8.2 + 1 ≤ 64; omega,by show (List.set _ _ _).length = 64; rw [List.length_set]; exact aH.2⟩ [13,12,126,11,76,9,46,6,5,19,3,2,0] Z (asK [] Z) Z
 replace aA:=of_decide_eq_false aA
 refine Q19 (Qc (Qc (Qu (Q4 (Q3 (wP Z (wP Z (wP Z (wP Z (Q24 2 j.2.2 Z Z Z Zq Z Z Z Z Z b1 Q6y Q1O (fun cB bE=>?_)))))))))))
 subst bE
 refine Qk Q2w 2 j.2.2 0 Z Z Z Zq Z Z Z b2 Q1O Q2I (v:=fun _=>.slice y7.1 y7.2.1 y7.2.2) (fun _=>Z) (fun _=>Z) (fun _ _=>(wP Z (Q1t [_,_,_,Q1x 45 2 (j.2.1.set j.2.2 ⟨r7.h,r7.l,r7.h,r7.l⟩)] (fun _ h=>h.flReset 3 j.2.2 Z bD) (wl_flAppO 3 j.2.2 0 Z Z Z Zq Z Z (set_eqT _ bD) (by show _ = some (hdv r7.h); rw [c4]; rfl) Z Z aH.2 (by decide) QG Q8i Z Z (by show r7.l.length + _ ≤ _; rw [bX,Q2y]; omega) (by show (r7.l.length + _) * _ ≤ _; rw [bX,Q2y]; omega) (H2:=fun a4=>[_,_,_,Q1x 45 2 ((j.2.1.set j.2.2 ⟨r7.h,r7.l,r7.h,r7.l⟩).set j.2.2 ⟨r7.h,r7.l,a4,r7.l ++ s8.1⟩)]) (fun _=>Z) (fun a4=>(Q2J 0 Z (H':=V3 ..) Z (Q6C 0 j.2.2 Z Z Z Zq Z Z Z Z Z (by rw [a3.2.2.1]; exact b1) Q6y Q1O (Q10 (u:=a4) 0 j.2.2 Z Z Z Z Z (by rw [a3.2.2.1]; exact b1) Z Z Q1O Z (fun _ _ _=>Z) (H':=V3 ..) Z (Q2 (Qi (Q4 (Q3 (wP Z (wP Z (Qx (d:=128) (v':=.int .i64 ((j.2.2 + 1:Nat):Int)) (S':=V24 ..) Z Z (Q1f (a:=j.2.2) (b:=1) (by omega)) ?_)))))))))))))))
 refine QM (S':=V24 ..) Z Z Z Z Z (Q2 ?_)
 refine Q3g (j.1.set j.2.2 a4,(j.2.1.set j.2.2 ⟨r7.h,r7.l,r7.h,r7.l⟩).set j.2.2 ⟨r7.h,r7.l,a4,r7.l ++ s8.1⟩,j.2.2 + 1) (by show hs.length - (j.2.2 + 1) < _; omega) ⟨by show j.2.2 + 1 ≤ _; omega,a3.2.app b2 bD _ _⟩ [11,76,9,46,6,5,19,3,2,0] Z (asK [] Z) Z
 replace a9:=of_decide_eq_false a9
 refine Q19 (Qc (Qc (Qu (Q4 (Q6 (Q6 (Q3 (wP Z (Q2 (Q4 (Qn (Q1b (σ:=Nat) (fun s=>s ≤ hs.length) (fun s=>hs.length - s) (fun s=>[(14,.int .i64 ((s:Nat):Int)),(126,.bool (decide (((j.2.2:Nat):Int) < ((hs.length:Nat):Int)))),(11,.int .i64 ((j.2.2:Nat):Int)),(76,.bool (decide (((q:Nat):Int) < ((hs.length:Nat):Int)))),(9,.int .i64 ((q:Nat):Int)),(46,.bool (decide (((f.2.2:Nat):Int) < ((hs.length:Nat):Int)))),(6,.int .i64 ((f.2.2:Nat):Int)),(5,.slice (some ⟨a0,0,none⟩) hs.length hs.length),(19,.bool (decide (((o.2:Nat):Int) < ((hs.length:Nat):Int)))),(3,.int .i64 ((o.2:Nat):Int)),(2,.bool false),(0,.slice p hs.length c)]) (fun s=>[]) (fun s=>[.own 40 1 Q2Z (.slice (some ⟨a0,0,none⟩) hs.length hs.length) j.1,.own 40 1 Q2Z (.slice p hs.length c) hs,Q1x 45 2 j.2.1]) 0 (Nat.zero_le _) [14,126,11,76,9,46,6,5,19,3,2,0] Z (asK [] Z) Z (fun s9 cC=>(Q6 ?_))))))))))))))
 refine Q6 (Q3 (wP Z (wP Z (wN Z Q6y (wP Z (Q2 (Q4 (Q5 [155,14,126,11,76,9,46,6,5,19,3,2,0] (S':=V13 ..) Z ?_))))))))
 refine Qv Z (fun aB=>?_) (fun aB=>?_)
 replace aB:=of_decide_eq_true aB
 have b3:s9 < hs.length:=by omega
 obtain ⟨y9,b4⟩ : ∃ y,hs[s9]? = some y:=⟨_,List.getElem?_eq_getElem b3⟩
 have hB9:y9.2.1 ≤ 1073741824:=hb _ (List.mem_of_getElem? b4)
 obtain ⟨r9,aY,bY,bF,c5,t9,bZ⟩:=a3.2.look (by omega) b4
 refine wc_flLen 2 Z aY (fun hA9 hC9=>?_)
 rw [bF,Q2y] at hA9
 have hE9:=hC9
 rw [bZ,List.length_append,Q2y] at hE9
 refine Qt (Q4 (Q6 (Qn (Q6 (Q3 (wP Z (Q2 (Q4 (Qn (Q1b (σ:=Nat) (fun s=>s ≤ y9.2.1) (fun s=>y9.2.1 - s) (fun s=>[(15,.int .i64 ((s:Nat):Int)),(155,.bool (decide (((s9:Nat):Int) < ((hs.length:Nat):Int)))),(14,.int .i64 ((s9:Nat):Int)),(126,.bool (decide (((j.2.2:Nat):Int) < ((hs.length:Nat):Int)))),(11,.int .i64 ((j.2.2:Nat):Int)),(76,.bool (decide (((q:Nat):Int) < ((hs.length:Nat):Int)))),(9,.int .i64 ((q:Nat):Int)),(46,.bool (decide (((f.2.2:Nat):Int) < ((hs.length:Nat):Int)))),(6,.int .i64 ((f.2.2:Nat):Int)),(5,.slice (some ⟨a0,0,none⟩) hs.length hs.length),(19,.bool (decide (((o.2:Nat):Int) < ((hs.length:Nat):Int)))),(3,.int .i64 ((o.2:Nat):Int)),(2,.bool false),(0,.slice p hs.length c)]) (fun s=>[]) (fun s=>[.own 40 1 Q2Z (.slice (some ⟨a0,0,none⟩) hs.length hs.length) j.1,.own 40 1 Q2Z (.slice p hs.length c) hs,Q1x 45 2 j.2.1]) 0 (Nat.zero_le _) [15,155,14,126,11,76,9,46,6,5,19,3,2,0] Z (asK [] Z) Z (fun z c6=>(Q6 (Q6 (Q3 ?_))))))))))))))
 refine wP Z (wP Z (wP Z (Q24 1 s9 Z Z Z Zq Z Z Z Z Z b3 Q6y Q1O (fun cD bG=>?_))))
 subst bG
 refine Qk Q2w 1 s9 0 Z Z Z Zq Z Z Z b4 Q1O Q2I (v:=fun _=>.slice y9.1 y9.2.1 y9.2.2) (fun _=>Z) (fun _=>Z) (fun _ _=>(wN Z QG (wP Z (Q2 (Q4 (Q5 [164,15,155,14,126,11,76,9,46,6,5,19,3,2,0] (S':=V15 ..) Z ?_))))))
 refine Qv Z (fun aC=>?_) (fun aC=>?_)
 replace aC:=of_decide_eq_true aC
 refine Qt (Q4 (Q6 (Qn (Q6 (QV [0,1,2,3,4,5,6,7,8,11,12,13,14,15,16,17,18,19,20,21,24,25] Z Z (fun hok=>(xP hok 0 Z (xP hok 1 Z (QS hok 2 1 s9 Z Z Z Zq Z Z Z Z Z Z b3 Q6y Q1O (Q2v hok 3 Q2w 1 s9 0 Z Z Z Zq Z Z Z Z b4 Q1O Q2I (v:=.slice y9.1 y9.2.1 y9.2.2) Z Z (fun _=>(xP hok 4 Z (Q9e hok 5 (p:=y9.1) (m:=y9.2.1) (cp:=y9.2.2) 2 s9 z Z Z Z Zq Z Z Z aY bY Z Z Z (by omega) (by rw [bF,Q2y]) QG Qg (fun cE bH=>(Qaq hok 6 2 s9 z Z Z Z Zq Z Z Z aY (hdr_eq bY bH) Z (cs:=Q2s s9 z) (by rw [bF]; exact Q8C (by omega)) Qg QT Z (v:=.agg #[.int .i64 (Q34 ((s9:Nat):Int) ((z:Nat):Int)),V1]) Z (xP hok 7 Z ?_))))))))))))))))
 refine xP hok 8 Z (xS hok 9 Z (wC [] [0,1,2] Z fn_49 Z (Q6i ((s9:Nat):Int) ((z:Nat):Int)) (asK [] Z) Z (H':=V3 ..) Z ?_))
 rintro _ _ _ ⟨rfl,rfl,rfl⟩
 refine Q2 (Qs [] [2,1] Z Z (xS hok 10 Z (wC [] [0,1,2] Z fn_13 Z (Q3W 2 (Q34 ((s9:Nat):Int) ((z:Nat):Int)) (Q34 ((s9:Nat):Int) ((z:Nat):Int)) _ (Q96 _)) (asK [] Z) Z (H':=V3 ..) Z ?_)))
 rintro _ _ _ ⟨rfl,rfl,rfl⟩
 refine Q2 (Qs [] [1] Z Z (xP hok 11 Z (xP hok 12 Z (xP hok 13 Z (xP hok 14 Z (QS hok 15 0 s9 Z Z Z Zq Z Z Z Z Z Z (by rw [a3.2.2.1]; exact b3) Q6y Q1O (Q2v hok 16 Q2w 0 s9 0 Z Z Z Zq Z Z Z Z c5 Q1O Q2I (v:=.slice r9.g.1 r9.g.2.1 r9.g.2.2) Z Z (fun _=>(xP hok 17 Z (QaI hok 18 (p:=r9.g.1) (m:=r9.g.2.1) (cp:=r9.g.2.2) 2 s9 z Z Z Z Zq Z Z Z aY Z Z Z Z (by omega) hC9.symm QG Qg (fun cF bI=>(Qap hok 19 2 s9 z Z Z Z Zq Z Z Z aY (hdr_eqG bI) Z (cs:=Q2s s9 z) (by rw [bZ]; exact app_at (by omega)) Qg QT Z (v:=.agg #[.int .i64 (Q34 ((s9:Nat):Int) ((z:Nat):Int)),V1]) Z (xP hok 20 Z (xP hok 21 Z (xS hok 22 Z ?_)))))))))))))))
 refine wC [] [0,1,2] Z fn_49 Z (Q6i ((s9:Nat):Int) ((z:Nat):Int)) (asK [] Z) Z (H':=V3 ..) Z ?_
 rintro _ _ _ ⟨rfl,rfl,rfl⟩
 refine Q2 (Qs [] [2,0,2,1] Z Z (xS hok 23 Z (wC [] [0,1,2] Z fn_13 Z (Q3W 2 (Q34 ((s9:Nat):Int) ((z:Nat):Int)) (Q34 ((s9:Nat):Int) ((z:Nat):Int)) _ (Q96 _)) (asK [] Z) Z (H':=V3 ..) Z ?_)))
 rintro _ _ _ ⟨rfl,rfl,rfl⟩
 refine Q2 (Qs [] [0,2,1] Z Z (xP hok 24 Z (xP hok 25 Z (QI hok Z (Q4 (Q5 [192,164,15,155,14,126,11,76,9,46,6,5,19,3,2,0] (S':=V16 ..) Z (Q2X Z (Qt (Qi (Q4 (Q3 (wP Z (wP Z ?_)))))))))))))
 refine Qx (d:=166) (v':=.int .i64 ((z + 1:Nat):Int)) (S':=V17 ..) Z Z (Q1f (a:=z) (b:=1) (by omega)) (QM (S':=V17 ..) Z Z Z Z Z (Q2 ?_))
 refine Q3g (z + 1) (by omega) (by omega) [15,155,14,126,11,76,9,46,6,5,19,3,2,0] Z (asK [] Z) Z
 replace aC:=of_decide_eq_false aC
 refine Q19 (Qc (Qc (Qu (Qi (Q4 (Q3 (wP Z (wP Z (Qx (d:=157) (v':=.int .i64 ((s9 + 1:Nat):Int)) (S':=V16 ..) Z Z (Q1f (a:=s9) (b:=1) (by omega)) (QM (S':=V16 ..) Z Z Z Z Z (Q2 ?_)))))))))))
 refine Q3g (s9 + 1) (by omega) (by omega) [14,126,11,76,9,46,6,5,19,3,2,0] Z (asK [] Z) Z
 replace aB:=of_decide_eq_false aB
 refine Q19 (Qc (Qc (Qu (Q4 (Q6 (Q3 (QM (S':=V12 ..) Z Z Z Z Z (Q2 (Q4 (QJ (QA (Hr:=[Q1x 45 2 j.2.1]) [2] Tryz.results74 (Qy Z) ?_ (asK [] Z) Z Z (.inl Z))))))))))))
 exact ⟨_,a3.2.left,Z,Z,Z⟩
theorem ap_apart (g:Nat) (p2:OA) (z:Nat) (o:List Hdr) (q:OA) (s:Nat) (f:List Hdr) (hL2:o.length ≤ 1073741824) (hB2:Bd o) (hL17:f.length ≤ 1073741824) (hB17:Bd f):Q1z Tryz.prog 37 [.pointer (some ⟨g,0,none⟩)] [] [.blk g [V1,V1,.slice p2 o.length z,V1,V1,V1,V1,V1,V1,V1,V1,V1,V1,V1,V1,V1,V1,.slice q f.length s,V1,V1,V1,V1,V1,V1,V1,V1,V1,V1,V1] 106,.own 22 1 Q2Z (.slice p2 o.length z) o,Q1x 3 1 (o.map Q58),.own 40 1 Q2Z (.slice q f.length s) f,Q1x 45 2 (f.map Q58)] (fun v Φr Hr=>∃ (y:List Q7k) (j:List Q7k),FlE o Q5Z y ∧ FlE f Q2s j ∧ v = .bool true ∧ Φr = [] ∧ Hr = [Q1x 3 1 y,Q1x 45 2 j]):=by
 refine Q12 Tryz.func37 Z Tryz.ntmps37 Z (S:=[_]) Z (fun C=>(Q6 (Q3 (wP Z (Q2 (Q4 (Q6 (Q3 (wP Z (wP Z (wF Z tF_106_0 (wD 0 0 Z tS_78 tA_78 Z (wC [] [0,1,2,3,4] Z fn_57 Z (Q2D Tryz.func57 Z Tryz.ntmps57 Tryz.results57 Z (by kernel_rfl)) (asK [] Z) Z (H':=V5 ..) Z ?_)))))))))))))
 rintro _ _ _ ⟨rfl,rfl,rfl⟩
 refine wP Z (wP Z (wP Z (wF Z tF_106_1 (wD 0 1 Z tS_79 tA_79 Z (wC [] [0,1,2,3,4] Z fn_58 Z (Q2D Tryz.func58 Z Tryz.ntmps58 Tryz.results58 Z (by kernel_rfl)) (asK [] Z) Z (H':=V5 ..) Z ?_)))))
 rintro _ _ _ ⟨rfl,rfl,rfl⟩
 refine wP Z (wP Z (wP Z (wP Z (wF Z tF_106_2 (wD 0 2 Z tS_54 tA_54 Z (wC [1,2] [0,3,4] Z fn_59 Z (fl_flatInts p2 z o hL2 hB2) (asK [] Z) Z (H':=V3 ..) Z ?_))))))
 rintro _ _ _ ⟨y,hE2,rfl,rfl,rfl⟩
 refine wP Z (wP Z (wP Z (wP Z (wF Z tF_106_3 (wD 1 3 Z tS_80 tA_80 Z (wC [] [0,1,2,3] Z fn_60 Z (Q2D Tryz.func60 Z Tryz.ntmps60 Tryz.results60 Z (by kernel_rfl)) (asK [] Z) Z (H':=V4 ..) Z ?_))))))
 rintro _ _ _ ⟨rfl,rfl,rfl⟩
 refine wP Z (wP Z (wP Z (wP Z (wF Z tF_106_4 (wD 1 4 Z tS_81 tA_81 Z (wC [] [0,1,2,3] Z fn_61 Z (Q2D Tryz.func61 Z Tryz.ntmps61 Tryz.results61 Z (by kernel_rfl)) (asK [] Z) Z (H':=V4 ..) Z ?_))))))
 rintro _ _ _ ⟨rfl,rfl,rfl⟩
 refine wP Z (wP Z (wP Z (wP Z (wF Z tF_106_5 (wD 1 5 Z tS_82 tA_82 Z (wC [] [0,1,2,3] Z fn_62 Z (Q2D Tryz.func62 Z Tryz.ntmps62 Tryz.results62 Z (by kernel_rfl)) (asK [] Z) Z (H':=V4 ..) Z ?_))))))
 rintro _ _ _ ⟨rfl,rfl,rfl⟩
 refine wP Z (wP Z (wP Z (wP Z (wF Z tF_106_6 (wD 1 6 Z tS_83 tA_83 Z (wC [] [0,1,2,3] Z fn_63 Z (Q2D Tryz.func63 Z Tryz.ntmps63 Tryz.results63 Z (by kernel_rfl)) (asK [] Z) Z (H':=V4 ..) Z ?_))))))
 rintro _ _ _ ⟨rfl,rfl,rfl⟩
 refine wP Z (wP Z (wP Z (wP Z (wF Z tF_106_7 (wD 1 7 Z tS_84 tA_84 Z (wC [] [0,1,2,3] Z fn_64 Z (Q2D Tryz.func64 Z Tryz.ntmps64 Tryz.results64 Z (by kernel_rfl)) (asK [] Z) Z (H':=V4 ..) Z ?_))))))
 rintro _ _ _ ⟨rfl,rfl,rfl⟩
 refine wP Z (wP Z (wP Z (wP Z (wF Z tF_106_8 (wD 1 8 Z tS_85 tA_85 Z (wC [] [0,1,2,3] Z fn_65 Z (Q2D Tryz.func65 Z Tryz.ntmps65 Tryz.results65 Z (by kernel_rfl)) (asK [] Z) Z (H':=V4 ..) Z ?_))))))
 rintro _ _ _ ⟨rfl,rfl,rfl⟩
 refine wP Z (wP Z (wP Z (wP Z (wF Z tF_106_9 (wD 1 9 Z tS_86 tA_86 Z (wC [] [0,1,2,3] Z fn_66 Z (Q2D Tryz.func66 Z Tryz.ntmps66 Tryz.results66 Z (by kernel_rfl)) (asK [] Z) Z (H':=V4 ..) Z ?_))))))
 rintro _ _ _ ⟨rfl,rfl,rfl⟩
 refine wP Z (wP Z (wP Z (wP Z (wF Z tF_106_10 (wD 1 10 Z tS_87 tA_87 Z (wC [] [0,1,2,3] Z fn_67 Z (Q2D Tryz.func67 Z Tryz.ntmps67 Tryz.results67 Z (by kernel_rfl)) (asK [] Z) Z (H':=V4 ..) Z ?_))))))
 rintro _ _ _ ⟨rfl,rfl,rfl⟩
 refine wP Z (wP Z (wP Z (wP Z (wF Z tF_106_11 (wD 1 11 Z tS_88 tA_88 Z (wC [] [0,1,2,3] Z fn_68 Z (Q2D Tryz.func68 Z Tryz.ntmps68 Tryz.results68 Z (by kernel_rfl)) (asK [] Z) Z (H':=V4 ..) Z ?_))))))
 rintro _ _ _ ⟨rfl,rfl,rfl⟩
 refine wP Z (wP Z (wP Z (wP Z (wF Z tF_106_12 (wD 1 12 Z tS_89 tA_89 Z (wC [] [0,1,2,3] Z fn_69 Z (Q2D Tryz.func69 Z Tryz.ntmps69 Tryz.results69 Z (by kernel_rfl)) (asK [] Z) Z (H':=V4 ..) Z ?_))))))
 rintro _ _ _ ⟨rfl,rfl,rfl⟩
 refine wP Z (wP Z (wP Z (wP Z (wF Z tF_106_13 (wD 1 13 Z tS_90 tA_90 Z (wC [] [0,1,2,3] Z fn_70 Z (Q2D Tryz.func70 Z Tryz.ntmps70 Tryz.results70 Z (by kernel_rfl)) (asK [] Z) Z (H':=V4 ..) Z ?_))))))
 rintro _ _ _ ⟨rfl,rfl,rfl⟩
 refine wP Z (wP Z (wP Z (wP Z (wF Z tF_106_14 (wD 1 14 Z tS_91 tA_91 Z (wC [] [0,1,2,3] Z fn_71 Z (Q2D Tryz.func71 Z Tryz.ntmps71 Tryz.results71 Z (by kernel_rfl)) (asK [] Z) Z (H':=V4 ..) Z ?_))))))
 rintro _ _ _ ⟨rfl,rfl,rfl⟩
 refine wP Z (wP Z (wP Z (wP Z (wF Z tF_106_15 (wD 1 15 Z tS_92 tA_92 Z (wC [] [0,1,2,3] Z fn_72 Z (Q2D Tryz.func72 Z Tryz.ntmps72 Tryz.results72 Z (by kernel_rfl)) (asK [] Z) Z (H':=V4 ..) Z ?_))))))
 rintro _ _ _ ⟨rfl,rfl,rfl⟩
 refine wP Z (wP Z (wP Z (wP Z (wF Z tF_106_16 (wD 1 16 Z tS_93 tA_93 Z (wC [] [0,1,2,3] Z fn_73 Z (Q2D Tryz.func73 Z Tryz.ntmps73 Tryz.results73 Z (by kernel_rfl)) (asK [] Z) Z (H':=V4 ..) Z ?_))))))
 rintro _ _ _ ⟨rfl,rfl,rfl⟩
 refine wP Z (wP Z (wP Z (wP Z (wF Z tF_106_17 (wD 1 17 Z tS_52 tA_52 Z (wC [2,3] [0,1] Z fn_74 Z (fl_flatTokens q s f hL17 hB17) (asK [] Z) Z (H':=[_,_]) Z ?_))))))
 rintro _ _ _ ⟨j,hE17,rfl,rfl,rfl⟩
 refine wP Z (wP Z (wP Z (wP Z (wF Z tF_106_18 (wD 2 18 Z tS_94 tA_94 Z (wC [] [0,1,2] Z fn_75 Z (Q2D Tryz.func75 Z Tryz.ntmps75 Tryz.results75 Z (by kernel_rfl)) (asK [] Z) Z (H':=V3 ..) Z ?_))))))
 rintro _ _ _ ⟨rfl,rfl,rfl⟩
 refine wP Z (wP Z (wP Z (wP Z (wF Z tF_106_19 (wD 2 19 Z tS_95 tA_95 Z (wC [] [0,1,2] Z fn_76 Z (Q2D Tryz.func76 Z Tryz.ntmps76 Tryz.results76 Z (by kernel_rfl)) (asK [] Z) Z (H':=V3 ..) Z ?_))))))
 rintro _ _ _ ⟨rfl,rfl,rfl⟩
 refine wP Z (wP Z (wP Z (wP Z (wF Z tF_106_20 (wD 2 20 Z tS_96 tA_96 Z (wC [] [0,1,2] Z fn_77 Z (Q2D Tryz.func77 Z Tryz.ntmps77 Tryz.results77 Z (by kernel_rfl)) (asK [] Z) Z (H':=V3 ..) Z ?_))))))
 rintro _ _ _ ⟨rfl,rfl,rfl⟩
 refine wP Z (wP Z (wP Z (wP Z (wF Z tF_106_21 (wD 2 21 Z tS_97 tA_97 Z (wC [] [0,1,2] Z fn_78 Z (Q2D Tryz.func78 Z Tryz.ntmps78 Tryz.results78 Z (by kernel_rfl)) (asK [] Z) Z (H':=V3 ..) Z ?_))))))
 rintro _ _ _ ⟨rfl,rfl,rfl⟩
 refine wP Z (wP Z (wP Z (wP Z (wF Z tF_106_22 (wD 2 22 Z tS_98 tA_98 Z (wC [] [0,1,2] Z fn_79 Z (Q2D Tryz.func79 Z Tryz.ntmps79 Tryz.results79 Z (by kernel_rfl)) (asK [] Z) Z (H':=V3 ..) Z ?_))))))
 rintro _ _ _ ⟨rfl,rfl,rfl⟩
 refine wP Z (wP Z (wP Z (wP Z (wF Z tF_106_23 (wD 2 23 Z tS_99 tA_99 Z (wC [] [0,1,2] Z fn_80 Z (Q2D Tryz.func80 Z Tryz.ntmps80 Tryz.results80 Z (by kernel_rfl)) (asK [] Z) Z (H':=V3 ..) Z ?_))))))
 rintro _ _ _ ⟨rfl,rfl,rfl⟩
 refine wP Z (wP Z (wP Z (wP Z (wF Z tF_106_24 (wD 2 24 Z tS_100 tA_100 Z (wC [] [0,1,2] Z fn_81 Z (Q2D Tryz.func81 Z Tryz.ntmps81 Tryz.results81 Z (by kernel_rfl)) (asK [] Z) Z (H':=V3 ..) Z ?_))))))
 rintro _ _ _ ⟨rfl,rfl,rfl⟩
 refine wP Z (wP Z (wP Z (wP Z (wF Z tF_106_25 (wD 2 25 Z tS_101 tA_101 Z (wC [] [0,1,2] Z fn_82 Z (Q2D Tryz.func82 Z Tryz.ntmps82 Tryz.results82 Z (by kernel_rfl)) (asK [] Z) Z (H':=V3 ..) Z ?_))))))
 rintro _ _ _ ⟨rfl,rfl,rfl⟩
 refine wP Z (wP Z (wP Z (wP Z (wF Z tF_106_26 (wD 2 26 Z tS_102 tA_102 Z (wC [] [0,1,2] Z fn_83 Z (Q2D Tryz.func83 Z Tryz.ntmps83 Tryz.results83 Z (by kernel_rfl)) (asK [] Z) Z (H':=V3 ..) Z ?_))))))
 rintro _ _ _ ⟨rfl,rfl,rfl⟩
 refine wP Z (wP Z (wP Z (wP Z (wF Z tF_106_27 (wD 2 27 Z tS_103 tA_103 Z (wC [] [0,1,2] Z fn_84 Z (Q2D Tryz.func84 Z Tryz.ntmps84 Tryz.results84 Z (by kernel_rfl)) (asK [] Z) Z (H':=V3 ..) Z ?_))))))
 rintro _ _ _ ⟨rfl,rfl,rfl⟩
 refine wP Z (wP Z (wP Z (wP Z (wF Z tF_106_28 (wD 2 28 Z tS_104 tA_104 Z (wC [] [0,1,2] Z fn_85 Z (Q2D Tryz.func85 Z Tryz.ntmps85 Tryz.results85 Z (by kernel_rfl)) (asK [] Z) Z (H':=V3 ..) Z ?_))))))
 rintro _ _ _ ⟨rfl,rfl,rfl⟩
 refine wP Z (QM (S':=V202 ..) Z Z Z Z Z (Q2 (Q4 (Q5 [2,0] (S':=[_,_]) Z (QJ (QA (Hr:=[Q1x 3 1 y,Q1x 45 2 j]) [1,0] Tryz.results37 (Qy Z) ?_ (asK [] Z) Z Z (.inl Z)))))))
 exact ⟨_,_,hE2,hE17,Z,Z,Z⟩
theorem ap_ApartTokens (p:OA) (n c:Nat) (zs:List ((List Q1) × (OA × Nat))) (hzn:n = zs.length) (aM:zs.length ≤ 8) (hx : ∀ z ∈ zs,z.1.length ≤ 10000 ∧ ∀ y ∈ z.1,Q79 y):Q1z Tryz.prog 17 [.slice p n c] [] [.own 40 1 Q1H.pair (.slice p n c) zs,Q1w Q1H (zs.drop 0) none] (fun v Φr Hr=>∃ (r2:List Q7k) (a5:List Q7k),v = .bool true ∧ Φr = [] ∧ Hr = [Q1x 3 1 r2,Q1x 45 2 a5]):=by
 subst hzn
 refine Q12 Tryz.func17 Z Tryz.ntmps17 Z (S:=[_]) Z (fun C=>(Q6 (Q3 (wP Z (Q2 (Q4 (Q6 (Q3 (Q3h Z Z Z Zq Z tZ_106 tP_106 Z (out:=V29 ..) Z (wB Z (fun g6=>(wP Z (Q2 (Q4 (Q5 [3,2,0] (S':=V3 ..) Z ?_)))))))))))))))
 refine Q6 (Q6 (Q3 (wP Z (Q2 (Q4 (Qn (Q77 [Q1x 45 2 [],.blk g6 [V1,V1,V1,V1,V1,V1,V1,V1,V1,V1,V1,V1,V1,V1,V1,V1,V1,V1,V1,V1,V1,V1,V1,V1,V1,V1,V1,V1,V1] 106,.own 40 1 Q1H.pair (.slice p zs.length c) zs,Q1w Q1H (zs.drop 0) none] (fun _ h=>h.flNil 45 2) (Q3K 40 1 Q2Z (Q77 [Q1x 3 1 [],.own 40 1 Q2Z (V1) [],Q1x 45 2 [],.blk g6 [V1,V1,V1,V1,V1,V1,V1,V1,V1,V1,V1,V1,V1,V1,V1,V1,V1,V1,V1,V1,V1,V1,V1,V1,V1,V1,V1,V1,V1] 106,.own 40 1 Q1H.pair (.slice p zs.length c) zs,Q1w Q1H (zs.drop 0) none] (fun _ h=>h.flNil 3 1) (Q3K 22 1 Q2Z (Q1b (σ:=OA × Nat × List Hdr × OA × Nat × List Hdr × Nat) (fun s=>s.2.2.2.2.2.2 ≤ zs.length ∧ s.2.2.1.length ≤ s.2.2.2.2.2.2 * 10000 ∧ Bd s.2.2.1 ∧ s.2.2.2.2.2.1.length ≤ s.2.2.2.2.2.2 * 1 ∧ Bd s.2.2.2.2.2.1) (fun s=>zs.length - s.2.2.2.2.2.2) (fun s=>[(4,.int .i64 ((s.2.2.2.2.2.2:Nat):Int)),(3,.pointer (some ⟨g6,0,none⟩)),(2,.bool false),(0,.slice p zs.length c)]) (fun s=>[]) (fun s=>[.own 22 1 Q2Z (.slice s.1 s.2.2.1.length s.2.1) s.2.2.1,Q1x 3 1 (s.2.2.1.map Q58),.own 40 1 Q2Z (.slice s.2.2.2.1 s.2.2.2.2.2.1.length s.2.2.2.2.1) s.2.2.2.2.2.1,Q1x 45 2 (s.2.2.2.2.2.1.map Q58),.blk g6 [V1,V1,.slice s.1 s.2.2.1.length s.2.1,V1,V1,V1,V1,V1,V1,V1,V1,V1,V1,V1,V1,V1,V1,.slice s.2.2.2.1 s.2.2.2.2.2.1.length s.2.2.2.2.1,V1,V1,V1,V1,V1,V1,V1,V1,V1,V1,V1] 106,.own 40 1 Q1H.pair (.slice p zs.length c) zs,Q1w Q1H (zs.drop s.2.2.2.2.2.2) none]) (none,0,[],none,0,[],0) ⟨Nat.zero_le _,Nat.zero_le _,Bd.nil,Nat.zero_le _,Bd.nil⟩ [4,3,2,0] Z (asK [] Z) Z (fun f a3=>(Q6 (Q6 ?_))))))))))))))
 refine Q3 (wP Z (wP Z (wN Z Q6y (wP Z (Q2 (Q4 (Q5 [10,4,3,2,0] (S':=V5 ..) Z ?_)))))))
 refine Qv Z (fun j=>?_) (fun j=>?_)
 replace j:=of_decide_eq_true j
 obtain ⟨aJ,aK,a6,aD,o⟩:=a3
 have aE:f.2.2.2.2.2.2 < zs.length:=by omega
 obtain ⟨q,a7⟩ : ∃ z,zs[f.2.2.2.2.2.2]? = some z:=⟨_,List.getElem?_eq_getElem aE⟩
 have hxs:=hx q (List.mem_of_getElem? a7)
 refine Qt (Q4 (Q6 (Qn (Q3 (wP Z (wP Z (wP Z (Q24 5 f.2.2.2.2.2.2 Z Z Z Zq Z Z Z Z Z aE Q6y Q1O (fun aL aF=>?_)))))))))
 subst aF
 refine Qk Q7Z 5 f.2.2.2.2.2.2 0 Z Z Z Zq Z Z Z a7 Q1O Q2I (v:=fun _=>.slice q.2.1 q.1.length q.2.2) (fun _=>Z) (fun _=>Z) (fun _ _=>(Q1t [Q1e Qa 45 2 (.slice q.2.1 q.1.length q.2.2) q.1,.own 22 1 Q2Z (.slice f.1 f.2.2.1.length f.2.1) f.2.2.1,Q1x 3 1 (f.2.2.1.map Q58),.own 40 1 Q2Z (.slice f.2.2.2.1 f.2.2.2.2.2.1.length f.2.2.2.2.1) f.2.2.2.2.2.1,Q1x 45 2 (f.2.2.2.2.2.1.map Q58),.blk g6 [V1,V1,.slice f.1 f.2.2.1.length f.2.1,V1,V1,V1,V1,V1,V1,V1,V1,V1,V1,V1,V1,V1,V1,.slice f.2.2.2.1 f.2.2.2.2.2.1.length f.2.2.2.2.1,V1,V1,V1,V1,V1,V1,V1,V1,V1,V1,V1] 106,.own 40 1 Q1H.pair (.slice (some ⟨aL,0,none⟩) zs.length c) zs,Q1w Q1H (zs.drop (f.2.2.2.2.2.2 + 1)) none] (fun _ h=>h.bagUncons 6 Z a7) (wC [5,1,2,3,4,0] [6,7] Z fn_36 Z (ap_putTokens _ f.1 f.2.1 f.2.2.1 f.2.2.2.1 f.2.2.2.2.1 f.2.2.2.2.2.1 q.2.1 q.2.2 q.1 (by omega) a6 (by omega) o hxs.1 hxs.2) (asK [] Z) Z (H':=[_,_]) Z ?_)))
 rintro _ _ _ ⟨aG,aH,a4,a8,a9,a0,aA,aB,a1,a2,rfl,rfl,rfl⟩
 refine Q2 (Qi (Q4 (Q3 (wP Z (wP Z (Qx (d:=12) (v':=.int .i64 ((f.2.2.2.2.2.2 + 1:Nat):Int)) (S':=V12 ..) Z Z (Q1f (a:=f.2.2.2.2.2.2) (b:=1) (by omega)) (QM (S':=V12 ..) Z Z Z Z Z (Q2 (Q17 [1,2,3,4,0,5,6] Z (H':=V7 ..) Z ?_)))))))))
 refine Q3g (aG,aH,a4,a8,a9,a0,f.2.2.2.2.2.2 + 1) (by show zs.length - (f.2.2.2.2.2.2 + 1) < zs.length - f.2.2.2.2.2.2; omega) ⟨by show f.2.2.2.2.2.2 + 1 ≤ _; omega,by have:=aA; show List.length (a4) ≤ (f.2.2.2.2.2.2 + 1) * _; omega,aB,by have:=a1; show List.length (a0) ≤ (f.2.2.2.2.2.2 + 1) * _; omega,a2⟩ [4,3,2,0] Z (asK [] Z) Z
 replace j:=of_decide_eq_false j
 obtain ⟨aJ,aK,a6,aD,o⟩:=a3
 refine Q19 (Qc (Qc (Qu (Q4 (Q6 (Q3 (wP Z (wC [4,0,1,2,3] [5,6] Z fn_37 Z (ap_apart _ f.1 f.2.1 f.2.2.1 f.2.2.2.1 f.2.2.2.2.1 f.2.2.2.2.2.1 (by omega) a6 (by omega) o) (asK [] Z) Z (H':=[_,_]) Z ?_))))))))
 rintro _ _ _ ⟨r2,a5,hE2,hE17,rfl,rfl,rfl⟩
 refine QM (S':=V6 ..) Z Z Z Z Z (Q2 (Q4 (Q5 [2,10,4,3,0] (S':=V5 ..) Z (QJ (QA (Hr:=[Q1x 3 1 r2,Q1x 45 2 a5]) [0,1] Tryz.results17 (Qy Z) ?_ (asK [] Z) Z Z (.inl Z))))))
 exact ⟨_,_,Z,Z,Z⟩
theorem Q4S (N:Nat) (e0:OA) (e1:Nat) (l0:List Int) (bN:OA) (bO:Nat) (l1:List Q9) (o0:Bool) (hm:Q3b N l0 l1 = some o0):Q1z Tryz.prog 3 [.slice e0 l0.length e1,.slice bN l1.length bO] [.sli 1 Qh e0 e1 l0,.sli 3 Q26 bN bO l1,tF] [] (fun v Φr Hr=>v = .bool o0 ∧ Φr = [] ∧ Hr = []):=by
 unfold Q3b at hm
 refine Q12 Tryz.func3 Z Tryz.ntmps3 Z (S:=[_,_]) Z (fun C=>(Q6 (Q3 (wP Z (Q2 (Q4 (Q5 [0,1] (S':=[_,_]) Z (Q6 (Q6 (Q3 (wP Z (wN Z Q1a (wP Z (Qx (d:=21) (v':=.bool (decide (400 < l0.length))) (S':=V4 ..) Z Z (natgt (a:=l0.length) (b:=400)) ?_))))))))))))))
 refine Q2 (Q4 (Q5 [21,0,1] (S':=V3 ..) Z ?_))
 refine Qv Z (fun dB=>?_) (fun dB=>?_)
 replace hm:=Q1m hm dB
 refine Q5 [] (S':=[]) Z (Q6 (Q3 ?_))
 obtain ⟨_,eX,hm⟩:=Q7 hm
 try dsimp only at hm
 refine wC [] [] Z fn_5 Z (Q2G N  eX) (asK [2] Z) Z (H':=[]) Z ?_
 rintro _ _ _ ⟨rfl,rfl,rfl⟩
 refine wP Z (Q2 (Q4 (Q5 [4] (S':=[_]) Z (QJ (Qj ?_)))))
 have hE:=(Zi hm).symm
 replace hE:=hE.symm
 subst hE
 refine QA (Hr:=[]) [] Tryz.results3 (Qy Z) ⟨Z,Z,Z⟩ (asK [] Z) Z Z (.inl Z)
 replace hm:=Q1l hm dB
 refine Q5 [0,1] (S':=[_,_]) Z (Qt (Q4 (Q6 (Q3 (wP Z ?_)))))
 obtain ⟨bP,eY,hm⟩:=Q7 hm
 refine wC [] [] Z fn_6 Z (Q7s N e0 e1 l0 _ eY) (asK [0,2] Z) Z (H':=[]) Z ?_
 rintro _ _ _ ⟨bL,bM,fU,rfl,rfl,rfl⟩
 refine Q1s Z Z Z Zq Z tZ_28 Z (fun g5=>(wS 0 0 Z Q4z (all':=[_,_]) Z (H':=[_,_]) Z (Q2 (Q4 (Q5 [5,1] (S':=[_,_]) Z (Q6 (Q3 (Q1E 0 0 Z Z Z Zq Z Z Z (cs:=[_,_]) Z Q4z Q5L Z Z (Q2j (.sli 2 QL none 0 ([] : List Qw)) (fun _ _ _=>Q2m) (QQ 1 Z (fun dC _=>?_)))))))))))
 subst dC
 obtain ⟨_ | e2,dT,hm⟩:=Q7 hm
 try dsimp only at hm
 refine wC [1] [0] Z fn_7 Z (QaO N none 0 ([] : List Qw) bL bP.length bM bP dT) (asK [0,3] Z) Z (H':=[_]) Z ?_
 rintro _ _ _ ⟨rfl,rfl,rfl⟩
 refine wP Z (Q2 (Q4 (Q5 [6,5,1] (S':=V3 ..) Z (Q6 (Q3 (Q1E 1 0 Z Z Z Zq Z Z Z (cs:=[_,_]) Z Q4z Q5L Z Z (Q2j (.sli 2 QL none 0 ([] : List Qw)) (fun _ _ _=>Q2m) ?_)))))))
 obtain ⟨_ | bU,c3,hm⟩:=Q7 hm
 try dsimp only at hm
 refine wC [0] [1] Z fn_8 Z (Q7F N none 0 ([] : List Qw) bL bP.length bM bP c3) (asK [0,4] Z) Z (H':=[_]) Z ?_
 rintro _ _ _ ⟨rfl,rfl,rfl⟩
 refine wP Z (wP Z (wP Z (wP Z (wP Z (Q2 (Q4 (Q5 [8,7,6,5,1] (S':=V5 ..) Z (Q6 (Q6 (Q3 (wP Z (Q4l Z Z Z Zq Z Z Z (neqP tQ_30 _ _ _) (wP Z ?_)))))))))))))
 refine Q4l Z Z Z Zq Z Z Z (neqB _ _ false false) (Qx (d:=35) (v':=.bool false) (S':=V8 ..) Z Z Z (Q2 (Q4 (Q5 [35,8,7,6,5,1] (S':=V6 ..) Z (Q2X Z (Q5 [8,7,6,5,1] (S':=V5 ..) Z (Qt (Q4 (Q6 ?_)))))))))
 obtain ⟨dU,hm,hLj_3⟩:=Q7 hm
 refine Q15 (σ:=Unit) (fun _=>dU = ()) (fun _=>[(8,.bool false),(7,.pointer none),(6,.pointer none),(1,.slice bN l1.length bO)]) (fun _=>[.sli 3 Q26 bN bO l1,tF]) (fun _=>[]) ?_ ?_
 refine Q6 (Q3 (wP Z (Q2 (Q4 (Qn (Q3l [1,0] Z (H':=[_,_]) Z (Q1b (σ:=Nat × Nat × (List QP)) (fun (c6,bH,aA)=>Q1B (Q4r N) c6 (bH,aA) = some dU) (fun (c6,bH,aA)=>c6) (fun (c6,bH,aA)=>[(9,.int .i64 ((bH:Nat):Int)),(8,.bool false),(7,.pointer none),(6,.pointer none),(5,.pointer (some ⟨g5,0,none⟩)),(1,.slice bN l1.length bO)]) (fun (c6,bH,aA)=>[.sli 3 Q26 bN bO l1,tF]) (fun (c6,bH,aA)=>[.blk g5 [V1,.slice bL bP.length bM] 28,.own 38 5 QO (.slice bL bP.length bM) aA]) (N,0,bP) hm [9,8,7,6,5,1] Z (asK [3,4] Z) Z (fun s_ hm=>?_))))))))
 obtain ⟨c6,bH,aA⟩:=s_
 try dsimp only at hm ⊢
 obtain ⟨gB,gC,eZ,hq,hLu1⟩:=Q18 hm
 clear hm
 subst eZ
 replace hm:=hq
 clear hq
 unfold Q4r at hm
 try dsimp only at hm
 refine Q6 (Q6 (Q3 (wP Z (wF Z Q4a (wD 0 1 Z Q7q Q85 Z (QQ 1 Z (fun dD _=>(wN Z Q60 (Qx (d:=39) (v':=.int .i64 ((aA.length:Nat):Int)) (S':=V9 ..) Z Z (Q3F dD) (wP Z (Qx (d:=40) (v':=.bool (decide (bH < aA.length))) (S':=V10 ..) Z Z (Q20 (a:=bH) (b:=aA.length)) (Q2 (Q4 (Q5 [40,9,8,7,6,5,1] (S':=V7 ..) Z ?_))))))))))))))
 refine Qv Z (fun bW=>?_) (fun bW=>?_)
 replace hm:=Q1m hm bW
 refine Q5 [9,8,7,6,5,1] (S':=V6 ..) Z (Qt (Q4 (Q6 (Qn ?_))))
 obtain ⟨c7,c4,hm⟩:=Q7 hm
 obtain ⟨bQ,c5,hm⟩:=Q7 hm
 refine QV [0,1,2,3,4,5,6,7,9,10,11] Z Z (fun hok=>(Qm hok 0 Z Z Z Zq Z Z Z Q4a (Qr hok 1 0 1 Z Z Z Zq Z Z Z Z (cs:=[_]) Z Q7q Q85 Z Z (xP hok 2 Z (Qm hok 3 Z Z Z Zq Z Z Z Q4a (Qr hok 4 0 1 Z Z Z Zq Z Z Z Z (cs:=[_]) Z Q7q Q85 Z Z (xP hok 5 Z (Q1C hok 6 1 bH Z Z Z Zq Z Z Z Z Z Z (QB c4) Q60 Q7D (fun fW dE=>?_)))))))))
 subst dE
 refine Qm hok 7 Z Z Z Zq Z Z Z Q9K (xS hok 8 Z (Qk Q3Z 1 bH 1 Z Z Z Zq Z Z Z c4 Q1i Q2d (v:=fun e3=>.int .i64 (c7.salience)) (fun _=>Z) (fun _=>Z) (fun e3 _=>(Q2 (Qs [2,3] [0,0] Z Z (wx_reck hok 9 Z Z Z Zq Z (rk_neg Z Z) (QS hok 10 1 bH Z Z Z Zq Z Z Z Z Z Z (QB c5) Q60 Q7D (Qm hok 11 Z Z Z Zq Z Z Z Q9K (xS hok 12 Z (wl_storePart (u:=(⟨bQ.name,IntKind.wrap .i64 (0 - c7.salience),bQ.vars,bQ.conds,bQ.acts⟩ : QP)) 1 bH 1 Z Z Z Z Z c5 Z Z Q1i Z Z (fun F w hφ ds hd=>by obtain ⟨bS,rfl,hf⟩:=hd; exact ⟨((bS.1.1,bS.1.2),(bS.2.1,bS.2.2)),Z,(Qe (hf _ (Qo (k:=0) Z)) (Qe (hf _ (Qo (k:=1) Z)) Ql))⟩) Z (H':=[_,_]) Z (Q2 (Qs [0,1,2,3] [] Z Z (QI hok Z (Qi ?_))))))))))))))
 refine Q4 (Q5 [9,8,7,6,5,1] (S':=V6 ..) Z (Q3 (wP Z (wP Z ?_))))
 obtain ⟨dF,hm⟩:=Qd hm
 refine Qx (d:=42) (v':=.int .i64 ((bH + 1:Nat):Int)) (S':=V7 ..) Z Z (Q1f (a:=bH) (b:=1) dF) (QM (S':=V7 ..) Z Z Z Z Z (Q2 ?_))
 have hE:=(Zi hm).symm
 replace hE:=Q11 hLu1 hE
 refine Q14 (_,bH + 1,(aA.set bH (⟨bQ.name,IntKind.wrap .i64 (0 - c7.salience),bQ.vars,bQ.conds,bQ.acts⟩ : QP))) (Nat.lt_succ_self _) hE [9,8,7,6,5,1] Z (asK [2,3] Z) Z
 replace hm:=Q1l hm bW
 refine Q5 [8,7,6,1] (S':=V4 ..) Z (Q19 (Qc (Qc (Qu ?_))))
 have hE:=(Zi hm).symm
 replace hE:=QE hLu1 hE
 refine Q17 [] Z (H':=[]) Z ?_
 refine Qp () hE [8,7,6,1] Z (asK [0,1] Z) Z
 rintro _ hE
 try dsimp only
 have hm:=hLj_3
 try rw [hE] at hm
 try dsimp only at hm
 refine Q6 (Q6 (Q3 (wP Z (Q2 (Q4 (Qn (Q1b (σ:=Unit) (fun _=>True) (fun _=>0) (fun _=>[(10,.int .i64 0),(8,.bool false),(7,.pointer none),(6,.pointer none),(1,.slice bN l1.length bO)]) (fun _=>[.sli 3 Q26 bN bO l1,tF]) (fun _=>[]) () trivial [10,8,7,6,1] Z (asK [0,1] Z) Z (fun _ _=>?_))))))))
 try dsimp only
 refine Q6 (Q6 ?_)
 obtain ⟨f0,hm,hLj_4⟩:=Q7 hm
 refine Q15 (σ:=Unit) (fun _=>f0 = ()) (fun _=>[(10,.int .i64 0),(8,.bool false),(7,.pointer none),(6,.pointer none),(1,.slice bN l1.length bO),(65,.bool false)]) (fun _=>[.sli 3 Q26 bN bO l1,tF]) (fun _=>[]) ?_ ?_
 refine Q3 (wP Z (wP Z (wN Z tE_23 (wP Z (Qx (d:=58) (v':=.bool (decide (0 < l1.length))) (S':=V8 ..) Z Z (Q20 (a:=0) (b:=l1.length)) (wP Z ?_))))))
 refine Q28 (d:=59) (S':=V9 ..) Z Z (fun bX=>?_) (fun bX=>?_)
 replace hm:=Q1m hm bX
 refine wP Z (wP Z (Qx (d:=61) (v':=.bool true) (S':=V11 ..) Z Z Z (wP Z (wP Z (wP Z (wP Z (Q2 ?_)))))))
 have hE:=(Zi hm).symm
 refine Qp () hE [10,8,7,6,1,65] Z (asK [0,1] Z) Z
 replace hm:=Q1l hm bX
 refine wO Z (wO Z (wP Z (wP Z (wO Z (wP Z (Q2 ?_))))))
 have hE:=(Zi hm).symm
 refine Qp () hE [10,8,7,6,1,65] Z (asK [0,1] Z) Z
 rintro _ hE
 try dsimp only
 have hm:=hLj_4
 try rw [hE] at hm
 try dsimp only at hm
 refine Q2X Z (Q5 [8,7,6] (S':=V3 ..) Z (Q19 (Qc (Qc (Qu (Q4 (Q6 (Q6 (Q3 (wP Z (wP Z (Q2 (Q4 ?_)))))))))))))
 refine Q5 [111,7,6] (S':=V3 ..) Z (wc_true Z (Q5 [] (S':=[]) Z (Q6 (Q3 ?_))))
 obtain ⟨_,e4,hm⟩:=Q7 hm
 try dsimp only at hm
 refine wC [] [] Z fn_5 Z (Q2G N  e4) (asK [1] Z) Z (H':=[]) Z ?_
 rintro _ _ _ ⟨rfl,rfl,rfl⟩
 refine wP Z (Q2 (Q4 (Q5 [4] (S':=[_]) Z (QJ (Qj ?_)))))
 have hE:=(Zi hm).symm
 replace hE:=hE.symm
 subst hE
 refine QA (Hr:=[]) [] Tryz.results3 (Qy Z) ⟨Z,Z,Z⟩ (asK [] Z) Z Z (.inl Z)
 try dsimp only at hm
 refine wC [0] [1] Z fn_8 Z (Q7G N none 0 ([] : List Qw) bL bP.length bM bP _ c3) (asK [0,4] Z) Z (H':=[_]) Z ?_
 rintro _ _ _ ⟨b6,b7,b8,b9,bA,bB,rfl,rfl,rfl⟩
 refine wP Z (wP Z (wP Z (wP Z (wP Z (Q2 (Q4 (Q5 [8,7,6,5,1] (S':=V5 ..) Z (Q6 (Q6 (Q3 (wP Z (Q4l Z Z Z Zq Z Z Z (neqP tQ_30 _ _ _) (wP Z ?_)))))))))))))
 refine Q4l Z Z Z Zq Z Z Z (neqB _ _ false true) (Qx (d:=35) (v':=.bool true) (S':=V8 ..) Z Z Z (Q2 (Q4 (Q5 [35,8,7,6,5,1] (S':=V6 ..) Z (wc_true Z (Q5 [] (S':=[]) Z (Q6 (Q3 (wP Z (Q2 (Q4 (QJ (Qj ?_)))))))))))))
 have hE:=(Zi hm).symm
 replace hE:=hE.symm
 subst hE
 refine QA (Hr:=[]) [] Tryz.results3 (Qy Z) ⟨Z,Z,Z⟩ (asK [] Z) Z Z (.inl Z)
 try dsimp only at hm
 refine wC [1] [0] Z fn_7 Z (Q9k N none 0 ([] : List Qw) bL bP.length bM bP _ dT) (asK [0,3] Z) Z (H':=[_]) Z ?_
 rintro _ _ _ ⟨a9,b1,b2,b3,bY,rfl,rfl,rfl⟩
 refine wP Z (Q2 (Q4 (Q5 [6,5,1] (S':=V3 ..) Z (Q6 (Q3 (Q1E 4 0 Z Z Z Zq Z Z Z (cs:=[_,_]) Z Q4z Q5L Z Z (Q2j (.sli 2 QL none 0 ([] : List Qw)) (fun _ _ _=>Q2m) ?_)))))))
 obtain ⟨_ | bU,c3,hm⟩:=Q7 hm
 try dsimp only at hm
 refine wC [3] [0,1,2,4] Z fn_8 Z (Q7F N none 0 ([] : List Qw) bL bP.length bM bP c3) (asK [0,4] Z) Z (H':=V4 ..) Z ?_
 rintro _ _ _ ⟨rfl,rfl,rfl⟩
 refine wP Z (wP Z (wP Z (wP Z (wP Z (Q2 (Q4 (Q5 [8,7,6,5,1] (S':=V5 ..) Z (Q6 (Q6 (Q3 (wP Z (Q4l Z Z Z Zq Z Z Z (neqP tQ_30 _ _ _) (wP Z ?_)))))))))))))
 refine Q4l Z Z Z Zq Z Z Z (neqB _ _ true false) (Qx (d:=35) (v':=.bool true) (S':=V8 ..) Z Z Z (Q2 (Q4 (Q5 [35,8,7,6,5,1] (S':=V6 ..) Z (wc_true Z (Q5 [] (S':=[]) Z (Q6 (Q3 (wP Z (Q2 (Q4 (QJ (Qj ?_)))))))))))))
 have hE:=(Zi hm).symm
 replace hE:=hE.symm
 subst hE
 refine QA (Hr:=[]) [] Tryz.results3 (Qy Z) ⟨Z,Z,Z⟩ (asK [] Z) Z Z (.inl Z)
 try dsimp only at hm
 refine wC [3] [0,1,2,4] Z fn_8 Z (Q7G N none 0 ([] : List Qw) bL bP.length bM bP _ c3) (asK [0,4] Z) Z (H':=V4 ..) Z ?_
 rintro _ _ _ ⟨b6,b7,b8,b9,bA,bB,rfl,rfl,rfl⟩
 refine wP Z (wP Z (wP Z (wP Z (wP Z (Q2 (Q4 (Q5 [8,7,6,5,1] (S':=V5 ..) Z (Q6 (Q6 (Q3 (wP Z (Q4l Z Z Z Zq Z Z Z (neqP tQ_30 _ _ _) (wP Z ?_)))))))))))))
 refine Q4l Z Z Z Zq Z Z Z (neqB _ _ true true) (Qx (d:=35) (v':=.bool false) (S':=V8 ..) Z Z Z (Q2 (Q4 (Q5 [35,8,7,6,5,1] (S':=V6 ..) Z (Q2X Z (Q5 [8,7,6,5,1] (S':=V5 ..) Z (Qt (Q4 (Q6 ?_)))))))))
 obtain ⟨dV,hm,hLj_6⟩:=Q7 hm
 refine Q15 (σ:=Unit) (fun _=>dV = ()) (fun _=>[(8,.bool true),(7,.pointer (some ⟨b6,0,none⟩)),(6,.pointer (some ⟨a9,0,none⟩)),(1,.slice bN l1.length bO)]) (fun _=>[.sli 3 Q26 bN bO l1,tF]) (fun _=>[.blk b6 [.slice b7 ((([] : List Qw)).length) b8,.slice b9 bB bA,V1,V1] 70,.own 213 2 QL (.slice b7 ((([] : List Qw)).length) b8) ([] : List Qw),.own 38 5 QO (.slice b9 bB bA) bU,.blk a9 [.slice (some b1) b3 b2,V1,V1,.map (some bY)] 66,.own 3 1 Qh (.slice (some b1) b3 b2) e2,Q1Y (Q1h (QZ Q1Z)) false Q13 bY ([] : List (ByteArray × Bool))]) ?_ ?_
 refine Q6 (Q3 (wP Z (Q2 (Q4 (Qn (Q3l [0,1,2,4,5,6,7,3] Z (H':=V8 ..) Z (Q1b (σ:=Nat × Nat × (List QP)) (fun (c8,bI,aB)=>Q1B (Q4s N) c8 (bI,aB) = some dV) (fun (c8,bI,aB)=>c8) (fun (c8,bI,aB)=>[(9,.int .i64 ((bI:Nat):Int)),(8,.bool true),(7,.pointer (some ⟨b6,0,none⟩)),(6,.pointer (some ⟨a9,0,none⟩)),(5,.pointer (some ⟨g5,0,none⟩)),(1,.slice bN l1.length bO)]) (fun (c8,bI,aB)=>[.sli 3 Q26 bN bO l1,tF]) (fun (c8,bI,aB)=>[.blk b6 [.slice b7 ((([] : List Qw)).length) b8,.slice b9 bB bA,V1,V1] 70,.own 213 2 QL (.slice b7 ((([] : List Qw)).length) b8) ([] : List Qw),.own 38 5 QO (.slice b9 bB bA) bU,.blk a9 [.slice (some b1) b3 b2,V1,V1,.map (some bY)] 66,.own 3 1 Qh (.slice (some b1) b3 b2) e2,Q1Y (Q1h (QZ Q1Z)) false Q13 bY ([] : List (ByteArray × Bool)),.blk g5 [V1,.slice bL bP.length bM] 28,.own 38 5 QO (.slice bL bP.length bM) aB]) (N,0,bP) hm [9,8,7,6,5,1] Z (asK [3,4] Z) Z (fun s_ hm=>?_))))))))
 obtain ⟨c8,bI,aB⟩:=s_
 try dsimp only at hm ⊢
 obtain ⟨gD,gE,f1,hq,hLu3⟩:=Q18 hm
 clear hm
 subst f1
 replace hm:=hq
 clear hq
 unfold Q4s at hm
 try dsimp only at hm
 refine Q6 (Q6 (Q3 (wP Z (wF Z Q4a (wD 6 1 Z Q7q Q85 Z (QQ 7 Z (fun dD _=>(wN Z Q60 (Qx (d:=39) (v':=.int .i64 ((aB.length:Nat):Int)) (S':=V9 ..) Z Z (Q3F dD) (wP Z (Qx (d:=40) (v':=.bool (decide (bI < aB.length))) (S':=V10 ..) Z Z (Q20 (a:=bI) (b:=aB.length)) (Q2 (Q4 (Q5 [40,9,8,7,6,5,1] (S':=V7 ..) Z ?_))))))))))))))
 refine Qv Z (fun bW=>?_) (fun bW=>?_)
 replace hm:=Q1m hm bW
 refine Q5 [9,8,7,6,5,1] (S':=V6 ..) Z (Qt (Q4 (Q6 (Qn ?_))))
 obtain ⟨c7,c4,hm⟩:=Q7 hm
 obtain ⟨bQ,c5,hm⟩:=Q7 hm
 refine QV [0,1,2,3,4,5,6,7,9,10,11] Z Z (fun hok=>(Qm hok 0 Z Z Z Zq Z Z Z Q4a (Qr hok 1 6 1 Z Z Z Zq Z Z Z Z (cs:=[_]) Z Q7q Q85 Z Z (xP hok 2 Z (Qm hok 3 Z Z Z Zq Z Z Z Q4a (Qr hok 4 6 1 Z Z Z Zq Z Z Z Z (cs:=[_]) Z Q7q Q85 Z Z (xP hok 5 Z (Q1C hok 6 7 bI Z Z Z Zq Z Z Z Z Z Z (QB c4) Q60 Q7D (fun fW dE=>?_)))))))))
 subst dE
 refine Qm hok 7 Z Z Z Zq Z Z Z Q9K (xS hok 8 Z (Qk Q3Z 7 bI 1 Z Z Z Zq Z Z Z c4 Q1i Q2d (v:=fun e3=>.int .i64 (c7.salience)) (fun _=>Z) (fun _=>Z) (fun e3 _=>(Q2 (Qs [2,3] [6,6] Z Z (wx_reck hok 9 Z Z Z Zq Z (rk_neg Z Z) (QS hok 10 7 bI Z Z Z Zq Z Z Z Z Z Z (QB c5) Q60 Q7D (Qm hok 11 Z Z Z Zq Z Z Z Q9K (xS hok 12 Z (wl_storePart (u:=(⟨bQ.name,IntKind.wrap .i64 (0 - c7.salience),bQ.vars,bQ.conds,bQ.acts⟩ : QP)) 7 bI 1 Z Z Z Z Z c5 Z Z Q1i Z Z (fun F w hφ ds hd=>by obtain ⟨bS,rfl,hf⟩:=hd; exact ⟨((bS.1.1,bS.1.2),(bS.2.1,bS.2.2)),Z,(Qe (hf _ (Qo (k:=0) Z)) (Qe (hf _ (Qo (k:=1) Z)) Ql))⟩) Z (H':=V8 ..) Z (Q2 (Qs [0,1,2,3] [] Z Z (QI hok Z (Qi ?_))))))))))))))
 refine Q4 (Q5 [9,8,7,6,5,1] (S':=V6 ..) Z (Q3 (wP Z (wP Z ?_))))
 obtain ⟨dF,hm⟩:=Qd hm
 refine Qx (d:=42) (v':=.int .i64 ((bI + 1:Nat):Int)) (S':=V7 ..) Z Z (Q1f (a:=bI) (b:=1) dF) (QM (S':=V7 ..) Z Z Z Z Z (Q2 ?_))
 have hE:=(Zi hm).symm
 replace hE:=Q11 hLu3 hE
 refine Q14 (_,bI + 1,(aB.set bI (⟨bQ.name,IntKind.wrap .i64 (0 - c7.salience),bQ.vars,bQ.conds,bQ.acts⟩ : QP))) (Nat.lt_succ_self _) hE [9,8,7,6,5,1] Z (asK [2,3] Z) Z
 replace hm:=Q1l hm bW
 refine Q5 [8,7,6,1] (S':=V4 ..) Z (Q19 (Qc (Qc (Qu ?_))))
 have hE:=(Zi hm).symm
 replace hE:=QE hLu3 hE
 refine Q17 [0,1,2,3,4,5] Z (H':=V6 ..) Z ?_
 refine Qp () hE [8,7,6,1] Z (asK [0,1] Z) Z
 rintro _ hE
 try dsimp only
 have hm:=hLj_6
 try rw [hE] at hm
 try dsimp only at hm
 refine Q6 ?_
 obtain ⟨dW,hm,hLj_7⟩:=Q1R hm
 refine Q15 (σ:=(List Q1) × (List Bool) × (List Int) × (List Q1) × (List Q1) × (List (ByteArray × Bool)) × OA × Nat × Nat × OA × Nat × Nat × OA × Nat × Nat × OA × Nat × Nat × Nat) (fun (b4,b5,a5,a6,a7,a8,aP,aQ,aR,aS,aT,aU,s,y,a0,a1,a2,a3,a4)=>dW = .inl (b4,b5,a5,a6,a7,a8)) (fun (b4,b5,a5,a6,a7,a8,aP,aQ,aR,aS,aT,aU,s,y,a0,a1,a2,a3,a4)=>[(8,.bool true),(7,.pointer (some ⟨b6,0,none⟩)),(6,.pointer (some ⟨a9,0,none⟩))]) (fun (b4,b5,a5,a6,a7,a8,aP,aQ,aR,aS,aT,aU,s,y,a0,a1,a2,a3,a4)=>[tF]) (fun (b4,b5,a5,a6,a7,a8,aP,aQ,aR,aS,aT,aU,s,y,a0,a1,a2,a3,a4)=>[.blk b6 [.slice b7 ((([] : List Qw)).length) b8,.slice b9 bB bA,.slice aP aR aQ,.slice aS aU aT] 70,.own 213 2 QL (.slice b7 ((([] : List Qw)).length) b8) ([] : List Qw),.own 38 5 QO (.slice b9 bB bA) bU,.own 45 2 Q8 (.slice aP aR aQ) b4,.own 4 1 Q13 (.slice aS aU aT) b5,.blk a9 [.slice (some b1) b3 b2,.slice s a0 y,.slice a1 a3 a2,.map (some a4)] 66,.own 3 1 Qh (.slice (some b1) b3 b2) a5,.own 45 2 Q8 (.slice s a0 y) a6,.own 45 2 Q8 (.slice a1 a3 a2) a7,Q1Y (Q1h (QZ Q1Z)) false Q13 a4 a8]) ?_ ?_
 refine Q6 (Q3 (wP Z (Q2 (Q4 (Qn (Q3K 45 2 Q8 (Q3K 4 1 Q13 (Q3K 45 2 Q8 (Q3K 45 2 Q8 (Q3l [4,5,6,3,2,7,8,1,0,9] Z (H':=V10 ..) Z (Q1b (σ:=Nat × Nat × (List Q1) × (List Bool) × (List Int) × (List Q1) × (List Q1) × (List (ByteArray × Bool)) × OA × Nat × Nat × OA × Nat × Nat × OA × Nat × Nat × OA × Nat × Nat × Nat) (fun (c9,bC,aV,aW,aX,aY,aZ,b0,aC,aD,aE,aF,aG,aH,aI,aJ,aK,aL,aM,aN,aO)=>Q1B (Q4t N l1 bU) c9 (bC,aV,aW,aX,aY,aZ,b0) = some dW) (fun (c9,bC,aV,aW,aX,aY,aZ,b0,aC,aD,aE,aF,aG,aH,aI,aJ,aK,aL,aM,aN,aO)=>c9) (fun (c9,bC,aV,aW,aX,aY,aZ,b0,aC,aD,aE,aF,aG,aH,aI,aJ,aK,aL,aM,aN,aO)=>[(10,.int .i64 ((bC:Nat):Int)),(8,.bool true),(7,.pointer (some ⟨b6,0,none⟩)),(6,.pointer (some ⟨a9,0,none⟩)),(1,.slice bN l1.length bO)]) (fun (c9,bC,aV,aW,aX,aY,aZ,b0,aC,aD,aE,aF,aG,aH,aI,aJ,aK,aL,aM,aN,aO)=>[.sli 3 Q26 bN bO l1,tF]) (fun (c9,bC,aV,aW,aX,aY,aZ,b0,aC,aD,aE,aF,aG,aH,aI,aJ,aK,aL,aM,aN,aO)=>[.blk b6 [.slice b7 ((([] : List Qw)).length) b8,.slice b9 bB bA,.slice aC aE aD,.slice aF aH aG] 70,.own 213 2 QL (.slice b7 ((([] : List Qw)).length) b8) ([] : List Qw),.own 38 5 QO (.slice b9 bB bA) bU,.own 45 2 Q8 (.slice aC aE aD) aV,.own 4 1 Q13 (.slice aF aH aG) aW,.blk a9 [.slice (some b1) b3 b2,.slice aI aK aJ,.slice aL aN aM,.map (some aO)] 66,.own 3 1 Qh (.slice (some b1) b3 b2) aX,.own 45 2 Q8 (.slice aI aK aJ) aY,.own 45 2 Q8 (.slice aL aN aM) aZ,Q1Y (Q1h (QZ Q1Z)) false Q13 aO b0]) (N,0,[],[],e2,[],[],([] : List (ByteArray × Bool)),none,0,0,none,0,0,none,0,0,none,0,0,bY) hm [10,8,7,6,1] Z (asK [0,1] Z) Z (fun s_ hm=>?_))))))))))))
 obtain ⟨c9,bC,aV,aW,aX,aY,aZ,b0,aC,aD,aE,aF,aG,aH,aI,aJ,aK,aL,aM,aN,aO⟩:=s_
 try dsimp only at hm ⊢
 obtain ⟨gF,gG,f2,hq,hLu4⟩:=Q18 hm
 clear hm
 subst f2
 replace hm:=hq
 clear hq
 unfold Q4t at hm
 try dsimp only at hm
 refine Q6 (Q6 ?_)
 obtain ⟨f3,hm,hLj_8⟩:=Q7 hm
 refine Q15 (σ:=Bool) (fun bR=>f3 = bR) (fun bR=>[(10,.int .i64 ((bC:Nat):Int)),(8,.bool true),(7,.pointer (some ⟨b6,0,none⟩)),(6,.pointer (some ⟨a9,0,none⟩)),(1,.slice bN l1.length bO),(65,.bool bR)]) (fun bR=>[.sli 3 Q26 bN bO l1,tF]) (fun bR=>[.blk b6 [.slice b7 ((([] : List Qw)).length) b8,.slice b9 bB bA,.slice aC aE aD,.slice aF aH aG] 70,.own 213 2 QL (.slice b7 ((([] : List Qw)).length) b8) ([] : List Qw),.own 38 5 QO (.slice b9 bB bA) bU,.own 45 2 Q8 (.slice aC aE aD) aV,.own 4 1 Q13 (.slice aF aH aG) aW,.blk a9 [.slice (some b1) b3 b2,.slice aI aK aJ,.slice aL aN aM,.map (some aO)] 66,.own 3 1 Qh (.slice (some b1) b3 b2) aX,.own 45 2 Q8 (.slice aI aK aJ) aY,.own 45 2 Q8 (.slice aL aN aM) aZ,Q1Y (Q1h (QZ Q1Z)) false Q13 aO b0]) ?_ ?_
 refine Q3 (wP Z (wP Z (wN Z tE_23 (wP Z (Qx (d:=58) (v':=.bool (decide (bC < l1.length))) (S':=V8 ..) Z Z (Q20 (a:=bC) (b:=l1.length)) (wP Z ?_))))))
 refine Q28 (d:=59) (S':=V9 ..) Z Z (fun bX=>?_) (fun bX=>?_)
 replace hm:=Q1m hm bX
 refine wP Z (wP Z (Qx (d:=61) (v':=.bool (decide (bC < 60))) (S':=V11 ..) Z Z (Q20 (a:=bC) (b:=60)) (wP Z (wP Z ?_))))
 refine Q28 (d:=63) (S':=V13 ..) Z Z (fun dG=>?_) (fun dG=>?_)
 replace hm:=Q1m hm dG
 refine wP Z (wP Z (Q2 ?_))
 have hE:=(Zi hm).symm
 refine Qp true hE [10,8,7,6,1,65] Z (asK [0,1] Z) Z
 replace hm:=Q1l hm dG
 refine wO Z (wP Z (Q2 ?_))
 have hE:=(Zi hm).symm
 refine Qp false hE [10,8,7,6,1,65] Z (asK [0,1] Z) Z
 replace hm:=Q1l hm bX
 refine wO Z (wO Z (wP Z (wP Z (wO Z (wP Z (Q2 ?_))))))
 have hE:=(Zi hm).symm
 refine Qp false hE [10,8,7,6,1,65] Z (asK [0,1] Z) Z
 rintro bR hE
 try dsimp only
 have hm:=hLj_8
 try rw [hE] at hm
 refine Qv Z (fun dH=>?_) (fun dH=>?_)
 replace hm:=Q1m hm dH
 refine Q5 [10,8,7,6,1] (S':=V5 ..) Z (Qt (Q4 (Q6 (Qn (Q6 (Q6 (Q3 (wP Z (wP Z ?_)))))))))
 obtain ⟨fY,f4,hm⟩:=Q7 hm
 refine Q3z 0 bC Z Z Z Zq Z Z Z Z Z f4 tE_23 tS_42 (fun gH gI g7 fZ=>(Q5m Q7z 1 Z (fun f5 f6 _=>?_)))
 subst f6
 refine wF Z Q9L (Q5l 1 2 Z Z Z Zq Z Z Z (cs:=[_]) Z Q1O Q2I Z Z ?_)
 obtain ⟨gJ,f7,hm⟩:=Q7 hm
 refine wC [] [0,1,2,3,4,5,6,7,8,9] Z fn_9 Z (Q88 N f5.1 f5.2 fY.l _ f7) (asK [0,4] Z) Z (H':=V10 ..) Z ?_
 rintro _ _ _ ⟨rfl,rfl,rfl⟩
 refine Q2 (Q4 (Q5 [73,10,8,7,6,1] (S':=V6 ..) Z ?_))
 refine Qv Z (fun dI=>?_) (fun dI=>?_)
 replace hm:=Q1m hm dI
 refine Q5 [] (S':=[]) Z (Q6 (Q3 ?_))
 obtain ⟨_,f8,hm⟩:=Q7 hm
 try dsimp only at hm
 refine wC [] [0,1,2,3,4,5,6,7,8,9] Z fn_5 Z (Q2G N  f8) (asK [4] Z) Z (H':=V10 ..) Z ?_
 rintro _ _ _ ⟨rfl,rfl,rfl⟩
 refine wP Z (Q2 (Q4 (Q5 [4] (S':=[_]) Z (QJ (Qj (QR (Qj (Qj (QR (Qj ?_))))))))))
 have hE:=(Zi hm).symm
 replace hE:=QE hLu4 hE
 replace hE:=QE hLj_7 hE
 replace hE:=hE.symm
 subst hE
 refine QA (Hr:=[]) [] Tryz.results3 (Qy Z) ⟨Z,Z,Z⟩ (asK [] Z) Z Z (.inl Z)
 replace hm:=Q1l hm dI
 refine Q5 [10,8,7,6,1] (S':=V5 ..) Z (Qt (Q4 (Q6 (Q6 (Q3 (wP Z (wP Z (wP Z (wP Z ?_)))))))))
 obtain ⟨e5,f9,hm⟩:=Q7 hm
 refine Q3z 3 bC Z Z Z Zq Z Z Z Z Z f9 tE_23 tS_42 (fun gK gL g8 g0=>(Q5m Q7z 1 Z (fun fA fB _=>?_)))
 subst fB
 refine Q5l 1 0 Z Z Z Zq Z Z Z (cs:=V3 ..) Z tS_42 tA_42 Z Z ?_
 obtain ⟨⟨g1,cA,cB,cC,cD,cE,cF⟩,fC,hm⟩:=Q7 hm
 try dsimp only at hm
 refine wC [5,6,7,8,9,0,1,2,3,4] [] Z fn_10 Z (Qal N a9 b1 b3 b2 aX aI aK aJ aY aL aN aM aZ aO b0 b6 b7 ((([] : List Qw)).length) b8 ([] : List Qw) b9 bB bA bU aC aE aD aV aF aH aG aW e5.op e5.which fA.1 fA.2 e5.l _ _ _ _ _ _ _ fC) (asK [0,7] Z) Z (H':=[]) Z ?_
 rintro _ _ _ ⟨cG,cH,cI,cJ,cK,cL,cM,cN,cO,cP,bZ,c0,c1,rfl,rfl,rfl⟩
 obtain ⟨e6,hm⟩:=Qd hm
 refine Qx (d:=81) (v':=.bool true) (S':=V11 ..) Z Z (Q16 e6) (wP Z (Q2 (Q4 (Q5 [82,10,8,7,6,1] (S':=V6 ..) Z (Q2X Z (Q5 [10,8,7,6,1] (S':=V5 ..) Z (Qt (Q4 (Q6 (Q3 (wP Z ?_)))))))))))
 obtain ⟨⟨e7,e8,e9⟩,fD,hm⟩:=Q7 hm
 try dsimp only at hm
 refine wC [0,1,2,3,4] [5,6,7,8,9] Z fn_11 Z (Q4b N a9 b1 b3 b2 cA cG cI cH cB cJ cL cK cC cM cD _ _ _ fD) (asK [7] Z) Z (H':=V5 ..) Z ?_
 rintro _ _ _ ⟨eA,eB,g2,rfl,rfl,rfl⟩
 refine wP Z (wP Z (wP Z (Q1s Z Z Z Zq Z Q1X Z (fun gM=>(wS 0 0 Z Qg (all':=[_,_]) Z (H':=V12 ..) Z (wP Z (Q2 (Q4 (Q5 [12,11,10,8,7,6,1] (S':=V7 ..) Z (Q6 (Q3 (wP Z ?_))))))))))))
 obtain ⟨⟨eC,eD,eE⟩,fE,hm⟩:=Q7 hm
 try dsimp only at hm
 refine wC [7,8,9,10,11] [0,1,2,3,4,5,6] Z fn_12 Z (Q8L N b6 b7 ((([] : List Qw)).length) b8 ([] : List Qw) b9 bB bA bU cN cP cO cE bZ c1 c0 cF _ _ _ fE) (asK [7] Z) Z (H':=V7 ..) Z ?_
 rintro _ _ _ ⟨eF,eG,rfl,rfl,rfl⟩
 refine wP Z (wP Z (wP Z (Q1s Z Z Z Zq Z Q1X Z (fun gN=>(wS 0 0 Z Qg (all':=[_,_]) Z (H':=V13 ..) Z (wP Z (Q2 (Q4 (Q5 [14,13,12,11,10,8,7,6,1] (S':=V9 ..) Z (Q6 (Q3 (wP Z (wP Z (Q4l Z Z Z Zq Z Z Z (neqB _ _ e9 eE) ?_))))))))))))))
 obtain ⟨eH,hm⟩:=Qd hm
 refine Qx (d:=95) (v':=.bool false) (S':=V11 ..) Z Z (Q16 eH) (wP Z (Q1E 6 0 Z Z Z Zq Z Z Z (cs:=[_,_]) Z Qg QT Z Z (Q1E 0 0 Z Z Z Zq Z Z Z (cs:=[_,_]) Z Qg QT Z Z (QQ 7 Z (fun dJ _=>?_)))))
 subst dJ
 obtain ⟨gO,fF,hm⟩:=Q7 hm
 refine Q1y [] [0,1,2,3,4,5,6,7,8,9,10,11,12] [7] Z Z Z Zq Z Z fn_13 Z (Q4o N e7 eA eB e8 eC eF eG eD _ fF) (fun F w hφ hh=>(Qe (Q1d (hh _ (Qo (k:=0) Z))) (Qe (hφ _ (Qo (k:=0) Z)) Ql))) (fun _ _ _ hR=>by obtain ⟨rfl,rfl,rfl⟩:=hR; exact ⟨Z,(fun _ h=>Q1q h)⟩) Z Z (H':=V13 ..) Z ?_
 rintro _ _ _ ⟨rfl,rfl,rfl⟩
 obtain ⟨eI,hm⟩:=Qd hm
 refine Qx (d:=99) (v':=.bool true) (S':=V15 ..) Z Z (Q16 eI) (wP Z (wP Z (wP Z (wP Z ?_))))
 obtain ⟨fG,eJ,hm⟩:=Q7 hm
 refine wC [8,9,10,11,12] [0,1,2,3,4,5,6,7] Z fn_15 Z (Q3U N a9 b1 b3 b2 cA cG cI cH cB cJ cL cK cC cM cD _ eJ) (asK [8] Z) Z (H':=V8 ..) Z ?_
 rintro _ _ _ ⟨dN,dO,fM,rfl,rfl,rfl⟩
 refine wP Z ?_
 obtain ⟨fI,eK,hm⟩:=Q7 hm
 refine wC [7,8,9,10,11] [0,1,2,3,4,5,6,12,13] Z fn_16 Z (Q6z N b6 b7 ((([] : List Qw)).length) b8 ([] : List Qw) b9 bB bA bU cN cP cO cE bZ c1 c0 cF _ eK) (asK [8] Z) Z (H':=V9 ..) Z ?_
 rintro _ _ _ ⟨dP,dQ,fN,rfl,rfl,rfl⟩
 refine Q1J 6 Z (fun eL _=>?_)
 subst eL
 refine QQ 0 Z (fun d8 _=>?_)
 subst d8
 obtain ⟨g9,eM,hm⟩:=Q7 hm
 refine Q1y [] [0,1,2,3,4,5,6,7,8,9,10,11,12,13,14] [6,0] Z Z Z Zq Z Z fn_14 Z (Q7r N dN dO fG dP dQ fI _ eM) (fun F w hφ hh=>(Qe (Q8I Q3a (hh _ (Qo (k:=0) Z)) (fun _ h=>h) (fun _ h=>h)) (Qe (Q1d (hh _ (Qo (k:=1) Z))) Ql))) (fun _ _ _ hR=>by obtain ⟨rfl,rfl,rfl⟩:=hR; exact ⟨Z,(fun _ h=>Q1q h)⟩) Z Z (H':=V15 ..) Z ?_
 rintro _ _ _ ⟨rfl,rfl,rfl⟩
 obtain ⟨dR,hm⟩:=Qd hm
 refine Qx (d:=107) (v':=.bool true) (S':=V23 ..) Z Z (Q16 dR) (wP Z (wP Z (Q2 (Q4 (Q5 [109,10,8,7,6,1] (S':=V6 ..) Z (Q2X Z (Q5 [10,8,7,6,1] (S':=V5 ..) Z (Qt (Qi (Q4 (Q3 (wP Z (wP Z ?_)))))))))))))
 obtain ⟨fJ,hm⟩:=Qd hm
 refine Qx (d:=67) (v':=.int .i64 ((bC + 1:Nat):Int)) (S':=V6 ..) Z Z (Q1f (a:=bC) (b:=1) fJ) (QM (S':=V6 ..) Z Z Z Z Z (Q2 ?_))
 have hE:=(Zi hm).symm
 replace hE:=Q11 hLu4 hE
 refine Q17 [1,2,3,4,5,7,8,9,10,11] Z (H':=V10 ..) Z ?_
 refine Q14 (_,bC + 1,cE,cF,cA,cB,cC,cD,cN,cO,cP,bZ,c0,c1,cG,cH,cI,cJ,cK,cL,cM) (Nat.lt_succ_self _) hE [10,8,7,6,1] Z (asK [7,8] Z) Z
 replace hm:=Q1l hm dH
 refine Q5 [8,7,6] (S':=V3 ..) Z (Q19 (Qc (Qc (Qu ?_))))
 have hE:=(Zi hm).symm
 replace hE:=QE hLu4 hE
 refine Qp (aV,aW,aX,aY,aZ,b0,aC,aD,aE,aF,aG,aH,aI,aJ,aK,aL,aM,aN,aO) hE [8,7,6] Z (asK [1] Z) Z
 rintro ⟨b4,b5,a5,a6,a7,a8,aP,aQ,aR,aS,aT,aU,s,y,a0,a1,a2,a3,a4⟩ hE
 try dsimp only
 have hm:=Q11 hLj_7 hE
 try dsimp only at hm
 refine Q6 (Q6 (Q3 (wP Z (wP Z (Q2 (Q4 (Q5 [111,7,6] (S':=V3 ..) Z (Q2X Z (Q5 [7,6] (S':=[_,_]) Z (Qt (Q4 (Q6 (Q3 ?_)))))))))))))
 refine wP Z ?_
 obtain ⟨⟨j,f,fO⟩,eN,hm⟩:=Q7 hm
 try dsimp only at hm
 refine wC [5,6,7,8,9] [0,1,2,3,4] Z fn_11 Z (Q4b N a9 b1 b3 b2 a5 s a0 y a6 a1 a3 a2 a7 a4 a8 _ _ _ eN) (asK [0] Z) Z (H':=V5 ..) Z ?_
 rintro _ _ _ ⟨bD,bE,fQ,rfl,rfl,rfl⟩
 refine wP Z (wP Z (wP Z (Q1s Z Z Z Zq Z Q1X Z (fun g3=>(wS 0 0 Z Qg (all':=[_,_]) Z (H':=V12 ..) Z (wP Z (Q2 (Q4 (Q5 [15,7,6] (S':=V3 ..) Z (Q6 (Q3 (wP Z ?_))))))))))))
 obtain ⟨⟨q,o,fR⟩,eO,hm⟩:=Q7 hm
 try dsimp only at hm
 refine wC [2,3,4,5,6] [0,1,7,8,9,10,11] Z fn_11 Z (Q4b N a9 b1 b3 b2 a5 s a0 y a6 a1 a3 a2 a7 a4 a8 _ _ _ eO) (asK [0] Z) Z (H':=V7 ..) Z ?_
 rintro _ _ _ ⟨bF,bG,fS,rfl,rfl,rfl⟩
 refine wP Z (wP Z (wP Z (Q1s Z Z Z Zq Z Q1X Z (fun g4=>(wS 0 0 Z Qg (all':=[_,_]) Z (H':=V14 ..) Z (wP Z (Q2 (Q4 (Q5 [17,15,7,6] (S':=V4 ..) Z (Q6 ?_))))))))))
 obtain ⟨bJ,eP,hm⟩:=Q7 hm
 obtain ⟨bK,eQ,hm⟩:=Q7 hm
 obtain ⟨cV,hm⟩:=Qd hm
 obtain ⟨dK,eR,hm⟩:=Q7 hm
 obtain ⟨dL,eS,hm⟩:=Q7 hm
 obtain ⟨gA,eT,hm⟩:=Q7 hm
 obtain ⟨dS,hm⟩:=Qd hm
 obtain ⟨_,eU,hm⟩:=Q7 hm
 try dsimp only at hm
 refine wc_ownLen 1 Z (fun d9 _=>?_)
 subst d9
 refine wc_ownLen 8 Z (fun dA _=>?_)
 subst dA
 refine Q3l [1,8,0,2,3,4,5,6,7,9,10,11,12,13] Z (H':=V14 ..) Z ?_
 refine wc_flow (Y:=Nat × Nat × OA) (H0:=[.blk g4 [.int .i64 q,.slice bF o.length bG] 45,.blk a9 [.slice (some b1) b3 b2,.slice s a0 y,.slice a1 a3 a2,.map (some a4)] 66,.own 3 1 Qh (.slice (some b1) b3 b2) a5,.own 45 2 Q8 (.slice s a0 y) a6,.own 45 2 Q8 (.slice a1 a3 a2) a7,Q1Y (Q1h (QZ Q1Z)) false Q13 a4 a8,.blk g3 [.int .i64 j,.slice bD f.length bE] 45,.blk b6 [.slice b7 ((([] : List Qw)).length) b8,.slice b9 bB bA,.slice aP aR aQ,.slice aS aU aT] 70,.own 213 2 QL (.slice b7 ((([] : List Qw)).length) b8) ([] : List Qw),.own 38 5 QO (.slice b9 bB bA) bU,.own 45 2 Q8 (.slice aP aR aQ) b4,.own 4 1 Q13 (.slice aS aU aT) b5]) [⟨123,[0],[],21,[],fun _=>.agg #[.int .i64 j,.slice bD f.length bE],fun _=>[],fun _=>[]⟩,⟨124,[0,1],[0],9,[],fun E=>.slice (some ⟨(E 1).1,0,none⟩) 1 1,fun _=>[],fun E=>[.blk (E 1).1 [.int .i64 j,.slice bD f.length bE] 45]⟩,⟨125,[2],[],21,[],fun _=>.agg #[.int .i64 q,.slice bF o.length bG],fun _=>[],fun _=>[]⟩,⟨126,[2,3],[2],9,[],fun E=>.slice (some ⟨(E 3).1,0,none⟩) 1 1,fun _=>[],fun E=>[.blk (E 3).1 [.int .i64 q,.slice bF o.length bG] 45]⟩,⟨127,[4],[],21,[],fun _=>.pointer (some ⟨a9,0,none⟩),fun _=>[],fun _=>[]⟩,⟨128,[4,5],[4],9,[],fun E=>.slice (E 5).2.2 (E 5).1 (E 5).2.1,fun _=>[],fun E=>[Q1e Qa 45 2 (.slice (E 5).2.2 (E 5).1 (E 5).2.1) bJ]⟩,⟨129,[6],[],21,[],fun _=>.pointer (some ⟨a9,0,none⟩),fun _=>[],fun _=>[]⟩,⟨130,[4,5,6,7],[6],9,[],fun E=>.slice (E 7).2.2 (E 7).1 (E 7).2.1,fun _=>[],fun E=>[Q1e Qa 45 2 (.slice (E 7).2.2 (E 7).1 (E 7).2.1) bK]⟩,⟨131,[0,1,2,3,4,5,6,7,8],[1,3,5,7],9,[],fun E=>.slice (some ⟨(E 8).1,0,none⟩) 4 4,fun _=>[],fun E=>[.blk (E 8).1 [.slice (some ⟨(E 1).1,0,none⟩) 1 1,.slice (some ⟨(E 3).1,0,none⟩) 1 1,.slice (E 5).2.2 (E 5).1 (E 5).2.1,.slice (E 7).2.2 (E 7).1 (E 7).2.1] 40]⟩,⟨132,[0,1,2,3,4,5,6,7,8,9],[1,3,5,7,8],21,[.own 3 1 Qh (.slice bF o.length bG) o,.own 3 1 Qh (.slice bD f.length bE) f],fun _=>.bool true,fun _=>[],fun _=>[]⟩,⟨133,[0,1,2,3,4,5,6,7,8,9,10],[9],21,[],fun _=>.bool true,fun _=>[],fun _=>[]⟩,⟨134,[0,1,2,3,4,5,6,7,8,9,10,11],[10],21,[],fun _=>.pointer (some ⟨a9,0,none⟩),fun _=>[],fun _=>[]⟩,⟨135,[0,1,2,3,4,5,6,7,8,9,10,11,12],[10,11],15,[],fun E=>.slice (E 12).2.2 (E 12).1 (E 12).2.1,fun _=>[],fun E=>[Q1e Qa 45 2 (.slice (E 12).2.2 (E 12).1 (E 12).2.1) dK]⟩,⟨136,[0,1,2,3,4,5,6,7,8,9,10,13],[10],21,[],fun _=>.pointer (some ⟨b6,0,none⟩),fun _=>[],fun _=>[]⟩,⟨137,[0,1,2,3,4,5,6,7,8,9,10,11,12,13,14],[10,13],15,[],fun E=>.slice (E 14).2.2 (E 14).1 (E 14).2.1,fun _=>[],fun E=>[.own 45 2 Q8 (.slice (E 14).2.2 (E 14).1 (E 14).2.1) dL]⟩,⟨138,[0,1,2,3,4,5,6,7,8,9,10,11,12,13,14,15],[10,12,14],21,[],fun _=>.bool true,fun _=>[],fun _=>[]⟩,⟨139,[0,1,2,3,4,5,6,7,8,9,10,11,12,13,14,15,16],[10,15],21,[],fun _=>.bool true,fun _=>[],fun _=>[]⟩,⟨140,[0,1,2,3,4,5,6,7,8,9,10,11,12,13,14,15,16,17],[16],21,[],fun _=>.bool true,fun _=>[],fun _=>[]⟩,⟨141,[0,1,2,3,4,5,6,7,8,9,10,11,12,13,14,15,16,17,18],[17],21,[],fun _=>.bool true,fun _=>[],fun _=>[]⟩,⟨142,[0,1,2,3,4,5,6,7,8,9,10,11,12,13,14,15,16,17,18,19],[17,18],21,[],fun _=>.bool true,fun _=>[],fun _=>[]⟩,⟨4,[0,1,2,3,4,5,6,7,8,9,10,11,12,13,14,15,16,17,18,19,20],[19],21,[],fun _=>.bool true,fun _=>[],fun _=>[]⟩] Z Z (by kernel_rfl) (by kernel_rfl) ⟨?_,?_,?_,?_,?_,?_,?_,?_,?_,?_,?_,?_,?_,?_,?_,?_,?_,?_,?_,?_,?_,trivial⟩ (fun E=>?_)
 intro E C
 show WL _ C _ _ [_] (V12 ..) (V4 ..) _ [_]
 refine Q1E 6 0 Z Z Z Zq Z Z Z (cs:=[_,_]) Z Qg QT Z Z (Q2 ?_)
 exact Q1j (k:=0) (default,default,default) [] [0,1,2,3,4,5,6,7,8,9,10,11] Z Z Z Z
 intro E C
 show WL _ C _ _ [_] (V12 ..) [(123,.agg #[.int .i64 j,.slice bD f.length bE]),_,_,_,_] _ [_]
 refine Qq Z Z Z Zq Z QG Qg Q1X Z (zs:=[.int .i64 0,V1]) (by kernel_rfl) Z (out:=[_,_]) Z (fun dX=>(Q2 ?_))
 exact Q1j (k:=1) (dX,default,default) [] [0,1,2,3,4,5,6,7,8,9,10,11,12] Z Z Z Z
 intro E C
 show WL _ C _ _ [_] (V12 ..) (V4 ..) _ [_]
 refine Q1E 0 0 Z Z Z Zq Z Z Z (cs:=[_,_]) Z Qg QT Z Z (Q2 ?_)
 exact Q1j (k:=2) (default,default,default) [] [0,1,2,3,4,5,6,7,8,9,10,11] Z Z Z Z
 intro E C
 show WL _ C _ _ [_] (V12 ..) [(125,.agg #[.int .i64 q,.slice bF o.length bG]),_,_,_,_] _ [_]
 refine Qq Z Z Z Zq Z QG Qg Q1X Z (zs:=[.int .i64 0,V1]) (by kernel_rfl) Z (out:=[_,_]) Z (fun dY=>(Q2 ?_))
 exact Q1j (k:=3) (dY,default,default) [] [0,1,2,3,4,5,6,7,8,9,10,11,12] Z Z Z Z
 intro E C
 show WL _ C _ _ [_] (V12 ..) (V4 ..) _ [_]
 refine wP Z (Q2 ?_)
 exact Q1j (k:=4) (default,default,default) [] [0,1,2,3,4,5,6,7,8,9,10,11] Z Z Z Z
 intro E C
 show WL _ C _ _ [_] (V12 ..) [(127,.pointer (some ⟨a9,0,none⟩)),_,_,_,_] _ [_]
 refine wC [1,2,3,4,5] [0,6,7,8,9,10,11] Z fn_15 Z (Q3U N a9 b1 b3 b2 a5 s a0 y a6 a1 a3 a2 a7 a4 a8 _ eP) (asK [0] Z) Z (H':=V7 ..) Z ?_
 rintro _ _ _ ⟨cW,cX,cY,rfl,rfl,rfl⟩
 refine Q2 ?_
 exact Q1j (k:=5) (cY,cX,cW) [] [0,6,1,2,3,4,5,7,8,9,10,11,12] Z Z Z Z
 intro E C
 show WL _ C _ _ [_] (V12 ..) (V4 ..) _ [_]
 refine wP Z (Q2 ?_)
 exact Q1j (k:=6) (default,default,default) [] [0,1,2,3,4,5,6,7,8,9,10,11] Z Z Z Z
 intro E C
 show WL _ C _ _ [_] (V12 ..) [(129,.pointer (some ⟨a9,0,none⟩)),_,_,_,_] _ [_]
 refine wC [1,2,3,4,5] [0,6,7,8,9,10,11] Z fn_15 Z (Q3U N a9 b1 b3 b2 a5 s a0 y a6 a1 a3 a2 a7 a4 a8 _ eQ) (asK [0] Z) Z (H':=V7 ..) Z ?_
 rintro _ _ _ ⟨cZ,d0,d1,rfl,rfl,rfl⟩
 refine Q2 ?_
 exact Q1j (k:=7) (d1,d0,cZ) [] [0,6,1,2,3,4,5,7,8,9,10,11,12] Z Z Z Z
 intro E C
 show WL _ C _ _ [_] (V12 ..) [(124,.slice (some ⟨(E 1).1,0,none⟩) 1 1),(126,.slice (some ⟨(E 3).1,0,none⟩) 1 1),(128,.slice (E 5).2.2 (E 5).1 (E 5).2.1),(130,.slice (E 7).2.2 (E 7).1 (E 7).2.1),_,_,_,_] _ [_]
 refine Qq Z Z Z Zq Z Q6y Q1O tZ_40 Z (zs:=[V1,V1,V1,V1]) (by kernel_rfl) Z (out:=V4 ..) Z (fun dZ=>(Q2 ?_))
 exact Q1j (k:=8) (dZ,default,default) [] [0,1,2,3,4,5,6,7,8,9,10,11,12] Z Z Z Z
 intro E C
 show WL _ C _ _ [_] [.blk (E 1).1 [.int .i64 j,.slice bD f.length bE] 45,.blk (E 3).1 [.int .i64 q,.slice bF o.length bG] 45,Q1e Qa 45 2 (.slice (E 5).2.2 (E 5).1 (E 5).2.1) bJ,Q1e Qa 45 2 (.slice (E 7).2.2 (E 7).1 (E 7).2.1) bK,.blk (E 8).1 [.slice (some ⟨(E 1).1,0,none⟩) 1 1,.slice (some ⟨(E 3).1,0,none⟩) 1 1,.slice (E 5).2.2 (E 5).1 (E 5).2.1,.slice (E 7).2.2 (E 7).1 (E 7).2.1] 40,_,_,_,_,_,_,_,_,_,_,_,_,_,_] [(124,.slice (some ⟨(E 1).1,0,none⟩) 1 1),(126,.slice (some ⟨(E 3).1,0,none⟩) 1 1),(128,.slice (E 5).2.2 (E 5).1 (E 5).2.1),(130,.slice (E 7).2.2 (E 7).1 (E 7).2.1),(131,.slice (some ⟨(E 8).1,0,none⟩) 4 4),_,_,_,_] _ [_]
 refine Q1U (sz:=2) (m:=1) Qa.pair ([((⟨j,f⟩ : Q1),(bD,bE))]) 0 Z (fun F w hφ=>⟨[.int .i64 j,.slice bD f.length bE],[],Z,Z,Z,Z⟩) Z (by decide) (H':=V19 ..) Z (Q1t [Q1w Qa [] none,_,_,_,_,_,_,_,_,_,_,_,_,_,_,_,_,_,_,_] (fun _ h=>h.bagNil Qa) (Q1S [7,0,1,2,3,4,5,6,8,9,10,11,12,13,14,15,16,17,18,19] Z (H':=V20 ..) Z (Q1t [Q1w Qa ([((⟨j,f⟩ : Q1),(bD,bE))]) none,_,_,_,_,_,_,_,_,_,_,_,_,_,_,_,_,_,_] (fun _ h=>QU.bagPush (T:=Qa) (x:=(⟨j,f⟩ : Q1)) (r:=(bD,bE)) (zs:=[]) (H:=V19 ..) h 0 Z) (Q1t [Q1e Qa 45 2 (.slice (some ⟨(E 1).1,0,none⟩) 1 1) ([(⟨j,f⟩ : Q1)]),_,_,_,_,_,_,_,_,_,_,_,_,_,_,_,_,_] (fun _ h=>h.treeIn 1 0 Z Z Z Z) (Q1J 0 Z (fun cQ _=>(Q23 0 (v':=.slice (some ⟨(E 1).1,0,none⟩) ([(⟨j,f⟩ : Q1)].length) 1) Z (by rw [cQ]) (Q1r 4 (φ':=.blk (E 8).1 [.slice (some ⟨(E 1).1,0,none⟩) ([(⟨j,f⟩ : Q1)].length) 1,.slice (some ⟨(E 3).1,0,none⟩) 1 1,.slice (E 5).2.2 (E 5).1 (E 5).2.1,.slice (E 7).2.2 (E 7).1 (E 7).2.1] 40) Z (by rw [cQ]) (H':=V18 ..) Z (Q1r 0 (φ':=Q1e Qa 45 2 (.slice (some ⟨(E 1).1,0,none⟩) ([(⟨j,f⟩ : Q1)].length) 1) ([(⟨j,f⟩ : Q1)])) Z (by rw [cQ]) (H':=V18 ..) Z (Q1U (sz:=2) (m:=1) Qa.pair ([((⟨q,o⟩ : Q1),(bF,bG))]) 1 Z (fun F w hφ=>⟨[.int .i64 q,.slice bF o.length bG],[],Z,Z,Z,Z⟩) Z (by decide) (H':=V18 ..) Z (Q1t [Q1w Qa [] none,_,_,_,_,_,_,_,_,_,_,_,_,_,_,_,_,_,_] (fun _ h=>h.bagNil Qa) (Q1S [6,0,1,2,3,4,5,7,8,9,10,11,12,13,14,15,16,17,18] Z (H':=V19 ..) Z (Q1t [Q1w Qa ([((⟨q,o⟩ : Q1),(bF,bG))]) none,_,_,_,_,_,_,_,_,_,_,_,_,_,_,_,_,_] (fun _ h=>QU.bagPush (T:=Qa) (x:=(⟨q,o⟩ : Q1)) (r:=(bF,bG)) (zs:=[]) (H:=V18 ..) h 0 Z) (Q1t [_,Q1e Qa 45 2 (.slice (some ⟨(E 3).1,0,none⟩) 1 1) ([(⟨q,o⟩ : Q1)]),_,_,_,_,_,_,_,_,_,_,_,_,_,_,_] (fun _ h=>h.treeIn 2 0 Z Z Z Z) ?_))))))))))))))
 refine Q1J 1 Z (fun cR _=>(Q23 1 (v':=.slice (some ⟨(E 3).1,0,none⟩) ([(⟨q,o⟩ : Q1)].length) 1) Z (by rw [cR]) (Q1r 4 (φ':=.blk (E 8).1 [.slice (some ⟨(E 1).1,0,none⟩) ([(⟨j,f⟩ : Q1)].length) 1,.slice (some ⟨(E 3).1,0,none⟩) ([(⟨q,o⟩ : Q1)].length) 1,.slice (E 5).2.2 (E 5).1 (E 5).2.1,.slice (E 7).2.2 (E 7).1 (E 7).2.1] 40) Z (by rw [cR]) (H':=V17 ..) Z (Q1r 1 (φ':=Q1e Qa 45 2 (.slice (some ⟨(E 3).1,0,none⟩) ([(⟨q,o⟩ : Q1)].length) 1) ([(⟨q,o⟩ : Q1)])) Z (by rw [cR]) (H':=V17 ..) Z (Q1J 2 Z (fun cS _=>?_))))))
 first | subst cS | rw [cS] | rw [← cS]
 refine Q1J 3 Z (fun cT _=>?_)
 first | subst cT | rw [cT] | rw [← cT]
 refine Q1U (sz:=1) (m:=4) Q1H.pair ([([(⟨j,f⟩ : Q1)],(some (⟨(E 1).1,0,none⟩ : Addr),1)),([(⟨q,o⟩ : Q1)],(some (⟨(E 3).1,0,none⟩ : Addr),1)),(bJ,((E 5).2.2,(E 5).2.1)),(bK,((E 7).2.2,(E 7).2.1))]) 4 Z (fun F w hφ=>⟨[.slice (some ⟨(E 1).1,0,none⟩) ([(⟨j,f⟩ : Q1)].length) 1],[.slice (some ⟨(E 3).1,0,none⟩) ([(⟨q,o⟩ : Q1)].length) 1,.slice (E 5).2.2 bJ.length (E 5).2.1,.slice (E 7).2.2 bK.length (E 7).2.1],Z,Z,Z,⟨[.slice (some ⟨(E 3).1,0,none⟩) ([(⟨q,o⟩ : Q1)].length) 1],[.slice (E 5).2.2 bJ.length (E 5).2.1,.slice (E 7).2.2 bK.length (E 7).2.1],Z,Z,Z,⟨[.slice (E 5).2.2 bJ.length (E 5).2.1],[.slice (E 7).2.2 bK.length (E 7).2.1],Z,Z,Z,⟨[.slice (E 7).2.2 bK.length (E 7).2.1],[],Z,Z,Z,Z⟩⟩⟩⟩) Z (by decide) (H':=V17 ..) Z (Q1t [Q1w Q1H [] none,_,_,_,_,_,_,_,_,_,_,_,_,_,_,_,_,_] (fun _ h=>h.bagNil Q1H) (Q1S [1,0,2,3,4,5,6,7,8,9,10,11,12,13,14,15,16,17] Z (H':=V18 ..) Z (Q1t [Q1w Q1H ([([(⟨j,f⟩ : Q1)],(some (⟨(E 1).1,0,none⟩ : Addr),1))]) none,_,_,_,_,_,_,_,_,_,_,_,_,_,_,_,_] (fun _ h=>QU.bagPush (T:=Q1H) (x:=[(⟨j,f⟩ : Q1)]) (r:=(some (⟨(E 1).1,0,none⟩ : Addr),1)) (zs:=[]) (H:=V17 ..) h 0 Z) (Q1S [1,0,2,3,4,5,6,7,8,9,10,11,12,13,14,15,16] Z (H':=V17 ..) Z (Q1t [Q1w Q1H (([([(⟨j,f⟩ : Q1)],(some (⟨(E 1).1,0,none⟩ : Addr),1))]) ++ [([(⟨q,o⟩ : Q1)],(some (⟨(E 3).1,0,none⟩ : Addr),1))]) none,_,_,_,_,_,_,_,_,_,_,_,_,_,_,_] (fun _ h=>QU.bagPush (T:=Q1H) (x:=[(⟨q,o⟩ : Q1)]) (r:=(some (⟨(E 3).1,0,none⟩ : Addr),1)) (zs:=[([(⟨j,f⟩ : Q1)],(some (⟨(E 1).1,0,none⟩ : Addr),1))]) (H:=V16 ..) h 0 Z) (Q1S [1,0,2,3,4,5,6,7,8,9,10,11,12,13,14,15] Z (H':=V16 ..) Z (Q1t [Q1w Q1H ((([([(⟨j,f⟩ : Q1)],(some (⟨(E 1).1,0,none⟩ : Addr),1))]) ++ [([(⟨q,o⟩ : Q1)],(some (⟨(E 3).1,0,none⟩ : Addr),1))]) ++ [(bJ,((E 5).2.2,(E 5).2.1))]) none,_,_,_,_,_,_,_,_,_,_,_,_,_,_] (fun _ h=>QU.bagPush (T:=Q1H) (x:=bJ) (r:=((E 5).2.2,(E 5).2.1)) (zs:=([([(⟨j,f⟩ : Q1)],(some (⟨(E 1).1,0,none⟩ : Addr),1))]) ++ [([(⟨q,o⟩ : Q1)],(some (⟨(E 3).1,0,none⟩ : Addr),1))]) (H:=V15 ..) h 0 Z) (Q1S [1,0,2,3,4,5,6,7,8,9,10,11,12,13,14] Z (H':=V15 ..) Z (Q1t [Q1w Q1H (((([([(⟨j,f⟩ : Q1)],(some (⟨(E 1).1,0,none⟩ : Addr),1))]) ++ [([(⟨q,o⟩ : Q1)],(some (⟨(E 3).1,0,none⟩ : Addr),1))]) ++ [(bJ,((E 5).2.2,(E 5).2.1))]) ++ [(bK,((E 7).2.2,(E 7).2.1))]) none,_,_,_,_,_,_,_,_,_,_,_,_,_] (fun _ h=>QU.bagPush (T:=Q1H) (x:=bK) (r:=((E 7).2.2,(E 7).2.1)) (zs:=(([([(⟨j,f⟩ : Q1)],(some (⟨(E 1).1,0,none⟩ : Addr),1))]) ++ [([(⟨q,o⟩ : Q1)],(some (⟨(E 3).1,0,none⟩ : Addr),1))]) ++ [(bJ,((E 5).2.2,(E 5).2.1))]) (H:=V14 ..) h 0 Z) (Q1r 0 (φ':=Q1w Q1H ([([(⟨j,f⟩ : Q1)],(some (⟨(E 1).1,0,none⟩ : Addr),1)),([(⟨q,o⟩ : Q1)],(some (⟨(E 3).1,0,none⟩ : Addr),1)),(bJ,((E 5).2.2,(E 5).2.1)),(bK,((E 7).2.2,(E 7).2.1))]) none) Z Z (H':=V14 ..) Z (Q1t [Q1e Q1H 40 1 (.slice (some ⟨(E 8).1,0,none⟩) 4 4) ([[(⟨j,f⟩ : Q1)],[(⟨q,o⟩ : Q1)],bJ,bK]),_,_,_,_,_,_,_,_,_,_,_,_] (fun _ h=>h.treeIn 1 0 Z Z Z Z) (Q1J 0 Z (fun dM _=>(Q23 4 (v':=.slice (some ⟨(E 8).1,0,none⟩) ([[(⟨j,f⟩ : Q1)],[(⟨q,o⟩ : Q1)],bJ,bK].length) 4) Z (by rw [dM]) ?_))))))))))))))
 refine Q1r 0 (φ':=Q1e Q1H 40 1 (.slice (some ⟨(E 8).1,0,none⟩) ([[(⟨j,f⟩ : Q1)],[(⟨q,o⟩ : Q1)],bJ,bK].length) 4) ([[(⟨j,f⟩ : Q1)],[(⟨q,o⟩ : Q1)],bJ,bK])) Z (by rw [dM]) (H':=V13 ..) Z (Q39 0 Z (fun eV c2=>(wC [1,0] [2,3,4,5,6,7,8,9,10,11,12,13] Z fn_17 Z (ap_ApartTokens (some ⟨(E 8).1,0,none⟩) ([[(⟨j,f⟩ : Q1)],[(⟨q,o⟩ : Q1)],bJ,bK].length) 4 eV (by rw [Q2t c2]) (by rw [Q2t c2]; exact cV.1) (fun z hz=>cV.2 z.1 (by rw [← c2]; exact List.mem_map_of_mem hz))) (asK [] Z) Z (H':=V12 ..) Z ?_)))
 rintro _ _ _ ⟨fT,fK,rfl,rfl,rfl⟩
 refine Q2J 0 Z (H':=V13 ..) Z (Q2J 0 Z (H':=V12 ..) Z (Q2 ?_))
 exact Q1j (k:=9) (default,default,default) [] [0,1,2,3,4,5,6,7,8,9,10,11] Z Z Z Z
 intro E C
 show WL _ C _ _ [_] (V12 ..) [(132,.bool true),_,_,_,_] _ [_]
 refine wP Z (Q2 ?_)
 exact Q1j (k:=10) (default,default,default) [] [0,1,2,3,4,5,6,7,8,9,10,11] Z Z Z Z
 intro E C
 show WL _ C _ _ [_] (V12 ..) [(133,.bool true),_,_,_,_] _ [_]
 refine wP Z (Q2 ?_)
 exact Q1j (k:=11) (default,default,default) [] [0,1,2,3,4,5,6,7,8,9,10,11] Z Z Z Z
 intro E C
 show WL _ C _ _ [_] (V12 ..) [(133,.bool true),(134,.pointer (some ⟨a9,0,none⟩)),_,_,_,_] _ [_]
 refine wC [1,2,3,4,5] [0,6,7,8,9,10,11] Z fn_15 Z (Q3U N a9 b1 b3 b2 a5 s a0 y a6 a1 a3 a2 a7 a4 a8 _ eR) (asK [0] Z) Z (H':=V7 ..) Z ?_
 rintro _ _ _ ⟨d2,d3,d4,rfl,rfl,rfl⟩
 refine Q2 ?_
 exact Q1j (k:=12) (d4,d3,d2) [] [0,6,1,2,3,4,5,7,8,9,10,11,12] Z Z Z Z
 intro E C
 show WL _ C _ _ [_] (V12 ..) [(133,.bool true),_,_,_,_] _ [_]
 refine wP Z (Q2 ?_)
 exact Q1j (k:=13) (default,default,default) [] [0,1,2,3,4,5,6,7,8,9,10,11] Z Z Z Z
 intro E C
 show WL _ C _ _ [_] (V12 ..) [(133,.bool true),(136,.pointer (some ⟨b6,0,none⟩)),_,_,_,_] _ [_]
 refine wC [7,8,9,10,11] [0,1,2,3,4,5,6] Z fn_16 Z (Q6z N b6 b7 ((([] : List Qw)).length) b8 ([] : List Qw) b9 bB bA bU aP aR aQ b4 aS aU aT b5 _ eS) (asK [0] Z) Z (H':=V7 ..) Z ?_
 rintro _ _ _ ⟨d5,d6,d7,rfl,rfl,rfl⟩
 refine Q2 ?_
 exact Q1j (k:=14) (d7,d6,d5) [] [0,6,7,8,9,10,11,12,1,2,3,4,5] Z Z Z Z
 intro E C
 show WL _ C _ _ [_] [Q1e Qa 45 2 (.slice (E 12).2.2 (E 12).1 (E 12).2.1) dK,.own 45 2 Q8 (.slice (E 14).2.2 (E 14).1 (E 14).2.1) dL,_,_,_,_,_,_,_,_,_,_,_,_] [(133,.bool true),(135,.slice (E 12).2.2 (E 12).1 (E 12).2.1),(137,.slice (E 14).2.2 (E 14).1 (E 14).2.1),_,_,_,_] _ [_]
 refine Q1J 0 Z (fun cU _=>?_)
 first | subst cU | rw [cU] | rw [← cU]
 refine QQ 1 Z (fun bT _=>?_)
 first | subst bT | rw [bT] | rw [← bT]
 refine Q1y [] [0,1,2,3,4,5,6,7,8,9,10,11,12,13] [0,1] Z Z Z Zq Z Z fn_14 Z (Q7r N (E 12).2.2 (E 12).2.1 dK (E 14).2.2 (E 14).2.1 dL _ eT) (fun F w hφ hh=>(Qe (Q8I Q3a (hh _ (Qo (k:=0) Z)) (fun _ h=>h) (fun _ h=>h)) (Qe (Q1d (hh _ (Qo (k:=1) Z))) Ql))) (fun _ _ _ hR=>by obtain ⟨rfl,rfl,rfl⟩:=hR; exact ⟨Z,(fun _ h=>Q1q h)⟩) Z Z (H':=V14 ..) Z ?_
 rintro _ _ _ ⟨rfl,rfl,rfl⟩
 refine Qx (d:=138) (v':=.bool true) (S':=V7 ..) Z Z (Q16 dS) (Q2 ?_)
 exact Q1j (k:=15) (default,default,default) [] [2,3,4,5,6,7,8,9,10,11,12,13] Z Z Z Z
 intro E C
 show WL _ C _ _ [_] (V12 ..) [(133,.bool true),(138,.bool true),_,_,_,_] _ [_]
 refine wP Z (Q2 ?_)
 exact Q1j (k:=16) (default,default,default) [] [0,1,2,3,4,5,6,7,8,9,10,11] Z Z Z Z
 intro E C
 show WL _ C _ _ [_] (V12 ..) [(139,.bool true),_,_,_,_] _ [_]
 refine wP Z (Q2 ?_)
 exact Q1j (k:=17) (default,default,default) [] [0,1,2,3,4,5,6,7,8,9,10,11] Z Z Z Z
 intro E C
 show WL _ C _ _ [_] (V12 ..) [(140,.bool true),_,_,_,_] _ [_]
 refine wC [] [0,1,2,3,4,5,6,7,8,9,10,11] Z fn_5 Z (Q2G N  eU) (asK [0] Z) Z (H':=V12 ..) Z ?_
 rintro _ _ _ ⟨rfl,rfl,rfl⟩
 refine Q2 ?_
 exact Q1j (k:=18) (default,default,default) [] [0,1,2,3,4,5,6,7,8,9,10,11] Z Z Z Z
 intro E C
 show WL _ C _ _ [_] (V12 ..) [(140,.bool true),(141,.bool true),_,_,_,_] _ [_]
 refine wP Z (Q2 ?_)
 exact Q1j (k:=19) (default,default,default) [] [0,1,2,3,4,5,6,7,8,9,10,11] Z Z Z Z
 intro E C
 show WL _ C _ _ [_] (V12 ..) [(142,.bool true),_,_,_,_] _ [_]
 refine wP Z (Q2 ?_)
 exact Q1j (k:=20) (default,default,default) [] [0,1,2,3,4,5,6,7,8,9,10,11] Z Z Z Z
 show WE _ _ _ [_] (V12 ..) [(123,.agg #[.int .i64 j,.slice bD f.length bE]),(124,.slice (some ⟨(E 1).1,0,none⟩) 1 1),(125,.agg #[.int .i64 q,.slice bF o.length bG]),(126,.slice (some ⟨(E 3).1,0,none⟩) 1 1),(127,.pointer (some ⟨a9,0,none⟩)),(128,.slice (E 5).2.2 (E 5).1 (E 5).2.1),(129,.pointer (some ⟨a9,0,none⟩)),(130,.slice (E 7).2.2 (E 7).1 (E 7).2.1),(131,.slice (some ⟨(E 8).1,0,none⟩) 4 4),(132,.bool true),(133,.bool true),(134,.pointer (some ⟨a9,0,none⟩)),(135,.slice (E 12).2.2 (E 12).1 (E 12).2.1),(136,.pointer (some ⟨b6,0,none⟩)),(137,.slice (E 14).2.2 (E 14).1 (E 14).2.1),(138,.bool true),(139,.bool true),(140,.bool true),(141,.bool true),(142,.bool true),(4,.bool true),_,_,_,_] .normal
 generalize (E 5).2.1 = cX
 generalize (E 5).1 = cY
 generalize (E 7).2.1 = d0
 generalize (E 7).1 = d1
 generalize (E 12).2.1 = d3
 generalize (E 12).1 = d4
 generalize (E 14).2.1 = d6
 generalize (E 14).1 = d7
 generalize (E 1).1 = dX
 generalize (E 3).1 = dY
 generalize (E 8).1 = dZ
 generalize (E 5).2.2 = cW
 generalize (E 7).2.2 = cZ
 generalize (E 12).2.2 = d2
 generalize (E 14).2.2 = d5
 refine Q4 (Q5 [4] (S':=[_]) Z (QJ ?_))
 have hE:=(Zi hm).symm
 replace hE:=hE.symm
 subst hE
 refine QA (Hr:=[]) [] Tryz.results3 (Qy Z) ⟨Z,Z,Z⟩ (asK [] Z) Z Z (.inl Z)
end Go.Proofs.YtgangmegcejllaaGreatDoor
