import Derived.Test.YtbgodclhmgmcgaaGreatDoorXW7
namespace Go.Proofs.YtbgodclhmgmcgaaGreatDoor
open Go.RowKit
set_option maxRecDepth 100000
set_option maxHeartbeats 4000000
theorem w_value_does_2_s (N:Nat) (a0:Int) (a1:Int)  (hm:Q9e N a0 a1 = some ()):Q1o Tryz.prog 148 [.int .i64 a0,.int .i64 a1] [] [] (fun v Φr Hr=>v = .tuple #[.int .i64 (IntKind.wrap .i64 (a0 + a1)),.bool ((decide ((IntKind.wrap .i64 (a0 + a1)) < a0)) == (decide (a1 < 0)))] ∧ Φr = [] ∧ Hr = []):=by
 unfold Q9e at hm
 refine QD Tryz.func148 Z Tryz.ntmps148 Z (S:=[_,_]) Z (fun C=>(Q5 (Q1 (wP Z (wP Z (Q3 (Q4 (Q2 [0,1] (S':=[_,_]) Z (Q5 (Q1 (wP Z (wP Z (wP Z (wP Z ?_))))))))))))))
 refine wP Z (wP Z (wP Z (wP Z (wP Z (wP Z (Q7Q Z Z Z Zq Z Z Z (eqlB _ _ (decide ((IntKind.wrap .i64 (a0 + a1)) < a0)) (decide (a1 < 0))) (wP Z (wP Z (Q3 (Q4 (Q2 [5,4] (S':=[_,_]) Z (Qb ?_))))))))))))
 have hE:=(Zi hm).symm
 refine Q1r (Hr:=[]) [] Tryz.results148 (Qc Z) (Qc Z) ⟨Z,Z,Z⟩ (asK [] Z) Z Z (.inl Z)
theorem w_value_does_3_s (N:Nat) (a0:Int) (a1:Int)  (hm:Q9f N a0 a1 = some ()):Q1o Tryz.prog 149 [.int .i64 a0,.int .i64 a1] [] [] (fun v Φr Hr=>v = .tuple #[.int .i64 (IntKind.wrap .i64 (a0 - a1)),.bool ((decide ((IntKind.wrap .i64 (a0 - a1)) > a0)) == (decide (a1 < 0)))] ∧ Φr = [] ∧ Hr = []):=by
 unfold Q9f at hm
 refine QD Tryz.func149 Z Tryz.ntmps149 Z (S:=[_,_]) Z (fun C=>(Q5 (Q1 (wP Z (wP Z (Q3 (Q4 (Q2 [0,1] (S':=[_,_]) Z (Q5 (Q1 (wP Z (wP Z (wP Z (wP Z ?_))))))))))))))
 refine wP Z (wP Z (wP Z (wP Z (wP Z (wP Z (Q7Q Z Z Z Zq Z Z Z (eqlB _ _ (decide ((IntKind.wrap .i64 (a0 - a1)) > a0)) (decide (a1 < 0))) (wP Z (wP Z (Q3 (Q4 (Q2 [5,4] (S':=[_,_]) Z (Qb ?_))))))))))))
 have hE:=(Zi hm).symm
 refine Q1r (Hr:=[]) [] Tryz.results149 (Qc Z) (Qc Z) ⟨Z,Z,Z⟩ (asK [] Z) Z Z (.inl Z)
theorem w_value_product_s (N:Nat) (a0:Int) (a1:Int) (o0:Int) (o1:Bool) (hm:Q8L N a0 a1 = some (o0,o1)):Q1o Tryz.prog 150 [.int .i64 a0,.int .i64 a1] [] [] (fun v Φr Hr=>v = .tuple #[.int .i64 o0,.bool o1] ∧ Φr = [] ∧ Hr = []):=by
 unfold Q8L at hm
 refine QD Tryz.func150 Z Tryz.ntmps150 Z (S:=[_,_]) Z (fun C=>(Q5 (Q1 (wP Z (wP Z (Q3 (Q4 (Q2 [0,1] (S':=[_,_]) Z (Q5 (Q1 (wP Z (Q1B Z Z Z Zq (QaI Z Z tI_2 tI_246) (wP Z (Q1B Z Z Z Zq (QaI Z Z tI_2 tI_246) ?_))))))))))))))
 refine wP Z (wP Z (Q3 (Q4 (Q2 [7,6,0,1] (S':=V4 ..) Z (Q5 ?_)))))
 obtain ⟨aC,hm,hLj_1⟩:=Q6 hm
 refine QI (σ:=Int) (fun j=>aC = j) (fun j=>[(7,.int .u64 (IntKind.wrap .u64 a1)),(6,.int .u64 j),(0,.int .i64 a0),(1,.int .i64 a1)]) (fun j=>[]) (fun j=>[]) ?_ ?_
 refine Q5 (Q1 (wP Z (wP Z (Q3 (Q4 (Q2 [15,7,6,0,1] (S':=V5 ..) Z ?_))))))
 refine Qj Z (fun s=>?_) (fun s=>?_)
 replace hm:=QA hm s
 refine Q2 [7,6,0,1] (S':=V4 ..) Z (Q1 (wP Z (Q1B Z Z Z Zq (rk_neg Z Z) (Q1b (S':=V5 ..) Z Z Z Z Z (Q3 ?_)))))
 have hE:=(Zi hm).symm
 refine Q9 (IntKind.wrap .u64 (0 - (IntKind.wrap .u64 a0))) hE [7,6,0,1] Z (asK [] Z) Z
 replace hm:=Qz hm s
 refine Q2 [7,6,0,1] (S':=V4 ..) Z (Qq ?_)
 have hE:=(Zi hm).symm
 refine Q9 (IntKind.wrap .u64 a0) hE [7,6,0,1] Z (asK [] Z) Z
 rintro j hE
 try dsimp only
 have hm:=hLj_1
 rw [hE] at hm
 refine Q5 ?_
 obtain ⟨aD,hm,hLj_2⟩:=Q6 hm
 refine QI (σ:=Int) (fun q=>aD = q) (fun q=>[(7,.int .u64 q),(6,.int .u64 j),(0,.int .i64 a0),(1,.int .i64 a1)]) (fun q=>[]) (fun q=>[]) ?_ ?_
 refine Q5 (Q1 (wP Z (wP Z (Q3 (Q4 (Q2 [19,7,6,0,1] (S':=V5 ..) Z ?_))))))
 refine Qj Z (fun z=>?_) (fun z=>?_)
 replace hm:=QA hm z
 refine Q2 [7,6,0,1] (S':=V4 ..) Z (Q1 (wP Z (Q1B Z Z Z Zq (rk_neg Z Z) (Q1b (S':=V5 ..) Z Z Z Z Z (Q3 ?_)))))
 have hE:=(Zi hm).symm
 refine Q9 (IntKind.wrap .u64 (0 - (IntKind.wrap .u64 a1))) hE [7,6,0,1] Z (asK [] Z) Z
 replace hm:=Qz hm z
 refine Q2 [7,6,0,1] (S':=V4 ..) Z (Qq ?_)
 have hE:=(Zi hm).symm
 refine Q9 (IntKind.wrap .u64 a1) hE [7,6,0,1] Z (asK [] Z) Z
 rintro q hE
 try dsimp only
 have hm:=hLj_2
 rw [hE] at hm
 refine Q5 (Q1 (wP Z (wP Z ?_)))
 obtain ⟨a8,hm⟩:=Qu hm
 obtain ⟨a9,hm⟩:=Qu hm
 refine wC [] [] Z fn_195 Z (sh_Mul64 j q a8 a9) (asK [] Z) Z (H':=[]) Z ?_
 rintro _ _ _ ⟨rfl,rfl,rfl⟩
 refine wP Z (wP Z (wP Z (wP Z (wP Z (Q3 (Q4 (Q2 [9,8,0,1] (S':=V4 ..) Z (Q5 (Q5 (Q1 (wP Z (wP Z (wP Z ?_)))))))))))))
 refine wP Z (Q7Q Z Z Z Zq Z Z Z (neqB _ _ (decide (a0 < 0)) (decide (a1 < 0))) (Q3 (Q4 (Q2 [32,9,8] (S':=V3 ..) Z ?_))))
 refine Qj Z (fun a5=>?_) (fun a5=>?_)
 replace hm:=QA hm a5
 refine Q2 [9,8] (S':=[_,_]) Z (Q5 (Q1 (wP Z (Q1B Z Z Z Zq (rk_neg Z Z) (Q1B Z Z Z Zq (QaI Z Z tI_246 tI_2) (wP Z (wP Z (wP Z ?_))))))))
 refine Qt (d:=38) (S':=V7 ..) Z Z (fun a6=>?_) (fun a6=>?_)
 replace hm:=QA hm a6
 refine wP Z (wP Z (wP Z (wP Z (wP Z (Q3 (Q4 (Q2 [5,4] (S':=[_,_]) Z (Qb (Q7 ?_)))))))))
 have hE:=(Zi hm).symm
 obtain ⟨hE0,hE1⟩:=Prod.mk.inj hE
 clear hE
 replace hE0:=hE0.symm
 subst hE0
 replace hE1:=hE1.symm
 subst hE1
 refine Q1r (Hr:=[]) [] Tryz.results150 (Qc Z) (Qc Z) ⟨Z,Z,Z⟩ (asK [] Z) Z Z (.inl Z)
 replace hm:=Qz hm a6
 refine wO Z (wO Z (wP Z (wP Z (wP Z (Q3 (Q4 (Q2 [5,4] (S':=[_,_]) Z (Qb (Q7 ?_)))))))))
 have hE:=(Zi hm).symm
 obtain ⟨hE0,hE1⟩:=Prod.mk.inj hE
 clear hE
 replace hE0:=hE0.symm
 subst hE0
 replace hE1:=hE1.symm
 subst hE1
 refine Q1r (Hr:=[]) [] Tryz.results150 (Qc Z) (Qc Z) ⟨Z,Z,Z⟩ (asK [] Z) Z Z (.inl Z)
 replace hm:=Qz hm a5
 refine Q2 [9,8] (S':=[_,_]) Z (Qq (Q4 (Q5 (Q1 (wP Z (Q1B Z Z Z Zq (QaI Z Z tI_246 tI_2) (wP Z (wP Z (wP Z ?_)))))))))
 refine Qt (d:=46) (S':=V6 ..) Z Z (fun a7=>?_) (fun a7=>?_)
 replace hm:=QA hm a7
 refine wP Z (wP Z (wP Z (wP Z (wP Z (Q3 (Q4 (Q2 [5,4] (S':=[_,_]) Z (Qb ?_))))))))
 have hE:=(Zi hm).symm
 obtain ⟨hE0,hE1⟩:=Prod.mk.inj hE
 clear hE
 replace hE0:=hE0.symm
 subst hE0
 replace hE1:=hE1.symm
 subst hE1
 refine Q1r (Hr:=[]) [] Tryz.results150 (Qc Z) (Qc Z) ⟨Z,Z,Z⟩ (asK [] Z) Z Z (.inl Z)
 replace hm:=Qz hm a7
 refine wO Z (wO Z (wP Z (wP Z (wP Z (Q3 (Q4 (Q2 [5,4] (S':=[_,_]) Z (Qb ?_))))))))
 have hE:=(Zi hm).symm
 obtain ⟨hE0,hE1⟩:=Prod.mk.inj hE
 clear hE
 replace hE0:=hE0.symm
 subst hE0
 replace hE1:=hE1.symm
 subst hE1
 refine Q1r (Hr:=[]) [] Tryz.results150 (Qc Z) (Qc Z) ⟨Z,Z,Z⟩ (asK [] Z) Z Z (.inl Z)
theorem w_value_does_4_s (N:Nat) (a0:Int) (a1:Int)  (hm:Q9g N a0 a1 = some ()):Q1o Tryz.prog 151 [.int .i64 a0,.int .i64 a1] [] [] (fun v Φr Hr=>v = .tuple #[.int .i64 (IntKind.wrap .i64 (0 - a0)),.bool (a0 != -9223372036854775808)] ∧ Φr = [] ∧ Hr = []):=by
 unfold Q9g at hm
 refine QD Tryz.func151 Z Tryz.ntmps151 Z (S:=[_,_]) Z (fun C=>(Q5 (Q1 (wP Z (wP Z (Q3 (Q4 (Q2 [0] (S':=[_]) Z (Q5 (Q1 (wP Z (Q1B Z Z Z Zq (rk_neg Z Z) (wP Z (wP Z ?_))))))))))))))
 refine wP Z (wP Z (Q3 (Q4 (Q2 [5,4] (S':=[_,_]) Z (Qb ?_)))))
 have hE:=(Zi hm).symm
 refine Q1r (Hr:=[]) [] Tryz.results151 (Qc Z) (Qc Z) ⟨Z,Z,Z⟩ (asK [] Z) Z Z (.inl Z)
theorem Q3z (N:Nat) (a0:Bool) (o0:Int) (hm:Q3b N a0 = some o0):Q1o Tryz.prog 147 [.bool a0] [] [] (fun v Φr Hr=>v = .tuple #[.int .i64 o0,.bool true] ∧ Φr = [] ∧ Hr = []):=by
 unfold Q3b at hm
 refine QD Tryz.func147 Z Tryz.ntmps147 Z (S:=[_]) Z (fun C=>(Q5 (Q1 (wP Z (wP Z (Q3 (Q4 (Q2 [0] (S':=[_]) Z (Q5 (Q1 (wP Z ?_)))))))))))
 obtain ⟨v5,hc5,hm⟩:=Q6 hm
 refine wC [] [] Z fn_117 Z (Q8U N a0 _ hc5) (asK [] Z) Z (H':=[]) Z ?_
 rintro _ _ _ ⟨rfl,rfl,rfl⟩
 refine Q1B Z Z Z Zq (Q4p Z Z tFT_57_1 tA_2 tS_2 (v:=.int .i64 v5) Z) (wP Z (wP Z (Q3 (Q4 (Q2 [3,2] (S':=[_,_]) Z (Qb ?_))))))
 have hE:=(Zi hm).symm
 replace hE:=hE.symm
 subst hE
 refine Q1r (Hr:=[]) [] Tryz.results147 (Qc Z) (Qc Z) ⟨Z,Z,Z⟩ (asK [] Z) Z Z (.inl Z)
theorem w_value_does_5_s (N:Nat) (a0:Int) (a1:Int) (qg0:Nat) (o0:Int) (hm:Q9h N a0 a1 = some o0):Q1o Tryz.prog 152 [.int .i64 a0,.int .i64 a1,.pointer (some ⟨qg0,0,none⟩)] [] [.blk qg0 [.func (.func 147) #[] #[]] 220] (fun v Φr Hr=>v = .tuple #[.int .i64 o0,.bool true] ∧ Φr = [] ∧ Hr = [.blk qg0 [.func (.func 147) #[] #[]] 220]):=by
 unfold Q9h at hm
 refine QD Tryz.func152 Z Tryz.ntmps152 Z (S:=V3 ..) Z (fun C=>(Q5 (Q1 (wP Z (wP Z (Q3 (Q4 (Q2 [0,1,2] (S':=V3 ..) Z (Q5 (Q1 (wD 0 0 Z Q7M tA_220 Z (wP Z (wP Z (wP Z ?_))))))))))))))
 obtain ⟨v11,hc11,hm⟩:=Q6 hm
 refine Q1R [] [0] Z Z Z Zq Z Z Z fn_147 Z Z (Q3z N (decide (a0 < a1)) _ hc11) (asK [] Z) Z (H':=[_]) Z ?_
 rintro _ _ _ ⟨rfl,rfl,rfl⟩
 refine wP Z (wP Z (wP Z (wP Z (Q3 (Q4 (Q2 [6,5] (S':=[_,_]) Z (Qb ?_)))))))
 have hE:=(Zi hm).symm
 replace hE:=hE.symm
 subst hE
 refine Q1r (Hr:=[_]) [0] Tryz.results152 (Qc Z) (Qc Z) ⟨Z,Z,Z⟩ (asK [] Z) Z Z (.inl Z)
theorem w_value_does_6_s (N:Nat) (a0:Int) (a1:Int) (qg0:Nat) (o0:Int) (hm:Q9i N a0 a1 = some o0):Q1o Tryz.prog 153 [.int .i64 a0,.int .i64 a1,.pointer (some ⟨qg0,0,none⟩)] [] [.blk qg0 [.func (.func 147) #[] #[]] 220] (fun v Φr Hr=>v = .tuple #[.int .i64 o0,.bool true] ∧ Φr = [] ∧ Hr = [.blk qg0 [.func (.func 147) #[] #[]] 220]):=by
 unfold Q9i at hm
 refine QD Tryz.func153 Z Tryz.ntmps153 Z (S:=V3 ..) Z (fun C=>(Q5 (Q1 (wP Z (wP Z (Q3 (Q4 (Q2 [0,1,2] (S':=V3 ..) Z (Q5 (Q1 (wD 0 0 Z Q7M tA_220 Z (wP Z (wP Z (wP Z ?_))))))))))))))
 obtain ⟨v11,hc11,hm⟩:=Q6 hm
 refine Q1R [] [0] Z Z Z Zq Z Z Z fn_147 Z Z (Q3z N (decide (a0 ≤ a1)) _ hc11) (asK [] Z) Z (H':=[_]) Z ?_
 rintro _ _ _ ⟨rfl,rfl,rfl⟩
 refine wP Z (wP Z (wP Z (wP Z (Q3 (Q4 (Q2 [6,5] (S':=[_,_]) Z (Qb ?_)))))))
 have hE:=(Zi hm).symm
 replace hE:=hE.symm
 subst hE
 refine Q1r (Hr:=[_]) [0] Tryz.results153 (Qc Z) (Qc Z) ⟨Z,Z,Z⟩ (asK [] Z) Z Z (.inl Z)
theorem w_value_does_7_s (N:Nat) (a0:Int) (a1:Int) (qg0:Nat) (o0:Int) (hm:Q9j N a0 a1 = some o0):Q1o Tryz.prog 154 [.int .i64 a0,.int .i64 a1,.pointer (some ⟨qg0,0,none⟩)] [] [.blk qg0 [.func (.func 147) #[] #[]] 220] (fun v Φr Hr=>v = .tuple #[.int .i64 o0,.bool true] ∧ Φr = [] ∧ Hr = [.blk qg0 [.func (.func 147) #[] #[]] 220]):=by
 unfold Q9j at hm
 refine QD Tryz.func154 Z Tryz.ntmps154 Z (S:=V3 ..) Z (fun C=>(Q5 (Q1 (wP Z (wP Z (Q3 (Q4 (Q2 [0,1,2] (S':=V3 ..) Z (Q5 (Q1 (wD 0 0 Z Q7M tA_220 Z (wP Z (wP Z (wP Z ?_))))))))))))))
 refine Qt (d:=10) (S':=V6 ..) Z Z (fun hs10=>?_) (fun hs10=>?_)
 replace hm:=QA hm hs10
 refine wP Z (wP Z (wP Z ?_))
 obtain ⟨v14,hc14,hm⟩:=Q6 hm
 refine Q1R [] [0] Z Z Z Zq Z Z Z fn_147 Z Z (Q3z N (a1 != 0) _ hc14) (asK [] Z) Z (H':=[_]) Z ?_
 rintro _ _ _ ⟨rfl,rfl,rfl⟩
 refine wP Z (wP Z (wP Z (wP Z (Q3 (Q4 (Q2 [6,5] (S':=[_,_]) Z (Qb ?_)))))))
 have hE:=(Zi hm).symm
 replace hE:=hE.symm
 subst hE
 refine Q1r (Hr:=[_]) [0] Tryz.results154 (Qc Z) (Qc Z) ⟨Z,Z,Z⟩ (asK [] Z) Z Z (.inl Z)
 replace hm:=Qz hm hs10
 refine wO Z (wO Z (wP Z ?_))
 obtain ⟨v14,hc14,hm⟩:=Q6 hm
 refine Q1R [] [0] Z Z Z Zq Z Z Z fn_147 Z Z (Q3z N false _ hc14) (asK [] Z) Z (H':=[_]) Z ?_
 rintro _ _ _ ⟨rfl,rfl,rfl⟩
 refine wP Z (wP Z (wP Z (wP Z (Q3 (Q4 (Q2 [6,5] (S':=[_,_]) Z (Qb ?_)))))))
 have hE:=(Zi hm).symm
 replace hE:=hE.symm
 subst hE
 refine Q1r (Hr:=[_]) [0] Tryz.results154 (Qc Z) (Qc Z) ⟨Z,Z,Z⟩ (asK [] Z) Z Z (.inl Z)
theorem w_value_does_8_s (N:Nat) (a0:Int) (a1:Int) (qg0:Nat) (o0:Int) (hm:Q9k N a0 a1 = some o0):Q1o Tryz.prog 155 [.int .i64 a0,.int .i64 a1,.pointer (some ⟨qg0,0,none⟩)] [] [.blk qg0 [.func (.func 147) #[] #[]] 220] (fun v Φr Hr=>v = .tuple #[.int .i64 o0,.bool true] ∧ Φr = [] ∧ Hr = [.blk qg0 [.func (.func 147) #[] #[]] 220]):=by
 unfold Q9k at hm
 refine QD Tryz.func155 Z Tryz.ntmps155 Z (S:=V3 ..) Z (fun C=>(Q5 (Q1 (wP Z (wP Z (Q3 (Q4 (Q2 [0,1,2] (S':=V3 ..) Z (Q5 (Q1 (wD 0 0 Z Q7M tA_220 Z (wP Z (wP Z (wP Z ?_))))))))))))))
 refine Qt (d:=10) (S':=V6 ..) Z Z (fun hs10=>?_) (fun hs10=>?_)
 replace hm:=QA hm hs10
 refine wO Z (wO Z (wP Z ?_))
 obtain ⟨v14,hc14,hm⟩:=Q6 hm
 refine Q1R [] [0] Z Z Z Zq Z Z Z fn_147 Z Z (Q3z N true _ hc14) (asK [] Z) Z (H':=[_]) Z ?_
 rintro _ _ _ ⟨rfl,rfl,rfl⟩
 refine wP Z (wP Z (wP Z (wP Z (Q3 (Q4 (Q2 [6,5] (S':=[_,_]) Z (Qb ?_)))))))
 have hE:=(Zi hm).symm
 replace hE:=hE.symm
 subst hE
 refine Q1r (Hr:=[_]) [0] Tryz.results155 (Qc Z) (Qc Z) ⟨Z,Z,Z⟩ (asK [] Z) Z Z (.inl Z)
 replace hm:=Qz hm hs10
 refine wP Z (wP Z (wP Z ?_))
 obtain ⟨v14,hc14,hm⟩:=Q6 hm
 refine Q1R [] [0] Z Z Z Zq Z Z Z fn_147 Z Z (Q3z N (a1 != 0) _ hc14) (asK [] Z) Z (H':=[_]) Z ?_
 rintro _ _ _ ⟨rfl,rfl,rfl⟩
 refine wP Z (wP Z (wP Z (wP Z (Q3 (Q4 (Q2 [6,5] (S':=[_,_]) Z (Qb ?_)))))))
 have hE:=(Zi hm).symm
 replace hE:=hE.symm
 subst hE
 refine Q1r (Hr:=[_]) [0] Tryz.results155 (Qc Z) (Qc Z) ⟨Z,Z,Z⟩ (asK [] Z) Z Z (.inl Z)
theorem w_value_does_9_s (N:Nat) (a0:Int) (a1:Int) (qg0:Nat) (o0:Int) (hm:Q9l N a0 a1 = some o0):Q1o Tryz.prog 156 [.int .i64 a0,.int .i64 a1,.pointer (some ⟨qg0,0,none⟩)] [] [.blk qg0 [.func (.func 147) #[] #[]] 220] (fun v Φr Hr=>v = .tuple #[.int .i64 o0,.bool true] ∧ Φr = [] ∧ Hr = [.blk qg0 [.func (.func 147) #[] #[]] 220]):=by
 unfold Q9l at hm
 refine QD Tryz.func156 Z Tryz.ntmps156 Z (S:=V3 ..) Z (fun C=>(Q5 (Q1 (wP Z (wP Z (Q3 (Q4 (Q2 [0,2] (S':=[_,_]) Z (Q5 (Q1 (wD 0 0 Z Q7M tA_220 Z (wP Z (wP Z ?_)))))))))))))
 obtain ⟨v10,hc10,hm⟩:=Q6 hm
 refine Q1R [] [0] Z Z Z Zq Z Z Z fn_147 Z Z (Q3z N (a0 == 0) _ hc10) (asK [] Z) Z (H':=[_]) Z ?_
 rintro _ _ _ ⟨rfl,rfl,rfl⟩
 refine wP Z (wP Z (wP Z (wP Z (Q3 (Q4 (Q2 [6,5] (S':=[_,_]) Z (Qb ?_)))))))
 have hE:=(Zi hm).symm
 replace hE:=hE.symm
 subst hE
 refine Q1r (Hr:=[_]) [0] Tryz.results156 (Qc Z) (Qc Z) ⟨Z,Z,Z⟩ (asK [] Z) Z Z (.inl Z)
theorem w_value_Do_s (N:Nat) (a0:Int) (aD:OA) (aE:Nat) (l1:List V) (o0:Nat) (o1:Int) (o2:Nat) (hm:m_value_Do N a0 l1 = some (o0,o1,o2)):Q1o Tryz.prog 84 [.int .u8 a0,.slice aD l1.length aE] [.sli 3 R_V aD aE l1] [] (fun v Φr Hr=>v = .tuple #[.agg #[.int .u8 ((o0:Nat):Int),.int .i64 o1,.string ((⟨#[]⟩ : ByteArray))],.int .i64 ((o2:Nat):Int)] ∧ Φr = [] ∧ Hr = []):=by
 unfold m_value_Do at hm
 refine QD Tryz.func84 Z Tryz.ntmps84 Z (S:=[_,_]) Z (fun C=>(Q5 (Q1 (QE Z Z Z Zq Z Q2Y Z (fun g4=>(wP Z (Q3 (Q4 (Q2 [4,0,1] (S':=V3 ..) Z (Q5 (Q1 (wP Z (Q3 (Q4 (Q5 ?_)))))))))))))))
 obtain ⟨b6,hm,hLj_1⟩:=Q6 hm
 unfold Qbx at hm
 refine QI (σ:=Nat) (fun j=>b6 = j) (fun j=>[(4,.pointer (some ⟨g4,0,none⟩)),(0,.int .u8 a0),(1,.slice aD l1.length aE),(6,.int .i64 ((j:Nat):Int))]) (fun j=>[.sli 3 R_V aD aE l1]) (fun j=>[.blk g4 [.int .u8 0,.int .i64 0,.string ((⟨#[]⟩ : ByteArray))] 57]) ?_ ?_
 refine Q5 ?_
 obtain ⟨b7,hm,hLj_2⟩:=Q6 hm
 refine QI (σ:=Bool) (fun aA=>b7 = aA) (fun aA=>[(4,.pointer (some ⟨g4,0,none⟩)),(0,.int .u8 a0),(1,.slice aD l1.length aE),(6,.int .i64 2),(19,.bool aA)]) (fun aA=>[.sli 3 R_V aD aE l1]) (fun aA=>[.blk g4 [.int .u8 0,.int .i64 0,.string ((⟨#[]⟩ : ByteArray))] 57]) ?_ ?_
 refine Q1 (wP Z (wP Z (wP Z ?_)))
 refine Qt (d:=16) (S':=V6 ..) Z Z (fun aO=>?_) (fun aO=>?_)
 replace hm:=QA hm aO
 refine wO Z (wO Z (wP Z (Q3 ?_)))
 have hE:=(Zi hm).symm
 refine Q9 true hE [4,0,1,6,19] Z (asK [0] Z) Z
 replace hm:=Qz hm aO
 refine wP Z (wP Z (wP Z (Q3 ?_)))
 have hE:=(Zi hm).symm
 refine Q9 (a0 == 11) hE [4,0,1,6,19] Z (asK [0] Z) Z
 rintro aA hE
 try dsimp only
 have hm:=hLj_2
 rw [hE] at hm
 refine Qj Z (fun aP=>?_) (fun aP=>?_)
 replace hm:=QA hm aP
 refine Q2 [4,0,1] (S':=V3 ..) Z (Q1 (wP Z (Q3 ?_)))
 have hE:=(Zi hm).symm
 refine Q9 1 hE [4,0,1,6] Z (asK [0] Z) Z
 replace hm:=Qz hm aP
 refine Q2 [4,0,1,6] (S':=V4 ..) Z (Qq ?_)
 have hE:=(Zi hm).symm
 refine Q9 2 hE [4,0,1,6] Z (asK [0] Z) Z
 rintro j hE
 try dsimp only
 have hm:=hLj_1
 rw [hE] at hm
 refine Q5 (Q5 ?_)
 obtain ⟨b8,hm,hLj_3⟩:=Q6 hm
 refine QI (σ:=Bool) (fun aB=>b8 = aB) (fun aB=>[(4,.pointer (some ⟨g4,0,none⟩)),(0,.int .u8 a0),(1,.slice aD l1.length aE),(6,.int .i64 ((j:Nat):Int)),(31,.bool aB)]) (fun aB=>[.sli 3 R_V aD aE l1]) (fun aB=>[.blk g4 [.int .u8 0,.int .i64 0,.string ((⟨#[]⟩ : ByteArray))] 57]) ?_ ?_
 refine Q1 (wP Z (wP Z (wP Z ?_)))
 refine Qt (d:=22) (S':=V6 ..) Z Z (fun aQ=>?_) (fun aQ=>?_)
 replace hm:=QA hm aQ
 refine wO Z (wO Z (wP Z (wP Z (wO Z (wO Z (wO Z (wO Z (wP Z (Q3 ?_)))))))))
 have hE:=(Zi hm).symm
 refine Q9 true hE [4,0,1,6,31] Z (asK [0] Z) Z
 replace hm:=Qz hm aQ
 refine wP Z (wP Z (wP Z (wP Z ?_)))
 refine Qt (d:=26) (S':=V10 ..) Z Z (fun aR=>?_) (fun aR=>?_)
 replace hm:=QA hm aR
 refine wO Z (wO Z (wO Z (wO Z (wP Z (Q3 ?_)))))
 have hE:=(Zi hm).symm
 refine Q9 true hE [4,0,1,6,31] Z (asK [0] Z) Z
 replace hm:=Qz hm aR
 refine wP Z (wN Z Q5a (wP Z (wP Z (QH (d:=30) (v':=.bool (l1.length != j)) (S':=V14 ..) Z Z (natne (a:=l1.length) (b:=j)) (wP Z (Q3 ?_))))))
 have hE:=(Zi hm).symm
 refine Q9 (l1.length != j) hE [4,0,1,6,31] Z (asK [0] Z) Z
 rintro aB hE
 try dsimp only
 have hm:=hLj_3
 rw [hE] at hm
 refine Qj Z (fun aS=>?_) (fun aS=>?_)
 replace hm:=QA hm aS
 refine Q2 [4] (S':=[_]) Z (Q5 (Q1 (Q13 Z Z Z Zq Z Q2Y Q8x Z (out:=V3 ..) Z (wS 0 0 Z Q1H (all':=V3 ..) Z (H':=[_]) Z (wP Z (Q3 (Q4 (Q2 [5,4] (S':=[_,_]) Z (Qb (Q7 ?_))))))))))
 have hE:=(Zi hm).symm
 obtain ⟨hE0,hF1⟩:=Prod.mk.inj hE
 obtain ⟨hE1,hE2⟩:=Prod.mk.inj hF1
 clear hE hF1
 replace hE0:=hE0.symm
 subst hE0
 replace hE1:=hE1.symm
 subst hE1
 replace hE2:=hE2.symm
 subst hE2
 refine Q1r (Hr:=[]) [] Tryz.results84 (QW 0 Z Z Q1H Q2u Z Z) (Qc Z) ⟨Z,Z,Z⟩ (asK [] Z) Z Z (.inl Z)
 replace hm:=Qz hm aS
 refine Q2 [4,0,1,6] (S':=V4 ..) Z (Qq (Q4 (Q5 (Q1 (wP Z (Q3 (Q4 (Q5 ?_))))))))
 obtain ⟨b1,hm,hLj_4⟩:=Q1w hm
 refine QI (σ:=Bool) (fun aF=>b1 = .inl aF) (fun aF=>[(4,.pointer (some ⟨g4,0,none⟩)),(0,.int .u8 a0),(1,.slice aD l1.length aE),(6,.int .i64 ((j:Nat):Int)),(7,.bool aF)]) (fun aF=>[.sli 3 R_V aD aE l1]) (fun aF=>[.blk g4 [.int .u8 0,.int .i64 0,.string ((⟨#[]⟩ : ByteArray))] 57]) ?_ ?_
 refine Q5 (Q1 (wP Z (wN Z Q5a (wP Z (Q3 (Q4 (Qw (Q1E (σ:=Nat × Nat × Bool) (fun (aN,q,aI)=>Q1M (Qa0 N l1) aN (q,aI) = some b1) (fun (aN,q,aI)=>aN) (fun (aN,q,aI)=>[(35,.int .i64 ((q:Nat):Int)),(34,.int .i64 ((l1.length:Nat):Int)),(33,.slice aD l1.length aE),(7,.bool aI),(4,.pointer (some ⟨g4,0,none⟩)),(0,.int .u8 a0),(1,.slice aD l1.length aE),(6,.int .i64 ((j:Nat):Int))]) (fun (aN,q,aI)=>[.sli 3 R_V aD aE l1]) (fun (aN,q,aI)=>[.blk g4 [.int .u8 0,.int .i64 0,.string ((⟨#[]⟩ : ByteArray))] 57]) (N,0,false) hm [35,34,33,7,4,0,1,6] Z (asK [0] Z) Z (fun s_ hm=>?_)))))))))
 obtain ⟨aN,q,aI⟩:=s_
 try dsimp only at hm ⊢
 obtain ⟨bY,bZ,b9,hq,hLu1⟩:=Q1e hm
 clear hm
 subst b9
 replace hm:=hq
 clear hq
 unfold Qa0 at hm
 try dsimp only at hm
 refine Q5 (Q1 (wP Z (QH (d:=36) (v':=.bool (decide (q < l1.length))) (S':=V8 ..) Z Z (Q2z (a:=q) (b:=l1.length)) (Q3 (Q4 (Q5 ?_))))))
 refine Qj Z (fun aT=>?_) (fun aT=>?_)
 replace hm:=QA hm aT
 refine Q2 [35,34,33,7,4,0,1,6] (S':=V8 ..) Z (Qq (Q4 (Q5 ?_)))
 obtain ⟨bA,hm,hLj_5⟩:=Q1w hm
 unfold Qby at hm
 refine QI (σ:=Bool) (fun aG=>bA = .inl aG) (fun aG=>[(35,.int .i64 ((q:Nat):Int)),(34,.int .i64 ((l1.length:Nat):Int)),(33,.slice aD l1.length aE),(7,.bool aG),(4,.pointer (some ⟨g4,0,none⟩)),(0,.int .u8 a0),(1,.slice aD l1.length aE),(6,.int .i64 ((j:Nat):Int))]) (fun aG=>[.sli 3 R_V aD aE l1]) (fun aG=>[.blk g4 [.int .u8 0,.int .i64 0,.string ((⟨#[]⟩ : ByteArray))] 57]) ?_ ?_
 refine Qw (Q5 (Q1 ?_))
 obtain ⟨b0,bB,hm⟩:=Q6 hm
 refine Q1F 0 q Z Z Z Zq Z Z Z Z Z bB Q5a Q1H (fun c0 c1 bV bP=>(Q22 Q6d 1 Z (fun c2 bC _=>?_)))
 subst bC
 refine Q21 0 0 Z Z Z Zq Z Z Z (cs:=V3 ..) Z Q1H Q2u Z Z (QE Z Z Z Zq Z Q2Y Z (fun g9=>(wS 0 0 Z Q1H (all':=V3 ..) Z (H':=[_,_]) Z (Q3 (Q4 (Q2 [9,35,34,33,7,4,0,1,6] (S':=V9 ..) Z (Q5 (Q5 (Q1 (QR 0 0 Z Z Z Zq Z Z Z (cs:=V3 ..) Z Q1H Q2u Z Z ?_))))))))))
 obtain ⟨c3,bD,hm⟩:=Q6 hm
 refine wC [] [0,1] Z fn_64 Z (Q4K N b0.k b0.n b0.s _ bD) (asK [] Z) Z (H':=[_,_]) Z ?_
 rintro _ _ _ ⟨rfl,rfl,rfl⟩
 refine wP Z (Q3 (Q4 (Q2 [41,9,35,34,33,7,4,0,1,6] (S':=V10 ..) Z ?_)))
 refine Qj Z (fun aU=>?_) (fun aU=>?_)
 replace hm:=QA hm aU
 refine Q2 [4] (S':=[_]) Z (Q5 (Q1 (Q13 Z Z Z Zq Z Q2Y Q8x Z (out:=V3 ..) Z (wS 1 0 Z Q1H (all':=V3 ..) Z (H':=[_,_]) Z (wP Z (Q3 (Q4 (Q2 [5,4] (S':=[_,_]) Z (Qb (Q7 (Qg (Q7 (Q7 ?_)))))))))))))
 refine Qg (Q7 ?_)
 have hE:=(Zi hm).symm
 replace hE:=Qv hLj_5 hE
 replace hE:=Qv hLu1 hE
 replace hE:=Qv hLj_4 hE
 obtain ⟨hE0,hF1⟩:=Prod.mk.inj hE
 obtain ⟨hE1,hE2⟩:=Prod.mk.inj hF1
 clear hE hF1
 replace hE0:=hE0.symm
 subst hE0
 replace hE1:=hE1.symm
 subst hE1
 replace hE2:=hE2.symm
 subst hE2
 refine Q1r (Hr:=[]) [] Tryz.results84 (QW 1 Z Z Q1H Q2u Z Z) (Qc Z) ⟨Z,Z,Z⟩ (asK [] Z) Z Z (.inl Z)
 replace hm:=Qz hm aU
 refine Q2 [9,35,34,33,7,4,0,1,6] (S':=V9 ..) Z (Qq (Q4 (Q1 (wP Z (wP Z ?_)))))
 refine Qt (d:=44) (S':=V10 ..) Z Z (fun aV=>?_) (fun aV=>?_)
 replace hm:=QA hm aV
 refine wO Z (wO Z (wO Z (wP Z (Q1b (S':=V14 ..) Z Z Z Z Z (Q3 (Qh ?_))))))
 have hE:=(Zi hm).symm
 refine Qs [1] Z (H':=[_]) Z ?_
 refine Q9 true hE [35,34,33,7,4,0,1,6] Z (asK [2] Z) Z
 replace hm:=Qz hm aV
 refine wF Z tF_57_0 (wD 0 0 Z tS_55 tA_55 Z (wP Z (wP Z (Q1b (S':=V14 ..) Z Z Z Z Z (Q3 (Qh ?_))))))
 have hE:=(Zi hm).symm
 refine Qs [1] Z (H':=[_]) Z ?_
 refine Q9 (b0.k == 2) hE [35,34,33,7,4,0,1,6] Z (asK [2] Z) Z
 rintro aG hE
 try dsimp only
 have hm:=QO hLj_5 hE
 refine Q1 (wP Z ?_)
 obtain ⟨bE,hm⟩:=Qu hm
 refine QH (d:=49) (v':=.int .i64 ((q + 1:Nat):Int)) (S':=V8 ..) Z Z (Q1J (a:=q) (b:=1) bE) (Q1b (S':=V8 ..) Z Z Z Z Z (Q3 ?_))
 have hE:=(Zi hm).symm
 replace hE:=QO hLu1 hE
 refine Q1a (_,q + 1,aG) (Nat.lt_succ_self _) hE [35,34,33,7,4,0,1,6] Z (asK [0] Z) Z
 replace hm:=Qz hm aT
 refine Q2 [7,4,0,1,6] (S':=V5 ..) Z (Q1x (Qk (Qk (QJ ?_))))
 have hE:=(Zi hm).symm
 replace hE:=Qv hLu1 hE
 refine Q9 aI hE [4,0,1,6,7] Z (asK [0] Z) Z
 rintro aF hE
 try dsimp only
 have hm:=QO hLj_4 hE
 refine Q5 ?_
 obtain ⟨a1,bF,hm⟩:=Q6 hm
 obtain ⟨bG,hm⟩:=Qu hm
 obtain ⟨bH,hm⟩:=Qu hm
 obtain ⟨a5,bI,hm⟩:=Q6 hm
 refine QI (σ:=Nat × Nat) (fun _=>True) (fun (a6,a7)=>[(11,.pointer (some ⟨a6,0,none⟩)),(10,.pointer (some ⟨a7,0,none⟩)),(4,.pointer (some ⟨g4,0,none⟩)),(0,.int .u8 a0),(7,.bool aF)]) (fun (a6,a7)=>[]) (fun (a6,a7)=>[.blk a6 [.int .u8 (a5.k),.int .i64 (a5.n),.string a5.s] 57,.blk a7 [.int .u8 (a1.k),.int .i64 (a1.n),.string a1.s] 57,.blk g4 [.int .u8 0,.int .i64 0,.string ((⟨#[]⟩ : ByteArray))] 57]) ?_ ?_
 refine Q18 [0,1,2,3,4,5,6,7] Z Z (fun hok=>(xP hok 0 Z (Q4L hok 1 0 0 Z Z Z Zq Z Z Z Z Z Z bF Q5a Q1H (fun c4 c5 bW bQ=>(Q6c Q6d 1 Z (fun c6 bJ _=>?_))))))
 subst bJ
 refine Q7n hok 2 0 0 Z Z Z Zq Z Z Z Z (cs:=V3 ..) Z Q1H Q2u Z Z (xP hok 3 Z (xP hok 4 Z (xP hok 5 Z (Q1D (d:=55) (v':=.int .i64 (((j:Nat):Int) - 1)) (S':=V10 ..) Z Z (i64_in bG) (Q4L hok 6 2 ((((j:Nat):Int) - 1).toNat) Z Z Z Zq Z Z Z Z Z (Q1G bH) bI Q5a Q1H (fun c7 c8 bX bR=>(Q6c Q6d 1 Z (fun c9 bK _=>?_))))))))
 subst bK
 refine Q7n hok 7 0 0 Z Z Z Zq Z Z Z Z (cs:=V3 ..) Z Q1H Q2u Z Z ?_
 refine Q3n hok 8 9 Z Z Z Z Z Z ?_ ?_
 refine QE Z Z Z Zq Z Q2Y Z (fun b2=>(Q3 (QV [0,1,2,3,4] [] Z Z (xS hok 9 Z (QE Z Z Z Zq Z Q2Y Z (fun b3=>(Q3 (QV [0,1,2,3,4] [] Z Z (xS hok 10 Z (wS 1 0 Z Q1H (all':=V3 ..) Z (H':=V3 ..) Z (Q3 (QV [0,1,2,3,4] [] Z Z (xS hok 11 Z (wS 0 0 Z Q1H (all':=V3 ..) Z (H':=V3 ..) Z (Q3 ?_)))))))))))))))
 refine QV [0,1,2,3,4] [] Z Z (Q11 hok Z ?_)
 refine Q9 (b3,b2) trivial [11,10,4,0,7] Z (asK [] Z) Z
 refine QE Z Z Z Zq Z Q2Y Z (fun b3=>(Q3 (QV [0,1,2,3,4] [] Z Z (xS hok 8 Z (QE Z Z Z Zq Z Q2Y Z (fun b2=>(Q3 (QV [0,1,2,3,4] [] Z Z (xS hok 10 Z (wS 0 0 Z Q1H (all':=V3 ..) Z (H':=V3 ..) Z (Q3 (QV [0,1,2,3,4] [] Z Z (xS hok 11 Z (wS 1 0 Z Q1H (all':=V3 ..) Z (H':=V3 ..) Z (Q3 ?_)))))))))))))))
 refine QV [0,1,2,3,4] [] Z Z (Q11 hok Z (Qs [1,0,2] Z (H':=V3 ..) Z ?_))
 refine Q9 (b3,b2) trivial [11,10,4,0,7] Z (asK [] Z) Z
 rintro ⟨a6,a7⟩ _
 try dsimp only
 refine Q5 (Qw (Q5 (Q1 (wP Z (wP Z (wP Z (Q3 (Q4 (Q2 [58,11,10,4,0,7] (S':=V6 ..) Z ?_)))))))))
 refine Qj Z (fun aW=>?_) (fun aW=>?_)
 replace hm:=QA hm aW
 refine Q2 [11,10,4] (S':=V3 ..) Z (Q5 (Q1 (QR 1 0 Z Z Z Zq Z Z Z (cs:=V3 ..) Z Q1H Q2u Z Z (QR 0 0 Z Z Z Zq Z Z Z (cs:=V3 ..) Z Q1H Q2u Z Z (Q7Q Z Z Z Zq Z Z Z (eqlV _ _ a1 a5) ?_)))))
 obtain ⟨cA,bL,hm⟩:=Q6 hm
 refine wC [] [0,1,2] Z fn_117 Z (Q8U N (decide (a1 = a5)) _ bL) (asK [] Z) Z (H':=V3 ..) Z ?_
 rintro _ _ _ ⟨rfl,rfl,rfl⟩
 refine wS 2 0 Z Q1H (all':=V3 ..) Z (H':=V3 ..) Z (wP Z (Q3 (Q4 (Q2 [5,4] (S':=[_,_]) Z (Qb (Qg (Q7 ?_)))))))
 have hE:=(Zi hm).symm
 obtain ⟨hE0,hF1⟩:=Prod.mk.inj hE
 obtain ⟨hE1,hE2⟩:=Prod.mk.inj hF1
 clear hE hF1
 replace hE0:=hE0.symm
 subst hE0
 replace hE1:=hE1.symm
 subst hE1
 replace hE2:=hE2.symm
 subst hE2
 refine Q1r (Hr:=[]) [] Tryz.results84 (QW 2 Z Z Q1H Q2u Z Z) (Qc Z) ⟨Z,Z,Z⟩ (asK [] Z) Z Z (.inl Z)
 replace hm:=Qz hm aW
 refine Q2 [11,10,4,0,7] (S':=V5 ..) Z (Q5 (Q1 (wP Z (wP Z (wP Z (Q3 (Q4 (Q2 [65,11,10,4,0,7] (S':=V6 ..) Z ?_))))))))
 refine Qj Z (fun aX=>?_) (fun aX=>?_)
 replace hm:=QA hm aX
 refine Q2 [11,10,4] (S':=V3 ..) Z (Q5 (Q1 (QR 1 0 Z Z Z Zq Z Z Z (cs:=V3 ..) Z Q1H Q2u Z Z (QR 0 0 Z Z Z Zq Z Z Z (cs:=V3 ..) Z Q1H Q2u Z Z (Q7Q Z Z Z Zq Z Z Z (neqV _ _ a1 a5) ?_)))))
 obtain ⟨cB,bM,hm⟩:=Q6 hm
 refine wC [] [0,1,2] Z fn_117 Z (Q8U N (!decide (a1 = a5)) _ bM) (asK [] Z) Z (H':=V3 ..) Z ?_
 rintro _ _ _ ⟨rfl,rfl,rfl⟩
 refine wS 2 0 Z Q1H (all':=V3 ..) Z (H':=V3 ..) Z (wP Z (Q3 (Q4 (Q2 [5,4] (S':=[_,_]) Z (Qb (Qg (Q7 ?_)))))))
 have hE:=(Zi hm).symm
 obtain ⟨hE0,hF1⟩:=Prod.mk.inj hE
 obtain ⟨hE1,hE2⟩:=Prod.mk.inj hF1
 clear hE hF1
 replace hE0:=hE0.symm
 subst hE0
 replace hE1:=hE1.symm
 subst hE1
 replace hE2:=hE2.symm
 subst hE2
 refine Q1r (Hr:=[]) [] Tryz.results84 (QW 2 Z Z Q1H Q2u Z Z) (Qc Z) ⟨Z,Z,Z⟩ (asK [] Z) Z Z (.inl Z)
 replace hm:=Qz hm aX
 refine Q2 [11,10,4,0,7] (S':=V5 ..) Z (Q5 (Q1 (wP Z (wP Z (Q3 (Q4 (Q2 [72,11,10,4,0] (S':=V5 ..) Z ?_)))))))
 refine Qj Z (fun aY=>?_) (fun aY=>?_)
 replace hm:=QA hm aY
 refine Q2 [4] (S':=[_]) Z (Q5 (Q1 (Q13 Z Z Z Zq Z Q2Y Q8x Z (out:=V3 ..) Z (wS 2 0 Z Q1H (all':=V3 ..) Z (H':=V3 ..) Z (wP Z (Q3 (Q4 (Q2 [5,4] (S':=[_,_]) Z (Qb (Qg (Q7 ?_)))))))))))
 have hE:=(Zi hm).symm
 obtain ⟨hE0,hF1⟩:=Prod.mk.inj hE
 obtain ⟨hE1,hE2⟩:=Prod.mk.inj hF1
 clear hE hF1
 replace hE0:=hE0.symm
 subst hE0
 replace hE1:=hE1.symm
 subst hE1
 replace hE2:=hE2.symm
 subst hE2
 refine Q1r (Hr:=[]) [] Tryz.results84 (QW 2 Z Z Q1H Q2u Z Z) (Qc Z) ⟨Z,Z,Z⟩ (asK [] Z) Z Z (.inl Z)
 replace hm:=Qz hm aY
 refine Q2 [11,10,4,0] (S':=V4 ..) Z (Qq (Qh (Q4 (Q5 ?_))))
 obtain ⟨bN,hm,hLj_7⟩:=Q6 hm
 unfold Qbz at hm
 refine QI (σ:=Int × Bool) (fun (a8,aC)=>bN = (a8,aC)) (fun (a8,aC)=>[(4,.pointer (some ⟨g4,0,none⟩)),(12,.int .i64 a8),(13,.bool aC)]) (fun (a8,aC)=>[]) (fun (a8,aC)=>[.blk g4 [.int .u8 0,.int .i64 0,.string ((⟨#[]⟩ : ByteArray))] 57]) ?_ ?_
 obtain ⟨_ | _ | _ | _ | _ | _ | _ | _ | _ | _,aH,hm⟩:=Q6 hm
 try dsimp only at hm
 obtain ⟨_,z,hm⟩:=Q6 hm
 try dsimp only at hm
 refine Q18 [0,2,3,4,5,7,8,9] Z Z (fun hok=>(xP hok 0 Z (Q8 hok 2 Z Z Z Zq Z Z Z Q31 (Qm hok 3 1 1 Z Z Z Zq Z Z Z Z (cs:=[_]) Z tS_2 tA_2 Z Z (Q8 hok 4 Z Z Z Zq Z Z Z Q31 (Qm hok 5 0 1 Z Z Z Zq Z Z Z Z (cs:=[_]) Z tS_2 tA_2 Z Z (xS hok 1 Z (wC [] [0,1,2] Z QaC Z (w_value_does_s0 N a0 aH) (asK [] Z) Z (H':=V3 ..) Z ?_))))))))
 rintro _ _ _ ⟨rfl,rfl,rfl⟩
 refine Q3 (QV [] [0,1] Z Z (xS hok 6 Z (Q1R [] [0,1,2] Z Z Z Zq Z Z Z fn_148 Z Z (w_value_does_2_s N a1.n a5.n z) (asK [] Z) Z (H':=V3 ..) Z ?_)))
 rintro _ _ _ ⟨rfl,rfl,rfl⟩
 refine Q3 (QV [] [] Z Z (xP hok 7 Z (xP hok 8 Z (xP hok 9 Z (xS hok 10 Z (wP Z (Q3 (QV [] [] Z Z (xS hok 11 Z (wP Z (Q3 (QV [] [] Z Z (Q11 hok Z ?_)))))))))))))
 have hE:=(Zi hm).symm
 refine Qs [2] Z (H':=[_]) Z ?_
 refine Q9 (IntKind.wrap .i64 (a1.n + a5.n),(decide ((IntKind.wrap .i64 (a1.n + a5.n)) < a1.n)) == (decide (a5.n < 0))) hE [4,12,13] Z (asK [] Z) Z
 try dsimp only at hm
 obtain ⟨_,z,hm⟩:=Q6 hm
 try dsimp only at hm
 refine Q18 [0,2,3,4,5,7,8,9] Z Z (fun hok=>(xP hok 0 Z (Q8 hok 2 Z Z Z Zq Z Z Z Q31 (Qm hok 3 1 1 Z Z Z Zq Z Z Z Z (cs:=[_]) Z tS_2 tA_2 Z Z (Q8 hok 4 Z Z Z Zq Z Z Z Q31 (Qm hok 5 0 1 Z Z Z Zq Z Z Z Z (cs:=[_]) Z tS_2 tA_2 Z Z (xS hok 1 Z (wC [] [0,1,2] Z QaC Z (w_value_does_s1 N a0 aH) (asK [] Z) Z (H':=V3 ..) Z ?_))))))))
 rintro _ _ _ ⟨rfl,rfl,rfl⟩
 refine Q3 (QV [] [0,1] Z Z (xS hok 6 Z (Q1R [] [0,1,2] Z Z Z Zq Z Z Z fn_149 Z Z (w_value_does_3_s N a1.n a5.n z) (asK [] Z) Z (H':=V3 ..) Z ?_)))
 rintro _ _ _ ⟨rfl,rfl,rfl⟩
 refine Q3 (QV [] [] Z Z (xP hok 7 Z (xP hok 8 Z (xP hok 9 Z (xS hok 10 Z (wP Z (Q3 (QV [] [] Z Z (xS hok 11 Z (wP Z (Q3 (QV [] [] Z Z (Q11 hok Z ?_)))))))))))))
 have hE:=(Zi hm).symm
 refine Qs [2] Z (H':=[_]) Z ?_
 refine Q9 (IntKind.wrap .i64 (a1.n - a5.n),(decide ((IntKind.wrap .i64 (a1.n - a5.n)) > a1.n)) == (decide (a5.n < 0))) hE [4,12,13] Z (asK [] Z) Z
 try dsimp only at hm
 obtain ⟨⟨b4,b5⟩,z,hm⟩:=Q6 hm
 try dsimp only at hm
 refine Q18 [0,2,3,4,5,7,8,9] Z Z (fun hok=>(xP hok 0 Z (Q8 hok 2 Z Z Z Zq Z Z Z Q31 (Qm hok 3 1 1 Z Z Z Zq Z Z Z Z (cs:=[_]) Z tS_2 tA_2 Z Z (Q8 hok 4 Z Z Z Zq Z Z Z Q31 (Qm hok 5 0 1 Z Z Z Zq Z Z Z Z (cs:=[_]) Z tS_2 tA_2 Z Z (xS hok 1 Z (wC [] [0,1,2] Z QaC Z (w_value_does_s2 N a0 aH) (asK [] Z) Z (H':=V3 ..) Z ?_))))))))
 rintro _ _ _ ⟨rfl,rfl,rfl⟩
 refine Q3 (QV [] [0,1] Z Z (xS hok 6 Z (Q1R [] [0,1,2] Z Z Z Zq Z Z Z fn_150 Z Z (w_value_product_s N a1.n a5.n _ _ z) (asK [] Z) Z (H':=V3 ..) Z ?_)))
 rintro _ _ _ ⟨rfl,rfl,rfl⟩
 refine Q3 (QV [] [] Z Z (xP hok 7 Z (xP hok 8 Z (xP hok 9 Z (xS hok 10 Z (wP Z (Q3 (QV [] [] Z Z (xS hok 11 Z (wP Z (Q3 (QV [] [] Z Z (Q11 hok Z ?_)))))))))))))
 have hE:=(Zi hm).symm
 refine Qs [2] Z (H':=[_]) Z ?_
 refine Q9 (b4,b5) hE [4,12,13] Z (asK [] Z) Z
 try dsimp only at hm
 obtain ⟨_,z,hm⟩:=Q6 hm
 try dsimp only at hm
 refine Q18 [0,2,3,4,5,7,8,9] Z Z (fun hok=>(xP hok 0 Z (Q8 hok 2 Z Z Z Zq Z Z Z Q31 (Qm hok 3 1 1 Z Z Z Zq Z Z Z Z (cs:=[_]) Z tS_2 tA_2 Z Z (Q8 hok 4 Z Z Z Zq Z Z Z Q31 (Qm hok 5 0 1 Z Z Z Zq Z Z Z Z (cs:=[_]) Z tS_2 tA_2 Z Z (xS hok 1 Z (wC [] [0,1,2] Z QaC Z (w_value_does_s3 N a0 aH) (asK [] Z) Z (H':=V3 ..) Z ?_))))))))
 rintro _ _ _ ⟨rfl,rfl,rfl⟩
 refine Q3 (QV [] [0,1] Z Z (xS hok 6 Z (Q1R [] [0,1,2] Z Z Z Zq Z Z Z fn_151 Z Z (w_value_does_4_s N a1.n a5.n z) (asK [] Z) Z (H':=V3 ..) Z ?_)))
 rintro _ _ _ ⟨rfl,rfl,rfl⟩
 refine Q3 (QV [] [] Z Z (xP hok 7 Z (xP hok 8 Z (xP hok 9 Z (xS hok 10 Z (wP Z (Q3 (QV [] [] Z Z (xS hok 11 Z (wP Z (Q3 (QV [] [] Z Z (Q11 hok Z ?_)))))))))))))
 have hE:=(Zi hm).symm
 refine Qs [2] Z (H':=[_]) Z ?_
 refine Q9 (IntKind.wrap .i64 (0 - a1.n),a1.n != -9223372036854775808) hE [4,12,13] Z (asK [] Z) Z
 try dsimp only at hm
 obtain ⟨aL,z,hm⟩:=Q6 hm
 refine Q18 [0,2,3,4,5,7,8,9] Z Z (fun hok=>(xP hok 0 Z (Q8 hok 2 Z Z Z Zq Z Z Z Q31 (Qm hok 3 1 1 Z Z Z Zq Z Z Z Z (cs:=[_]) Z tS_2 tA_2 Z Z (Q8 hok 4 Z Z Z Zq Z Z Z Q31 (Qm hok 5 0 1 Z Z Z Zq Z Z Z Z (cs:=[_]) Z tS_2 tA_2 Z Z (xS hok 1 Z (wC [] [0,1,2] Z QaC Z (w_value_does_s4 N a0 aH) (asK [] Z) Z (H':=V3 ..) Z ?_))))))))
 rintro _ _ _ ⟨a9,rfl,rfl,rfl⟩
 refine Q3 (QV [] [1,2] Z Z (xS hok 6 Z (Q1R [0] [1,2,3] Z Z Z Zq Z Z Z fn_152 Z Z (w_value_does_5_s N a1.n a5.n a9 _ z) (asK [] Z) Z (H':=V3 ..) Z ?_)))
 rintro _ _ _ ⟨rfl,rfl,rfl⟩
 refine Q3 (QV [] [] Z Z (xP hok 7 Z (xP hok 8 Z (xP hok 9 Z (xS hok 10 Z (wP Z (Q3 (QV [] [] Z Z (xS hok 11 Z (wP Z (Q3 (QV [] [] Z Z (Q11 hok Z ?_)))))))))))))
 have hE:=(Zi hm).symm
 refine Qs [3] Z (H':=[_]) Z ?_
 refine Q9 (aL,true) hE [4,12,13] Z (asK [] Z) Z
 try dsimp only at hm
 obtain ⟨aL,z,hm⟩:=Q6 hm
 refine Q18 [0,2,3,4,5,7,8,9] Z Z (fun hok=>(xP hok 0 Z (Q8 hok 2 Z Z Z Zq Z Z Z Q31 (Qm hok 3 1 1 Z Z Z Zq Z Z Z Z (cs:=[_]) Z tS_2 tA_2 Z Z (Q8 hok 4 Z Z Z Zq Z Z Z Q31 (Qm hok 5 0 1 Z Z Z Zq Z Z Z Z (cs:=[_]) Z tS_2 tA_2 Z Z (xS hok 1 Z (wC [] [0,1,2] Z QaC Z (w_value_does_s5 N a0 aH) (asK [] Z) Z (H':=V3 ..) Z ?_))))))))
 rintro _ _ _ ⟨a9,rfl,rfl,rfl⟩
 refine Q3 (QV [] [1,2] Z Z (xS hok 6 Z (Q1R [0] [1,2,3] Z Z Z Zq Z Z Z fn_153 Z Z (w_value_does_6_s N a1.n a5.n a9 _ z) (asK [] Z) Z (H':=V3 ..) Z ?_)))
 rintro _ _ _ ⟨rfl,rfl,rfl⟩
 refine Q3 (QV [] [] Z Z (xP hok 7 Z (xP hok 8 Z (xP hok 9 Z (xS hok 10 Z (wP Z (Q3 (QV [] [] Z Z (xS hok 11 Z (wP Z (Q3 (QV [] [] Z Z (Q11 hok Z ?_)))))))))))))
 have hE:=(Zi hm).symm
 refine Qs [3] Z (H':=[_]) Z ?_
 refine Q9 (aL,true) hE [4,12,13] Z (asK [] Z) Z
 try dsimp only at hm
 obtain ⟨aL,z,hm⟩:=Q6 hm
 refine Q18 [0,2,3,4,5,7,8,9] Z Z (fun hok=>(xP hok 0 Z (Q8 hok 2 Z Z Z Zq Z Z Z Q31 (Qm hok 3 1 1 Z Z Z Zq Z Z Z Z (cs:=[_]) Z tS_2 tA_2 Z Z (Q8 hok 4 Z Z Z Zq Z Z Z Q31 (Qm hok 5 0 1 Z Z Z Zq Z Z Z Z (cs:=[_]) Z tS_2 tA_2 Z Z (xS hok 1 Z (wC [] [0,1,2] Z QaC Z (w_value_does_s6 N a0 aH) (asK [] Z) Z (H':=V3 ..) Z ?_))))))))
 rintro _ _ _ ⟨a9,rfl,rfl,rfl⟩
 refine Q3 (QV [] [1,2] Z Z (xS hok 6 Z (Q1R [0] [1,2,3] Z Z Z Zq Z Z Z fn_154 Z Z (w_value_does_7_s N a1.n a5.n a9 _ z) (asK [] Z) Z (H':=V3 ..) Z ?_)))
 rintro _ _ _ ⟨rfl,rfl,rfl⟩
 refine Q3 (QV [] [] Z Z (xP hok 7 Z (xP hok 8 Z (xP hok 9 Z (xS hok 10 Z (wP Z (Q3 (QV [] [] Z Z (xS hok 11 Z (wP Z (Q3 (QV [] [] Z Z (Q11 hok Z ?_)))))))))))))
 have hE:=(Zi hm).symm
 refine Qs [3] Z (H':=[_]) Z ?_
 refine Q9 (aL,true) hE [4,12,13] Z (asK [] Z) Z
 try dsimp only at hm
 obtain ⟨aL,z,hm⟩:=Q6 hm
 refine Q18 [0,2,3,4,5,7,8,9] Z Z (fun hok=>(xP hok 0 Z (Q8 hok 2 Z Z Z Zq Z Z Z Q31 (Qm hok 3 1 1 Z Z Z Zq Z Z Z Z (cs:=[_]) Z tS_2 tA_2 Z Z (Q8 hok 4 Z Z Z Zq Z Z Z Q31 (Qm hok 5 0 1 Z Z Z Zq Z Z Z Z (cs:=[_]) Z tS_2 tA_2 Z Z (xS hok 1 Z (wC [] [0,1,2] Z QaC Z (w_value_does_s7 N a0 aH) (asK [] Z) Z (H':=V3 ..) Z ?_))))))))
 rintro _ _ _ ⟨a9,rfl,rfl,rfl⟩
 refine Q3 (QV [] [1,2] Z Z (xS hok 6 Z (Q1R [0] [1,2,3] Z Z Z Zq Z Z Z fn_155 Z Z (w_value_does_8_s N a1.n a5.n a9 _ z) (asK [] Z) Z (H':=V3 ..) Z ?_)))
 rintro _ _ _ ⟨rfl,rfl,rfl⟩
 refine Q3 (QV [] [] Z Z (xP hok 7 Z (xP hok 8 Z (xP hok 9 Z (xS hok 10 Z (wP Z (Q3 (QV [] [] Z Z (xS hok 11 Z (wP Z (Q3 (QV [] [] Z Z (Q11 hok Z ?_)))))))))))))
 have hE:=(Zi hm).symm
 refine Qs [3] Z (H':=[_]) Z ?_
 refine Q9 (aL,true) hE [4,12,13] Z (asK [] Z) Z
 try dsimp only at hm
 obtain ⟨aL,z,hm⟩:=Q6 hm
 refine Q18 [0,2,3,4,5,7,8,9] Z Z (fun hok=>(xP hok 0 Z (Q8 hok 2 Z Z Z Zq Z Z Z Q31 (Qm hok 3 1 1 Z Z Z Zq Z Z Z Z (cs:=[_]) Z tS_2 tA_2 Z Z (Q8 hok 4 Z Z Z Zq Z Z Z Q31 (Qm hok 5 0 1 Z Z Z Zq Z Z Z Z (cs:=[_]) Z tS_2 tA_2 Z Z (xS hok 1 Z (wC [] [0,1,2] Z QaC Z (w_value_does_s8 N a0 aH) (asK [] Z) Z (H':=V3 ..) Z ?_))))))))
 rintro _ _ _ ⟨a9,rfl,rfl,rfl⟩
 refine Q3 (QV [] [1,2] Z Z (xS hok 6 Z (Q1R [0] [1,2,3] Z Z Z Zq Z Z Z fn_156 Z Z (w_value_does_9_s N a1.n a5.n a9 _ z) (asK [] Z) Z (H':=V3 ..) Z ?_)))
 rintro _ _ _ ⟨rfl,rfl,rfl⟩
 refine Q3 (QV [] [] Z Z (xP hok 7 Z (xP hok 8 Z (xP hok 9 Z (xS hok 10 Z (wP Z (Q3 (QV [] [] Z Z (xS hok 11 Z (wP Z (Q3 (QV [] [] Z Z (Q11 hok Z ?_)))))))))))))
 have hE:=(Zi hm).symm
 refine Qs [3] Z (H':=[_]) Z ?_
 refine Q9 (aL,true) hE [4,12,13] Z (asK [] Z) Z
 ·
  try dsimp only at hm
  cases hm
 rintro ⟨a8,aC⟩ hE
 try dsimp only
 have hm:=hLj_7
 rw [hE] at hm
 try dsimp only at hm
 refine Q5 (Q5 (Q1 (wP Z (wP Z (Q3 (Q4 (Q2 [86,4,12] (S':=V3 ..) Z ?_)))))))
 refine Qj Z (fun aZ=>?_) (fun aZ=>?_)
 replace hm:=QA hm aZ
 refine Q2 [4] (S':=[_]) Z (Q5 (Q1 (Q13 Z Z Z Zq Z Q2Y Q8x Z (out:=V3 ..) Z (wS 0 0 Z Q1H (all':=V3 ..) Z (H':=[_]) Z (wP Z (Q3 (Q4 (Q2 [5,4] (S':=[_,_]) Z (Qb (Q7 ?_))))))))))
 have hE:=(Zi hm).symm
 obtain ⟨hE0,hF1⟩:=Prod.mk.inj hE
 obtain ⟨hE1,hE2⟩:=Prod.mk.inj hF1
 clear hE hF1
 replace hE0:=hE0.symm
 subst hE0
 replace hE1:=hE1.symm
 subst hE1
 replace hE2:=hE2.symm
 subst hE2
 refine Q1r (Hr:=[]) [] Tryz.results84 (QW 0 Z Z Q1H Q2u Z Z) (Qc Z) ⟨Z,Z,Z⟩ (asK [] Z) Z Z (.inl Z)
 replace hm:=Qz hm aZ
 refine Q2 [4,12] (S':=[_,_]) Z (Qq (Q4 (Q5 (Q1 (wP Z ?_)))))
 obtain ⟨_,bO,hm⟩:=Q6 hm
 try dsimp only at hm
 refine wC [] [0] Z fn_119 Z (Q8f N a8 bO) (asK [] Z) Z (H':=[_]) Z ?_
 rintro _ _ _ ⟨rfl,rfl,rfl⟩
 refine wS 0 0 Z Q1H (all':=V3 ..) Z (H':=[_]) Z (wP Z (Q3 (Q4 (Q2 [5,4] (S':=[_,_]) Z (Qb ?_)))))
 have hE:=(Zi hm).symm
 obtain ⟨hE0,hF1⟩:=Prod.mk.inj hE
 obtain ⟨hE1,hE2⟩:=Prod.mk.inj hF1
 clear hE hF1
 replace hE0:=hE0.symm
 subst hE0
 replace hE1:=hE1.symm
 subst hE1
 replace hE2:=hE2.symm
 subst hE2
 refine Q1r (Hr:=[]) [] Tryz.results84 (QW 0 Z Z Q1H Q2u Z Z) (Qc Z) ⟨Z,Z,Z⟩ (asK [] Z) Z Z (.inl Z)
theorem w_expr_All_v2_s (N:Nat) (rc:Int → Int → Int → ByteArray → Int → Int → (List Qo) → (List V) → Option (Int × Int × ByteArray × Nat)) (ih : ∀ (a0:Int) (a1:Int) (a2:Int) (a3:ByteArray) (a4:Int) (a5:Int) (aF:OA) (aG:Nat) (l6:List Qo) (aH:OA) (aI:Nat) (l7:List V) (o0:Int) (o1:Int) (o2:ByteArray) (o3:Nat),rc a0 a1 a2 a3 a4 a5 l6 l7 = some (o0,o1,o2,o3) → Q1o Tryz.prog 44 [.agg #[.int .u8 a0,.int .u8 a1,.int .i64 a2,.string a3,.int .i64 a4,.int .u8 a5,.slice aF l6.length aG],.slice aH l7.length aI] [.sli 7 QB aF aG l6,.sli 3 R_V aH aI l7] [] (fun v Φr Hr=>v = .tuple #[.agg #[.int .u8 o0,.int .i64 o1,.string o2],.int .i64 ((o3:Nat):Int)] ∧ Φr = [] ∧ Hr = [])) (aF:OA) (aG:Nat) (l0:List V) (aH:OA) (aI:Nat) (l1:List Qo) (o2:List V) (o4:Nat) (hm:Q9W N rc l0 l1 = some (o2,o4)):Q1o Tryz.prog 83 [.slice aF l0.length aG,.slice aH l1.length aI] [.sli 3 R_V aF aG l0,.sli 7 QB aH aI l1] [] (fun v Φr Hr=>∃ (o0:OA) (o1:Nat) (o3:Nat),v = .tuple #[.slice o0 o3 o1,.int .i64 ((o4:Nat):Int)] ∧ Φr = [] ∧ Hr = [.own 57 3 R_V (.slice o0 o3 o1) o2]):=by
 unfold Q9W at hm
 refine QD Tryz.func83 Z Tryz.ntmps83 Z (S:=[_,_]) Z (fun C=>(Q5 (Q1 (wP Z (wP Z (Q3 (Q4 (Q2 [0,1] (S':=[_,_]) Z (Q5 (Q1 (wP Z (Q3 (Q4 (Q5 ?_))))))))))))))
 obtain ⟨aP,hm,hLj_1⟩:=Q1w hm
 refine QI (σ:=(List V) × OA × Nat × Nat) (fun (aB,z,a6,a7)=>aP = .inl aB) (fun (aB,z,a6,a7)=>[(6,.slice z a7 a6)]) (fun (aB,z,a6,a7)=>[]) (fun (aB,z,a6,a7)=>[.own 57 3 R_V (.slice z a7 a6) aB]) ?_ ?_
 refine Q5 (Q1 (wP Z (wN Z Q66 (wP Z (Q3 (Q4 (Q2 [13,12,11,6,0] (S':=V5 ..) Z (Qw (Q3i 57 3 R_V (Q1E (σ:=Nat × Nat × (List V) × OA × Nat × Nat) (fun (aJ,q,j,a8,a9,aA)=>Q1M (Q85 N l1 rc l0) aJ (q,j) = some aP) (fun (aJ,q,j,a8,a9,aA)=>aJ) (fun (aJ,q,j,a8,a9,aA)=>[(13,.int .i64 ((q:Nat):Int)),(12,.int .i64 ((l1.length:Nat):Int)),(11,.slice aH l1.length aI),(6,.slice a8 aA a9),(0,.slice aF l0.length aG)]) (fun (aJ,q,j,a8,a9,aA)=>[.sli 7 QB aH aI l1,.sli 3 R_V aF aG l0]) (fun (aJ,q,j,a8,a9,aA)=>[.own 57 3 R_V (.slice a8 aA a9) j]) (N,0,[],none,0,0) hm [13,12,11,6,0] Z (asK [1,0] Z) Z (fun s_ hm=>?_)))))))))))
 obtain ⟨aJ,q,j,a8,a9,aA⟩:=s_
 try dsimp only at hm ⊢
 obtain ⟨bC,bD,aY,hq,hLu1⟩:=Q1e hm
 clear hm
 subst aY
 replace hm:=hq
 clear hq
 unfold Q85 at hm
 try dsimp only at hm
 refine Q5 (Q1 (wP Z (QH (d:=14) (v':=.bool (decide (q < l1.length))) (S':=V5 ..) Z Z (Q2z (a:=q) (b:=l1.length)) (Q3 (Q4 (Q5 ?_))))))
 refine Qj Z (fun aL=>?_) (fun aL=>?_)
 replace hm:=QA hm aL
 refine Q2 [13,12,11,6,0] (S':=V5 ..) Z (Qq (Q4 (Q5 (Qw (Q5 (Q1 ?_))))))
 obtain ⟨aK,aZ,hm⟩:=Q6 hm
 refine Q1F 0 q Z Z Z Zq Z Z Z Z Z aZ Q66 Q2S (fun bE bF bB b6=>(Q22 Q36 1 Z (fun b0 b1 _=>?_)))
 subst b1
 refine Q21 1 0 Z Z Z Zq Z Z Z (cs:=V7 ..) Z Q2S Q5J Z Z (QE Z Z Z Zq Z tZ_65 Z (fun g8=>(wS 0 0 Z Q2S (all':=V7 ..) Z (H':=[_,_]) Z (Q3 (Q4 (Q2 [8,13,12,11,6,0] (S':=V6 ..) Z (Q5 (Q1 (QR 0 0 Z Z Z Zq Z Z Z (cs:=V7 ..) Z Q2S Q5J Z Z (wP Z ?_))))))))))
 obtain ⟨⟨aC,aD,aE,aM⟩,b2,hm⟩:=Q6 hm
 try dsimp only at hm
 refine wC [] [0,1] Z fn_44 Z (ih aK.kind aK.value.k aK.value.n aK.value.s aK.var aK.op b0.1 b0.2 aK.kids aF aG l0 _ _ _ _ b2) (asK [0,4] Z) Z (H':=[_,_]) Z ?_
 rintro _ _ _ ⟨rfl,rfl,rfl⟩
 refine wP Z (wP Z (wP Z (QE Z Z Z Zq Z Q2Y Z (fun g9=>(wS 0 0 Z Q1H (all':=V3 ..) Z (H':=V3 ..) Z (wP Z (Q3 (Q4 (Q2 [10,9,13,12,11,6,0] (S':=V7 ..) Z (Q5 (Q5 (Q1 (wP Z (wP Z ?_))))))))))))))
 refine QH (d:=24) (v':=.bool (aM != 0)) (S':=V8 ..) Z Z (natne (a:=aM) (b:=0)) (Q3 (Q4 (Q2 [24,10,9,13,12,11,6,0] (S':=V8 ..) Z ?_)))
 refine Qj Z (fun aN=>?_) (fun aN=>?_)
 replace hm:=QA hm aN
 refine Q2 [10] (S':=[_]) Z (Q5 (Q1 (wP Z (wP Z (wP Z (Q3 (Q4 (Q2 [5,4] (S':=[_,_]) Z (Qb (Q7 (Qg (Q7 (Q7 ?_)))))))))))))
 refine Qg (Q7 ?_)
 have hE:=(Zi hm).symm
 replace hE:=Qv hLu1 hE
 replace hE:=Qv hLj_1 hE
 obtain ⟨hE0,hE1⟩:=Prod.mk.inj hE
 clear hE
 replace hE0:=hE0.symm
 subst hE0
 replace hE1:=hE1.symm
 subst hE1
 refine Q23 57 3 R_V ?_
 refine Q1r (Hr:=[_]) [0] Tryz.results83 (Qc Z) (Qc Z) ⟨none,0,0,Z,Z,Z⟩ (asK [] Z) Z Z (.inl Z)
 replace hm:=Qz hm aN
 refine Q2 [9,13,12,11,6,0] (S':=V6 ..) Z (Qq (Q4 (Q1 (wP Z (QR 0 0 Z Z Z Zq Z Z Z (cs:=V3 ..) Z Q1H Q2u Z Z (Qy Z Z Z Zq Z Q5a Q1H Q2Y Z (zs:=[.int .u8 0,.int .i64 0,.string ((⟨#[]⟩ : ByteArray))]) (by kernel_rfl) Z (out:=V3 ..) Z (fun bG=>?_)))))))
 obtain ⟨aQ,hm⟩:=Qu hm
 refine Q1S ([(⟨aC,aD,aE⟩ : V)]) 3 0 Z Z Z Zq Z Z Z Z Z (fun F w hφ=>⟨[.int .u8 aC,.int .i64 aD,.string aE],[],Z,Z,⟨(),Z,Qr⟩,Z⟩) Q5a tR_57 Z Z (Nat.le_trans aQ (by decide)) (Nat.le_trans (Nat.mul_le_mul_right _ aQ) (by decide)) (H2:=fun aS aT=>[_,_,_,.own 57 3 R_V (.slice aS ((j ++ ([(⟨aC,aD,aE⟩ : V)])).length) aT) (j ++ ([(⟨aC,aD,aE⟩ : V)]))]) (fun _ _=>Z) (fun aS aT=>(Q2s 0 Z (H':=V3 ..) Z (Q1b (S':=V9 ..) Z Z Z Z Z (Q3 (Qh (Q4 (Q2 [6,13,12,11,0] (S':=V5 ..) Z (Q1 (wP Z ?_)))))))))
 obtain ⟨b3,hm⟩:=Qu hm
 refine QH (d:=30) (v':=.int .i64 ((q + 1:Nat):Int)) (S':=V5 ..) Z Z (Q1J (a:=q) (b:=1) b3) (Q1b (S':=V5 ..) Z Z Z Z Z (Q3 ?_))
 have hE:=(Zi hm).symm
 replace hE:=QO hLu1 hE
 refine Qs [2] Z (H':=[_]) Z ?_
 refine Q1a (_,q + 1,(j ++ ([(⟨aC,aD,aE⟩ : V)])),aS,aT,((j ++ ([(⟨aC,aD,aE⟩ : V)])).length)) (Nat.lt_succ_self _) hE [13,12,11,6,0] Z (asK [3,4] Z) Z
 replace hm:=Qz hm aL
 refine Q2 [6] (S':=[_]) Z (Q1x (Qk (Qk (QJ ?_))))
 have hE:=(Zi hm).symm
 replace hE:=Qv hLu1 hE
 refine Q9 (j,a8,a9,aA) hE [6] Z (asK [] Z) Z
 rintro ⟨aB,z,a6,a7⟩ hE
 try dsimp only
 have hm:=QO hLj_1 hE
 refine Q5 (Q1 (wP Z (wP Z (wP Z (Q3 (Q4 (Q2 [5,4] (S':=[_,_]) Z (Qb ?_))))))))
 have hE:=(Zi hm).symm
 obtain ⟨hE0,hE1⟩:=Prod.mk.inj hE
 clear hE
 replace hE0:=hE0.symm
 subst hE0
 replace hE1:=hE1.symm
 subst hE1
 refine Q1r (Hr:=[_]) [0] Tryz.results83 (Qc Z) (Qc Z) ⟨z,a6,a7,Z,Z,Z⟩ (asK [] Z) Z Z (.inl Z)
theorem QbE (N:Nat) (rc:Int → Int → Int → ByteArray → Int → Int → (List Qo) → (List V) → Option (Int × Int × ByteArray × Nat)) (ih : ∀ (a0:Int) (a1:Int) (a2:Int) (a3:ByteArray) (a4:Int) (a5:Int) (aJ:OA) (aK:Nat) (l6:List Qo) (aL:OA) (aM:Nat) (l7:List V) (o0:Int) (o1:Int) (o2:ByteArray) (o3:Nat),rc a0 a1 a2 a3 a4 a5 l6 l7 = some (o0,o1,o2,o3) → Q1o Tryz.prog 44 [.agg #[.int .u8 a0,.int .u8 a1,.int .i64 a2,.string a3,.int .i64 a4,.int .u8 a5,.slice aJ l6.length aK],.slice aL l7.length aM] [.sli 7 QB aJ aK l6,.sli 3 R_V aL aM l7] [] (fun v Φr Hr=>v = .tuple #[.agg #[.int .u8 o0,.int .i64 o1,.string o2],.int .i64 ((o3:Nat):Int)] ∧ Φr = [] ∧ Hr = [])) (aB:Nat) (j:OA) (q:Nat) (l0:List V) (aC:Nat) (a1:Int) (a2:Int) (a3:Int) (a4:ByteArray) (a5:Int) (a6:Int) (s:OA) (z:Nat) (l7:List Qo) (o0:Nat) (o1:Int) (o2:Nat) (hm:Q86 N rc l0 a1 a2 a3 a4 a5 a6 l7 = some (o0,o1,o2)):Q1o Tryz.prog 82 [.pointer (some ⟨aB,0,none⟩),.pointer (some ⟨aC,0,none⟩)] [.sli 3 R_V j q l0,.sli 7 QB s z l7] [.blk aB [.slice j l0.length q] 43,.blk aC [.int .u8 a1,.int .u8 a2,.int .i64 a3,.string a4,.int .i64 a5,.int .u8 a6,.slice s l7.length z] 65] (fun v Φr Hr=>v = .tuple #[.agg #[.int .u8 ((o0:Nat):Int),.int .i64 o1,.string ((⟨#[]⟩ : ByteArray))],.int .i64 ((o2:Nat):Int)] ∧ Φr = [.sli 3 R_V j q l0,.sli 7 QB s z l7] ∧ Hr = [.blk aB [.slice j l0.length q] 43,.blk aC [.int .u8 a1,.int .u8 a2,.int .i64 a3,.string a4,.int .i64 a5,.int .u8 a6,.slice s l7.length z] 65]):=by
 unfold Q86 at hm
 refine QD Tryz.func82 Z Tryz.ntmps82 Z (S:=[_,_]) Z (fun C=>(Q5 (Q1 (QE Z Z Z Zq Z Q2Y Z (fun g2=>(wP Z (Q3 (Q4 (Q2 [2,0,1] (S':=V3 ..) Z (Q5 (Q1 (wD 1 0 Z Q7i Q7g Z (wF Z QaM (wD 2 6 Z Q92 Q9s Z ?_))))))))))))))
 obtain ⟨⟨aD,a7⟩,aQ,hm⟩:=Q6 hm
 try dsimp only at hm
 refine wC [] [0,1,2] Z fn_83 Z (w_expr_All_v2_s N rc ih j q l0 s z l7 _ _ aQ) (asK [0,1] Z) Z (H':=V3 ..) Z ?_
 rintro _ _ _ ⟨aE,aF,aU,rfl,rfl,rfl⟩
 refine wP Z (wP Z (wP Z (wP Z (wP Z (Q3 (Q4 (Q2 [5,4,2,1] (S':=V4 ..) Z (Q5 (Q5 (Q1 (wP Z (wP Z (QH (d:=14) (v':=.bool (a7 != 0)) (S':=V5 ..) Z Z (natne (a:=a7) (b:=0)) ?_)))))))))))))
 refine Q3 (Q4 (Q2 [14,5,4,2,1] (S':=V5 ..) Z ?_))
 refine Qj Z (fun a8=>?_) (fun a8=>?_)
 replace hm:=QA hm a8
 refine Q2 [5,2] (S':=[_,_]) Z (Q5 (Q1 (Q13 Z Z Z Zq Z Q2Y Q8x Z (out:=V3 ..) Z (wP Z (wS 1 0 Z Q1H (all':=V3 ..) Z (H':=V4 ..) Z (wP Z (Q3 (Q4 (Q2 [3,2] (S':=[_,_]) Z (Qb (Q7 ?_)))))))))))
 have hE:=(Zi hm).symm
 obtain ⟨hE0,hF1⟩:=Prod.mk.inj hE
 obtain ⟨hE1,hE2⟩:=Prod.mk.inj hF1
 clear hE hF1
 replace hE0:=hE0.symm
 subst hE0
 replace hE1:=hE1.symm
 subst hE1
 replace hE2:=hE2.symm
 subst hE2
 refine Q1r (Hr:=[_,_]) [2,3] Tryz.results82 (QW 1 Z Z Q1H Q2u Z Z) (Qc Z) ⟨Z,Z,Z⟩ (asK [0,1] Z) Z Z (.inl Z)
 replace hm:=Qz hm a8
 refine Q2 [4,2,1] (S':=V3 ..) Z (Qq (Q4 (Q5 (Q1 (wF Z Q96 (wD 3 5 Z tS_62 tA_62 Z (wP Z (Q15 0 Z (fun a9 _=>?_)))))))))
 subst a9
 obtain ⟨⟨aV,aW,aX⟩,aR,hm⟩:=Q6 hm
 try dsimp only at hm
 refine Q3g [] [0,1,2,3] [0] Z Z Z Zq Z Z fn_84 Z (w_value_Do_s N a6 aE aF aD _ _ _ aR) (fun F w hφ hh=>(QS (Q1K (hh _ (Q10 (k:=0) Z))) Qr)) (fun _ _ _ hR=>by obtain ⟨rfl,rfl,rfl⟩:=hR; exact ⟨Z,(fun _ h=>Q2A h)⟩) Z Z (H':=V4 ..) Z ?_
 rintro _ _ _ ⟨rfl,rfl,rfl⟩
 refine wP Z (wP Z (wS 1 0 Z Q1H (all':=V3 ..) Z (H':=V4 ..) Z (wP Z (Q3 (Q4 (Q2 [3,2] (S':=[_,_]) Z (Qb ?_)))))))
 have hE:=(Zi hm).symm
 obtain ⟨hE0,hF1⟩:=Prod.mk.inj hE
 obtain ⟨hE1,hE2⟩:=Prod.mk.inj hF1
 clear hE hF1
 replace hE0:=hE0.symm
 subst hE0
 replace hE1:=hE1.symm
 subst hE1
 replace hE2:=hE2.symm
 subst hE2
 refine Q1r (Hr:=[_,_]) [2,3] Tryz.results82 (QW 1 Z Z Q1H Q2u Z Z) (Qc Z) ⟨Z,Z,Z⟩ (asK [0,1] Z) Z Z (.inl Z)
theorem w_expr_Eval_s_b (N:Nat) (rc:Int → Int → Int → ByteArray → Int → Int → (List Qo) → (List V) → Option (Int × Int × ByteArray × Nat)) (ih : ∀ (a0:Int) (a1:Int) (a2:Int) (a3:ByteArray) (a4:Int) (a5:Int) (q:OA) (s:Nat) (l6:List Qo) (z:OA) (a6:Nat) (l7:List V) (o0:Int) (o1:Int) (o2:ByteArray) (o3:Nat),rc a0 a1 a2 a3 a4 a5 l6 l7 = some (o0,o1,o2,o3) → Q1o Tryz.prog 44 [.agg #[.int .u8 a0,.int .u8 a1,.int .i64 a2,.string a3,.int .i64 a4,.int .u8 a5,.slice q l6.length s],.slice z l7.length a6] [.sli 7 QB q s l6,.sli 3 R_V z a6 l7] [] (fun v Φr Hr=>v = .tuple #[.agg #[.int .u8 o0,.int .i64 o1,.string o2],.int .i64 ((o3:Nat):Int)] ∧ Φr = [] ∧ Hr = [])) (a0:Int) (a1:Int) (a2:Int) (a3:ByteArray) (a4:Int) (a5:Int) (q:OA) (s:Nat) (l6:List Qo) (z:OA) (a6:Nat) (l7:List V) (o0:Int) (o1:Int) (o2:ByteArray) (o3:Nat) (hm:Q9Z N rc a0 a1 a2 a3 a4 a5 l6 l7 = some (o0,o1,o2,o3)):Q1o Tryz.prog 44 [.agg #[.int .u8 a0,.int .u8 a1,.int .i64 a2,.string a3,.int .i64 a4,.int .u8 a5,.slice q l6.length s],.slice z l7.length a6] [.sli 7 QB q s l6,.sli 3 R_V z a6 l7] [] (fun v Φr Hr=>v = .tuple #[.agg #[.int .u8 o0,.int .i64 o1,.string o2],.int .i64 ((o3:Nat):Int)] ∧ Φr = [] ∧ Hr = []):=by
 unfold Q9Z at hm
 refine QD Tryz.func44 Z Tryz.ntmps44 Z (S:=[_,_]) Z (fun C=>(Q5 (Q1 (wB Z (fun j=>(wB Z (fun g3=>(QE Z Z Z Zq Z Q2Y Z (fun g4=>(wP Z (Q3 (Q4 (Q2 [4,3,2] (S':=V3 ..) Z (Q5 (Q1 (Q4b (Q1q (QT tI_61)) false Q1p Z Z Z Zq Z (fun g9=>(QY Z Z Z Zq Z Z ?_))))))))))))))))))
 refine QK (i:=1) (u:=.func (.func 79) #[] #[.pointer (some ⟨j,0,none⟩)]) (cs:=[.func (.func 79) #[] #[.pointer (some ⟨j,0,none⟩)]]) 0 Z Z (.inr Z) Z Z Z Z tM_146 trivial Z (fun F w hφ=>⟨Z,Z⟩) (H':=[Q2h (Q1q (QT tI_61)) false Q1p g9 ([(1,.func (.func 79) #[] #[.pointer (some ⟨j,0,none⟩)])]),.blk g4 [.int .u8 0,.int .i64 0,.string ((⟨#[]⟩ : ByteArray))] 57,.blk g3 [.slice z l7.length a6] 43,.blk j [.int .u8 a0,.int .u8 a1,.int .i64 a2,.string a3,.int .i64 a4,.int .u8 a5,.slice q l6.length s] 65]) Z (QY Z Z Z Zq Z Z (QK (i:=2) (u:=.func (.func 81) #[] #[.pointer (some ⟨j,0,none⟩),.pointer (some ⟨g3,0,none⟩)]) (cs:=[.func (.func 81) #[] #[.pointer (some ⟨j,0,none⟩),.pointer (some ⟨g3,0,none⟩)]]) 0 Z Z (.inr Z) Z Z Z Z tM_146 trivial Z (fun F w hφ=>⟨Z,Z⟩) (H':=[Q2h (Q1q (QT tI_61)) false Q1p g9 ([(1,.func (.func 79) #[] #[.pointer (some ⟨j,0,none⟩)]),(2,.func (.func 81) #[] #[.pointer (some ⟨j,0,none⟩),.pointer (some ⟨g3,0,none⟩)])]),.blk g4 [.int .u8 0,.int .i64 0,.string ((⟨#[]⟩ : ByteArray))] 57,.blk g3 [.slice z l7.length a6] 43,.blk j [.int .u8 a0,.int .u8 a1,.int .i64 a2,.string a3,.int .i64 a4,.int .u8 a5,.slice q l6.length s] 65]) Z (QY Z Z Z Zq Z Z (QK (i:=3) (u:=.func (.func 82) #[] #[.pointer (some ⟨g3,0,none⟩),.pointer (some ⟨j,0,none⟩)]) (cs:=[.func (.func 82) #[] #[.pointer (some ⟨g3,0,none⟩),.pointer (some ⟨j,0,none⟩)]]) 0 Z Z (.inr Z) Z Z Z Z tM_146 trivial Z (fun F w hφ=>⟨Z,Z⟩) (H':=[Q2h (Q1q (QT tI_61)) false Q1p g9 ([(1,.func (.func 79) #[] #[.pointer (some ⟨j,0,none⟩)]),(2,.func (.func 81) #[] #[.pointer (some ⟨j,0,none⟩),.pointer (some ⟨g3,0,none⟩)]),(3,.func (.func 82) #[] #[.pointer (some ⟨g3,0,none⟩),.pointer (some ⟨j,0,none⟩)])]),.blk g4 [.int .u8 0,.int .i64 0,.string ((⟨#[]⟩ : ByteArray))] 57,.blk g3 [.slice z l7.length a6] 43,.blk j [.int .u8 a0,.int .u8 a1,.int .i64 a2,.string a3,.int .i64 a4,.int .u8 a5,.slice q l6.length s] 65]) Z (wP Z (wF Z tF_65_0 (wD 3 0 Z tS_61 tA_61 Z ?_)))))))
 rcases QG hm with ⟨a7,hm⟩ | ⟨a7,hm⟩
 refine QC (i:=a0) (a:=(.func (.func 79) #[] #[.pointer (some ⟨j,0,none⟩)])) Qx 0 Z Z Z Zq Z Z Z Z tM_146 trivial (by rw [eq_of_beq a7]; rfl) (u:=fun _=>.func (.func 79) #[] #[.pointer (some ⟨j,0,none⟩)]) (fun _=>Z) (v:=fun _=>.tuple #[.func (.func 79) #[] #[.pointer (some ⟨j,0,none⟩)],.bool true]) (fun _=>Z) (fun _ _=>(wP Z (wP Z (wP Z (wP Z (wP Z (Q3 (Q4 (Q2 [7,6,4] (S':=V3 ..) Z (Q5 (Q5 (Q1 (wP Z (wP Z ?_))))))))))))))
 refine Q3 (Q4 (Q2 [20,6,4] (S':=V3 ..) Z (wc_false Z (Q2 [6,4] (S':=[_,_]) Z (Qq (Q4 (Q5 (Q1 (wP Z ?_)))))))))
 obtain ⟨⟨aH,aI,aJ,aL⟩,aB,hm⟩:=Q6 hm
 try dsimp only at hm
 refine Q1R [3] [0,1,2] Z Z Z Zq Z Z Z fn_79 Z Z (w_expr_Eval_1_s N j a0 a1 a2 a3 a4 a5 q s l6 _ _ _ _ aB) (asK [0] Z) Z (H':=V3 ..) Z ?_
 rintro _ _ _ ⟨rfl,rfl,rfl⟩
 refine wP Z (wP Z (wS 2 0 Z Q1H (all':=V3 ..) Z (H':=V4 ..) Z (wP Z (Q3 (Q4 (Q2 [5,4] (S':=[_,_]) Z (Qb ?_)))))))
 have hE:=(Zi hm).symm
 obtain ⟨hE0,hF1⟩:=Prod.mk.inj hE
 obtain ⟨hE1,hF2⟩:=Prod.mk.inj hF1
 obtain ⟨hE2,hE3⟩:=Prod.mk.inj hF2
 clear hE hF1 hF2
 replace hE0:=hE0.symm
 subst hE0
 replace hE1:=hE1.symm
 subst hE1
 replace hE2:=hE2.symm
 subst hE2
 replace hE3:=hE3.symm
 subst hE3
 refine Q1r (Hr:=[]) [] Tryz.results44 (QW 2 Z Z Q1H Q2u Z Z) (Qc Z) ⟨Z,Z,Z⟩ (asK [] Z) Z Z (.inl Z)
 rcases QG hm with ⟨a8,hm⟩ | ⟨a8,hm⟩
 refine QC (i:=a0) (a:=(.func (.func 81) #[] #[.pointer (some ⟨j,0,none⟩),.pointer (some ⟨g3,0,none⟩)])) Qx 0 Z Z Z Zq Z Z Z Z tM_146 trivial (by rw [eq_of_beq a8]; rfl) (u:=fun _=>.func (.func 81) #[] #[.pointer (some ⟨j,0,none⟩),.pointer (some ⟨g3,0,none⟩)]) (fun _=>Z) (v:=fun _=>.tuple #[.func (.func 81) #[] #[.pointer (some ⟨j,0,none⟩),.pointer (some ⟨g3,0,none⟩)],.bool true]) (fun _=>Z) (fun _ _=>(wP Z (wP Z (wP Z (wP Z (wP Z (Q3 (Q4 (Q2 [7,6,4] (S':=V3 ..) Z (Q5 (Q5 (Q1 (wP Z (wP Z ?_))))))))))))))
 refine Q3 (Q4 (Q2 [20,6,4] (S':=V3 ..) Z (wc_false Z (Q2 [6,4] (S':=[_,_]) Z (Qq (Q4 (Q5 (Q1 (wP Z ?_)))))))))
 obtain ⟨⟨aH,aI,aJ,aL⟩,aB,hm⟩:=Q6 hm
 try dsimp only at hm
 refine Q1R [3,2] [0,1] Z Z Z Zq Z Z Z fn_81 Z Z (w_expr_Eval_2_s N j a0 a1 a2 a3 a4 a5 q s l6 g3 z a6 l7 _ _ _ _ aB) (asK [0,1] Z) Z (H':=[_,_]) Z ?_
 rintro _ _ _ ⟨rfl,rfl,rfl⟩
 refine wP Z (wP Z (wS 3 0 Z Q1H (all':=V3 ..) Z (H':=V4 ..) Z (wP Z (Q3 (Q4 (Q2 [5,4] (S':=[_,_]) Z (Qb ?_)))))))
 have hE:=(Zi hm).symm
 obtain ⟨hE0,hF1⟩:=Prod.mk.inj hE
 obtain ⟨hE1,hF2⟩:=Prod.mk.inj hF1
 obtain ⟨hE2,hE3⟩:=Prod.mk.inj hF2
 clear hE hF1 hF2
 replace hE0:=hE0.symm
 subst hE0
 replace hE1:=hE1.symm
 subst hE1
 replace hE2:=hE2.symm
 subst hE2
 replace hE3:=hE3.symm
 subst hE3
 refine Q1r (Hr:=[]) [] Tryz.results44 (QW 3 Z Z Q1H Q2u Z Z) (Qc Z) ⟨Z,Z,Z⟩ (asK [] Z) Z Z (.inl Z)
 rcases QG hm with ⟨a9,hm⟩ | ⟨a9,hm⟩
 refine QC (i:=a0) (a:=(.func (.func 82) #[] #[.pointer (some ⟨g3,0,none⟩),.pointer (some ⟨j,0,none⟩)])) Qx 0 Z Z Z Zq Z Z Z Z tM_146 trivial (by rw [eq_of_beq a9]; rfl) (u:=fun _=>.func (.func 82) #[] #[.pointer (some ⟨g3,0,none⟩),.pointer (some ⟨j,0,none⟩)]) (fun _=>Z) (v:=fun _=>.tuple #[.func (.func 82) #[] #[.pointer (some ⟨g3,0,none⟩),.pointer (some ⟨j,0,none⟩)],.bool true]) (fun _=>Z) (fun _ _=>(wP Z (wP Z (wP Z (wP Z (wP Z (Q3 (Q4 (Q2 [7,6,4] (S':=V3 ..) Z (Q5 (Q5 (Q1 (wP Z (wP Z ?_))))))))))))))
 refine Q3 (Q4 (Q2 [20,6,4] (S':=V3 ..) Z (wc_false Z (Q2 [6,4] (S':=[_,_]) Z (Qq (Q4 (Q5 (Q1 (wP Z ?_)))))))))
 obtain ⟨⟨aH,aI,aJ⟩,aB,hm⟩:=Q6 hm
 try dsimp only at hm
 refine Q1R [2,3] [0,1] Z Z Z Zq Z Z Z fn_82 Z Z (QbE N rc ih g3 z a6 l7 j a0 a1 a2 a3 a4 a5 q s l6 _ _ _ aB) (asK [1,0] Z) Z (H':=[_,_]) Z ?_
 rintro _ _ _ ⟨rfl,rfl,rfl⟩
 refine wP Z (wP Z (wS 3 0 Z Q1H (all':=V3 ..) Z (H':=V4 ..) Z (wP Z (Q3 (Q4 (Q2 [5,4] (S':=[_,_]) Z (Qb ?_)))))))
 have hE:=(Zi hm).symm
 obtain ⟨hE0,hF1⟩:=Prod.mk.inj hE
 obtain ⟨hE1,hF2⟩:=Prod.mk.inj hF1
 obtain ⟨hE2,hE3⟩:=Prod.mk.inj hF2
 clear hE hF1 hF2
 replace hE0:=hE0.symm
 subst hE0
 replace hE1:=hE1.symm
 subst hE1
 replace hE2:=hE2.symm
 subst hE2
 replace hE3:=hE3.symm
 subst hE3
 refine Q1r (Hr:=[]) [] Tryz.results44 (QW 3 Z Z Q1H Q2u Z Z) (Qc Z) ⟨Z,Z,Z⟩ (asK [] Z) Z Z (.inl Z)
 refine Q58 (i:=a0) 0 Z Z Z Zq Z Z Z Z tZ_140 tM_146 trivial (by simp [Q70,(ne_of_beq_false a7).symm,(ne_of_beq_false a8).symm,(ne_of_beq_false a9).symm]) (v:=.tuple #[.nilFunc,.bool false]) Z (wP Z (wP Z (wP Z (wP Z (wP Z (Q3 (Q4 (Q2 [7,6,4] (S':=V3 ..) Z (Q5 (Q5 (Q1 (wP Z (wP Z ?_)))))))))))))
 refine Q3 (Q4 (Q2 [20,6,4] (S':=V3 ..) Z ?_))
 refine Qj Z (fun aK=>?_) (fun aK=>?_)
 replace hm:=QA hm aK
 refine Q2 [4] (S':=[_]) Z (Q5 (Q1 (Q13 Z Z Z Zq Z Q2Y Q8x Z (out:=V3 ..) Z (wS 1 0 Z Q1H (all':=V3 ..) Z (H':=V4 ..) Z (wP Z (Q3 (Q4 (Q2 [5,4] (S':=[_,_]) Z (Qb (Q7 ?_))))))))))
 have hE:=(Zi hm).symm
 obtain ⟨hE0,hF1⟩:=Prod.mk.inj hE
 obtain ⟨hE1,hF2⟩:=Prod.mk.inj hF1
 obtain ⟨hE2,hE3⟩:=Prod.mk.inj hF2
 clear hE hF1 hF2
 replace hE0:=hE0.symm
 subst hE0
 replace hE1:=hE1.symm
 subst hE1
 replace hE2:=hE2.symm
 subst hE2
 replace hE3:=hE3.symm
 subst hE3
 refine Q1r (Hr:=[]) [] Tryz.results44 (QW 1 Z Z Q1H Q2u Z Z) (Qc Z) ⟨Z,Z,Z⟩ (asK [] Z) Z Z (.inl Z)
 ·
  replace hm:=Qz hm aK
  refine Q2 [6,4] (S':=[_,_]) Z (Qq (Q4 (Q5 (Q1 (wP Z ?_)))))
  cases hm
theorem Q7j : ∀ (N:Nat),∀ (a0:Int) (a1:Int) (a2:Int) (a3:ByteArray) (a4:Int) (a5:Int) (qp0:OA) (qc1:Nat) (l6:List Qo) (qp2:OA) (qc3:Nat) (l7:List V) (o0:Int) (o1:Int) (o2:ByteArray) (o3:Nat),Q7x N a0 a1 a2 a3 a4 a5 l6 l7 = some (o0,o1,o2,o3) → Q1o Tryz.prog 44 [.agg #[.int .u8 a0,.int .u8 a1,.int .i64 a2,.string a3,.int .i64 a4,.int .u8 a5,.slice qp0 l6.length qc1],.slice qp2 l7.length qc3] [.sli 7 QB qp0 qc1 l6,.sli 3 R_V qp2 qc3 l7] [] (fun v Φr Hr=>v = .tuple #[.agg #[.int .u8 o0,.int .i64 o1,.string o2],.int .i64 ((o3:Nat):Int)] ∧ Φr = [] ∧ Hr = []):=by
 intro N
 induction N with
 | zero=>intro a0 a1 a2 a3 a4 a5 qp0 qc1 l6 qp2 qc3 l7 o0 o1 o2 o3 hm; cases hm
 | succ N ih=>intro a0 a1 a2 a3 a4 a5 qp0 qc1 l6 qp2 qc3 l7 o0 o1 o2 o3 hm; exact w_expr_Eval_s_b N (Q7x N) ih a0 a1 a2 a3 a4 a5 qp0 qc1 l6 qp2 qc3 l7 o0 o1 o2 o3 hm
theorem Qbo (N:Nat) (s:OA) (z:Nat) (l0:List Bool) (a5:OA) (a6:Nat) (l1:List V) (o0:Bool) (hm:Q7t N l0 l1 = some o0):Q1o Tryz.prog 88 [.agg #[.slice s l0.length z,.slice a5 l1.length a6]] [.sli 1 Q1v s z l0,.sli 3 R_V a5 a6 l1] [] (fun v Φr Hr=>v = .bool o0 ∧ Φr = [] ∧ Hr = []):=by
 unfold Q7t at hm
 refine QD Tryz.func88 Z Tryz.ntmps88 Z (S:=[_]) Z (fun C=>(Q5 (Q1 (wB Z (fun g1=>(wP Z (Q3 (Q4 (Q2 [1] (S':=[_]) Z (Q5 (Q5 (Q1 (wF Z Q9u (wD 0 0 Z tS_98 tA_98 Z (wN Z tE_98 ?_)))))))))))))))
 refine wF Z Q6P (wD 0 1 Z Q7i Q7g Z (wN Z Q5a (wP Z (QH (d:=11) (v':=.bool (l0.length != l1.length)) (S':=V7 ..) Z Z (natne (a:=l0.length) (b:=l1.length)) (Q3 (Q4 (Q2 [11,1] (S':=[_,_]) Z ?_)))))))
 refine Qj Z (fun a7=>?_) (fun a7=>?_)
 replace hm:=QA hm a7
 refine Q2 [] (S':=[]) Z (Q5 (Q1 (wP Z (Q3 (Q4 (Qb (Q7 ?_)))))))
 have hE:=(Zi hm).symm
 replace hE:=hE.symm
 subst hE
 refine Ql (Hr:=[]) [] Tryz.results88 (Qc Z) ⟨Z,Z,Z⟩ (asK [] Z) Z Z (.inl Z)
 replace hm:=Qz hm a7
 refine Q2 [1] (S':=[_]) Z (Qq (Q4 (Q5 ?_)))
 obtain ⟨aC,hm,hLj_1⟩:=Q1w hm
 refine QI (σ:=Unit) (fun _=>aC = .inl ()) (fun _=>[]) (fun _=>[]) (fun _=>[]) ?_ ?_
 refine Q5 (Q1 (wF Z Q9u (wD 0 0 Z tS_98 tA_98 Z (wN Z tE_98 (wP Z (Q3 (Q4 (Q2 [15,14,13,1] (S':=V4 ..) Z (Qw (Q1E (σ:=Nat × Nat) (fun (a1,j)=>Q1M (Q6k N l0 l1) a1 j = some aC) (fun (a1,j)=>a1) (fun (a1,j)=>[(15,.int .i64 ((j:Nat):Int)),(14,.int .i64 ((l0.length:Nat):Int)),(13,.slice s l0.length z),(1,.pointer (some ⟨g1,0,none⟩))]) (fun (a1,j)=>[.sli 1 Q1v s z l0,.sli 3 R_V a5 a6 l1]) (fun (a1,j)=>[.blk g1 [.slice s l0.length z,.slice a5 l1.length a6] 100]) (N,0) hm [15,14,13,1] Z (asK [0,1] Z) Z (fun s_ hm=>?_)))))))))))
 obtain ⟨a1,j⟩:=s_
 try dsimp only at hm ⊢
 obtain ⟨aR,aS,aD,hq,hLu1⟩:=Q1e hm
 clear hm
 subst aD
 replace hm:=hq
 clear hq
 unfold Q6k at hm
 try dsimp only at hm
 refine Q5 (Q1 (wP Z (QH (d:=16) (v':=.bool (decide (j < l0.length))) (S':=V4 ..) Z Z (Q2z (a:=j) (b:=l0.length)) (Q3 (Q4 (Q5 ?_))))))
 refine Qj Z (fun a8=>?_) (fun a8=>?_)
 replace hm:=QA hm a8
 refine Q2 [15,14,13,1] (S':=V4 ..) Z (Qq (Q4 (Q5 (Qw (Q5 (Q1 (wP Z ?_)))))))
 obtain ⟨aT,aE,hm⟩:=Q6 hm
 refine Q1F 0 j Z Z Z Zq Z Z Z Z Z aE tE_98 tS_4 (fun aU aV aP aM=>(Q22 QaB 1 Z (fun aW aF _=>?_)))
 subst aF
 refine Q21 0 0 Z Z Z Zq Z Z Z (cs:=[_]) Z tS_4 tA_4 Z Z (wP Z (wP Z (Q3 (Q4 (Q2 [4,3,15,14,13,1] (S':=V6 ..) Z (Q5 ?_))))))
 obtain ⟨aG,hm,hLj_2⟩:=Q6 hm
 refine QI (σ:=Bool) (fun q=>aG = q) (fun q=>[(15,.int .i64 ((j:Nat):Int)),(14,.int .i64 ((l0.length:Nat):Int)),(13,.slice s l0.length z),(1,.pointer (some ⟨g1,0,none⟩)),(30,.bool q)]) (fun q=>[.sli 1 Q1v s z l0,.sli 3 R_V a5 a6 l1]) (fun q=>[.blk g1 [.slice s l0.length z,.slice a5 l1.length a6] 100]) ?_ ?_
 refine Q1 (wP Z (wP Z (wP Z ?_)))
 refine Qt (d:=22) (S':=V8 ..) Z Z (fun a9=>?_) (fun a9=>?_)
 replace hm:=QA hm a9
 refine wF Z Q6P (wD 0 1 Z Q7i Q7g Z (wP Z ?_))
 obtain ⟨aH,aI,hm⟩:=Q6 hm
 refine Q1F 3 j Z Z Z Zq Z Z Z Z Z aI Q5a Q1H (fun aX aY aQ aN=>(Q22 Q6d 1 Z (fun aZ aJ _=>?_)))
 subst aJ
 refine Q21 0 0 Z Z Z Zq Z Z Z (cs:=V3 ..) Z Q1H Q2u Z Z (Q13 Z Z Z Zq Z Q2Y Q8x Z (out:=V3 ..) Z (Q7Q Z Z Z Zq Z Z Z (neqV _ _ aH (⟨0,0,(⟨#[]⟩ : ByteArray)⟩ : V)) (wP Z (Q3 ?_))))
 have hE:=(Zi hm).symm
 refine Q9 (!decide (aH = (⟨0,0,(⟨#[]⟩ : ByteArray)⟩ : V))) hE [15,14,13,1,30] Z (asK [4,5] Z) Z
 replace hm:=Qz hm a9
 refine wO Z (wO Z (wO Z (wO Z (wO Z (wO Z (wO Z (wP Z (Q3 ?_))))))))
 have hE:=(Zi hm).symm
 refine Q9 false hE [15,14,13,1,30] Z (asK [2,3] Z) Z
 rintro q hE
 try dsimp only
 have hm:=hLj_2
 rw [hE] at hm
 refine Qj Z (fun aA=>?_) (fun aA=>?_)
 replace hm:=QA hm aA
 refine Q2 [] (S':=[]) Z (Q5 (Q1 (wP Z (Q3 (Q4 (Qb (Qg (Q7 (Q7 (Qg (Q7 ?_)))))))))))
 have hE:=(Zi hm).symm
 replace hE:=Qv hLu1 hE
 replace hE:=Qv hLj_1 hE
 replace hE:=hE.symm
 subst hE
 refine Ql (Hr:=[]) [] Tryz.results88 (Qc Z) ⟨Z,Z,Z⟩ (asK [] Z) Z Z (.inl Z)
 replace hm:=Qz hm aA
 refine Q2 [15,14,13,1] (S':=V4 ..) Z (Qq (Qh (Q4 (Q1 (wP Z ?_)))))
 obtain ⟨aK,hm⟩:=Qu hm
 refine QH (d:=31) (v':=.int .i64 ((j + 1:Nat):Int)) (S':=V4 ..) Z Z (Q1J (a:=j) (b:=1) aK) (Q1b (S':=V4 ..) Z Z Z Z Z (Q3 ?_))
 have hE:=(Zi hm).symm
 replace hE:=QO hLu1 hE
 refine Q1a (_,j + 1) (Nat.lt_succ_self _) hE [15,14,13,1] Z (asK [0,1] Z) Z
 replace hm:=Qz hm a8
 refine Q2 [] (S':=[]) Z (Q1x (Qk (Qk (QJ ?_))))
 have hE:=(Zi hm).symm
 replace hE:=Qv hLu1 hE
 refine Qs [] Z (H':=[]) Z ?_
 refine Q9 () hE [] Z (asK [] Z) Z
 rintro _ hE
 try dsimp only
 have hm:=QO hLj_1 hE
 try dsimp only at hm
 refine Q5 (Q1 (wP Z (Q3 (Q4 (Qb ?_)))))
 have hE:=(Zi hm).symm
 replace hE:=hE.symm
 subst hE
 refine Ql (Hr:=[]) [] Tryz.results88 (Qc Z) ⟨Z,Z,Z⟩ (asK [] Z) Z Z (.inl Z)
theorem Clone121f_s (p:OA) (c:Nat) (l:List Bool) (hb:l.length ≤ 140737488355328):Q1o Tryz.prog 121 [.slice p l.length c] [.sli 1 Q1v p c l] [] (fun v Φr Hr=>∃ p' c',v = .slice p' l.length c' ∧ Φr = [] ∧ Hr = [.own 4 1 Q1v v l]):=by
 refine QD Tryz.func121 Z Tryz.ntmps121 Z (S:=[_]) Z (fun C=>(wc_know (fun F w h=>sli_nil (h _ (Q10 (k:=0) Z))) (fun isnil=>(Q5 (Q1 (wP Z (Q3 (Q4 (Q5 (Q5 (Q1 (wP Z (wl_eqlNil Z Z Z Zq Z Z Z tE_98 (Q3 (Q4 ?_)))))))))))))))
 refine Q2 [4,2,0] (S':=V3 ..) Z ?_
 refine Qj Z (fun h4=>?_) (fun h4=>?_)
 replace h4:=Qbj h4
 obtain rfl:=isnil h4
 subst h4
 refine Q3i 4 1 Q1v (Q5 (Q1 (Q1b (S':=[_,_]) Z Z Z Z Z (Q3 (Q4 (Qb (Q7 (Ql (Hr:=[.own 4 1 Q1v (V1) []]) [0] Tryz.results121 (Qc Z) ?_ (asK [] Z) Z Z (.inl Z)))))))))
 exact ⟨none,0,Z,Z,Z⟩
 replace h4:=QaD h4
 refine Qq (Q4 (Q5 (Q1 (Qy Z Z Z Zq Z tE_98 tS_4 tZ_4 Z (zs:=[]) (by kernel_rfl) Z (out:=[]) Z (fun g5=>(wP Z (Q2f (sz:=1) (m:=0) Q1v [] 0 Z (fun F w hφ=>Z) Z (by decide) (H':=[_]) Z (wl_append 0 0 Z Z Z Zq Z Z Z Z Z tE_98 tR_4 Z Z (by simp; omega) (by simp; omega) (H2:=fun p7 c7=>[.own 4 1 Q1v (.slice p7 (l).length c7) l]) (fun _ _=>Z) (fun p7 c7=>(Q1b (S':=V5 ..) Z Z Z Z Z (Q3 (Q4 (Q2 [2,4,0] (S':=V3 ..) Z (Qb (Ql (Hr:=[.own 4 1 Q1v (.slice p7 (l).length c7) l]) [0] Tryz.results121 (Qc Z) ?_ (asK [] Z) Z Z (.inl Z))))))))))))))))
 exact ⟨_,_,Z,Z,Z⟩
theorem w_pattern_of_s (N:Nat) (qp0:OA) (qc1:Nat) (l0:List Bool) (qp2:OA) (qc3:Nat) (l1:List V)  (hm:QaF N l0 l1 = some ()):Q1o Tryz.prog 89 [.agg #[.slice qp0 l0.length qc1,.slice qp2 l1.length qc3]] [.sli 1 Q1v qp0 qc1 l0,.sli 3 R_V qp2 qc3 l1] [] (fun v Φr Hr=>∃ (o0:OA) (o1:Nat) (o2:OA) (o3:Nat),v = .agg #[.slice o0 l0.length o1,.slice o2 l1.length o3] ∧ Φr = [] ∧ Hr = [.own 4 1 Q1v (.slice o0 l0.length o1) l0,.own 57 3 R_V (.slice o2 l1.length o3) l1]):=by
 unfold QaF at hm
 refine QD Tryz.func89 Z Tryz.ntmps89 Z (S:=[_]) Z (fun C=>(Q5 (Q1 (wB Z (fun g1=>(QE Z Z Z Zq Z tZ_152 Z (fun g2=>(Q3 (Q4 (Q2 [2,1] (S':=[_,_]) Z (Q5 ?_)))))))))))
 obtain ⟨hg5,hm⟩:=Qu hm
 obtain ⟨hg8,hm⟩:=Qu hm
 refine Q18 [0,1,3,4,6,7] Z Z (fun hok=>(Q8 hok 0 Z Z Z Zq Z Z Z Q9u (Qm hok 1 1 0 Z Z Z Zq Z Z Z Z (cs:=[_]) Z tS_98 tA_98 Z Z (Q8 hok 3 Z Z Z Zq Z Z Z Q6P (Qm hok 4 1 1 Z Z Z Zq Z Z Z Z (cs:=[_]) Z Q7i Q7g Z Z (xS hok 2 Z (wC [] [0,1] Z fn_121 Z (Clone121f_s qp0 qc1 l0 hg5) (asK [0] Z) Z (H':=[_,_]) Z ?_)))))))
 rintro _ _ _ ⟨p5,c5,rfl,rfl,rfl⟩
 refine Q3 (QV [0,1] [2] Z Z (xS hok 5 Z (wC [] [0,1,2] Z fn_68 Z (Clone68f_s qp2 qc3 l1 hg8) (asK [1] Z) Z (H':=V3 ..) Z ?_)))
 rintro _ _ _ ⟨p8,c8,rfl,rfl,rfl⟩
 refine Q3 (QV [0,1] [3] Z Z (Q6U hok 6 Z Z Z Zq Z Z Q7N tP_100 Z (out:=[_,_]) Z (Q6U hok 7 Z Z Z Zq Z Z tZ_152 tP_152 Z (out:=[_,_]) Z (xS hok 8 Z (wS 2 0 Z tS_152 (all':=[_,_]) Z (H':=V4 ..) Z (Q3 (QV [0,1] [] Z Z (Q11 hok Z (Q4 (Q2 [2] (S':=[_]) Z (Qb ?_)))))))))))
 have hE:=(Zi hm).symm
 refine Ql (Hr:=[_,_]) [1,0] Tryz.results89 (QW 2 Z Z tS_152 tA_152 Z Z) ⟨p5,c5,p8,c8,Z,Z,Z⟩ (asK [] Z) Z Z (.inl Z)
theorem Qar (N:Nat) (aB:OA) (aC:Nat) (aD:Nat) (l0:List Bool) (aE:OA) (aF:Nat) (aG:Nat) (l1:List V) (a2:Int) (a3:Int) (a4:Int) (a5:Int) (a6:ByteArray) (a7:Int) (a8:Int) (a9:ByteArray) (o0:Bool) (o1:List Bool) (o2:List V) (hm:Q6l N l0 l1 a2 a3 a4 a5 a6 a7 a8 a9 = some (o0,o1,o2)):Q1o Tryz.prog 90 [.agg #[.slice aB aC aD,.slice aE aF aG],.agg #[.int .u8 a2,.int .i64 a3,.int .u8 a4,.int .i64 a5,.string a6],.agg #[.int .u8 a7,.int .i64 a8,.string a9]] [] [.own 4 1 Q1v (.slice aB aC aD) l0,.own 57 3 R_V (.slice aE aF aG) l1] (fun v Φr Hr=>v = .bool o0 ∧ Φr = [] ∧ Hr = [.own 4 1 Q1v (.slice aB aC aD) o1,.own 57 3 R_V (.slice aE aF aG) o2]):=by
 unfold Q6l at hm
 refine QD Tryz.func90 Z Tryz.ntmps90 Z (S:=V3 ..) Z (fun C=>(Q5 (Q1 (wB Z (fun g3=>(wB Z (fun g4=>(wB Z (fun g5=>(wP Z (Q3 (Q4 (Q2 [5,4,3] (S':=V3 ..) Z (Q5 ?_))))))))))))))
 obtain ⟨b0,hm,hLj_1⟩:=Q6 hm
 refine QI (σ:=Bool) (fun z=>b0 = z) (fun z=>[(5,.pointer (some ⟨g5,0,none⟩)),(4,.pointer (some ⟨g4,0,none⟩)),(3,.pointer (some ⟨g3,0,none⟩)),(7,.bool z)]) (fun z=>[]) (fun z=>[.blk g5 [.int .u8 a7,.int .i64 a8,.string a9] 57,.blk g4 [.int .u8 a2,.int .i64 a3,.int .u8 a4,.int .i64 a5,.string a6] 59,.blk g3 [.slice aB aC aD,.slice aE aF aG] 152,.own 4 1 Q1v (.slice aB aC aD) l0,.own 57 3 R_V (.slice aE aF aG) l1]) ?_ ?_
 refine Q1 (wF Z Q5g (wD 1 1 Z Q1A Q1N Z (wP Z (wP Z ?_))))
 refine Qt (d:=11) (S':=V6 ..) Z Z (fun aH=>?_) (fun aH=>?_)
 replace hm:=QA hm aH
 refine wF Z Q5g (wD 1 1 Z Q1A Q1N Z (wF Z Q9w (wF Z Q9u (wD 2 0 Z tS_98 tA_98 Z (Q15 3 Z (fun b1 _=>(wN Z tE_98 (QH (d:=17) (v':=.int .i64 ((l0.length:Nat):Int)) (S':=V12 ..) Z Z (Q4Y b1) (wP Z (wP Z (wP Z (Q3 ?_))))))))))))
 have hE:=(Zi hm).symm
 refine Q9 (decide (a3 < ((l0.length:Nat):Int))) hE [5,4,3,7] Z (asK [] Z) Z
 replace hm:=Qz hm aH
 refine wO Z (wO Z (wO Z (wO Z (wO Z (wO Z (wO Z (wP Z (wP Z (Q3 ?_)))))))))
 have hE:=(Zi hm).symm
 refine Q9 false hE [5,4,3,7] Z (asK [] Z) Z
 rintro z hE
 try dsimp only
 have hm:=hLj_1
 rw [hE] at hm
 refine Q5 (Q5 (Q1 (wF Z tF_59_0 (wD 1 0 Z tS_54 tA_54 Z (Q3 (Q4 (Q2 [21,5,4,3,7] (S':=V5 ..) Z (Qw (Q5 (Q1 (wP Z (wP Z (Q3 ?_)))))))))))))
 refine Q4 (Q2 [22,21,5,4,3,7] (S':=V6 ..) Z ?_)
 refine Qj Z (fun aI=>?_) (fun aI=>?_)
 replace hm:=QA hm aI
 refine Q2 [] (S':=[]) Z (Q5 (Q1 (wP Z (Q3 (Q4 (Qb (Qg (Q7 ?_))))))))
 have hE:=(Zi hm).symm
 obtain ⟨hE0,hF1⟩:=Prod.mk.inj hE
 obtain ⟨hE1,hE2⟩:=Prod.mk.inj hF1
 clear hE hF1
 replace hE0:=hE0.symm
 subst hE0
 replace hE1:=hE1.symm
 subst hE1
 replace hE2:=hE2.symm
 subst hE2
 refine Ql (Hr:=[_,_]) [3,4] Tryz.results90 (Qc Z) ⟨Z,Z,Z⟩ (asK [] Z) Z Z (.inl Z)
 replace hm:=Qz hm aI
 refine Q2 [21,5,4,3,7] (S':=V5 ..) Z (Q5 (Q1 (wP Z (wP Z (Q3 (Q4 (Q2 [24,21,5,4,3,7] (S':=V6 ..) Z ?_)))))))
 refine Qj Z (fun aJ=>?_) (fun aJ=>?_)
 replace hm:=QA hm aJ
 refine Q2 [5,4] (S':=[_,_]) Z (Q5 (Q1 (wF Z tF_59_2 (QR 1 2 Z Z Z Zq Z Z Z (cs:=V3 ..) Z Q1H Q2u Z Z (QR 0 0 Z Z Z Zq Z Z Z (cs:=V3 ..) Z Q1H Q2u Z Z (Q7Q Z Z Z Zq Z Z Z (eqlV _ _ (⟨a4,a5,a6⟩ : V) (⟨a7,a8,a9⟩ : V)) (wP Z (Q3 (Q4 (Q2 [6] (S':=[_]) Z (Qb (Qg (Q7 ?_)))))))))))))
 have hE:=(Zi hm).symm
 obtain ⟨hE0,hF1⟩:=Prod.mk.inj hE
 obtain ⟨hE1,hE2⟩:=Prod.mk.inj hF1
 clear hE hF1
 replace hE0:=hE0.symm
 subst hE0
 replace hE1:=hE1.symm
 subst hE1
 replace hE2:=hE2.symm
 subst hE2
 refine Ql (Hr:=[_,_]) [3,4] Tryz.results90 (Qc Z) ⟨Z,Z,Z⟩ (asK [] Z) Z Z (.inl Z)
 replace hm:=Qz hm aJ
 refine Q2 [21,5,4,3,7] (S':=V5 ..) Z (Q5 (Q1 (wP Z (wP Z (Q3 (Q4 (Q2 [30,21,5,4,3,7] (S':=V6 ..) Z ?_)))))))
 refine Qj Z (fun aK=>?_) (fun aK=>?_)
 replace hm:=QA hm aK
 refine Q2 [5,4,3,7] (S':=V4 ..) Z (Q5 ?_)
 rcases QG hm with ⟨a1,hm⟩ | ⟨a1,hm⟩
 obtain ⟨aR,hm⟩:=Qu hm
 obtain ⟨b2,aA,hm⟩:=Q6 hm
 rcases QG hm with ⟨aL,hm⟩ | ⟨aL,hm⟩
 obtain ⟨b3,hm⟩:=Qu hm
 obtain ⟨aQ,aS,hm⟩:=Q6 hm
 refine Q18 [0,1,2,3,4,5,6,7,8,9,10,11,12,13,14,15,16,17,18,19,20] Z Z (fun hok=>(xP hok 0 Z (xP hok 1 Z (Q1D (d:=33) (v':=.bool true) (S':=V5 ..) Z Z (Q1l a1) (Q8 hok 2 Z Z Z Zq Z Z Z Q9w (Q8 hok 3 Z Z Z Zq Z Z Z Q9u (Qm hok 4 2 0 Z Z Z Zq Z Z Z Z (cs:=[_]) Z tS_98 tA_98 Z Z (Q8 hok 5 Z Z Z Zq Z Z Z Q5g (Qm hok 6 1 1 Z Z Z Zq Z Z Z Z (cs:=[_]) Z Q1A Q1N Z Z (Q4M hok 7 3 a3.toNat Z Z Z Zq Z Z Z Z Z (Q1G aR) (Q2t aA) tE_98 tS_4 (fun bA aM=>?_)))))))))))
 subst aM
 refine Q8i hok 8 QaB 3 a3.toNat 0 Z Z Z Zq Z Z Z Z aA tS_4 tA_4 (v:=.bool b2) Z Z (fun _=>(xP hok 9 Z (xP hok 10 Z (Q1D (d:=42) (v':=.bool true) (S':=V14 ..) Z Z (Q1l aL) (Q8 hok 11 Z Z Z Zq Z Z Z Q9w (Q8 hok 12 Z Z Z Zq Z Z Z Q6P (Qm hok 13 2 1 Z Z Z Zq Z Z Z Z (cs:=[_]) Z Q7i Q7g Z Z (Q8 hok 14 Z Z Z Zq Z Z Z Q5g (Qm hok 15 1 1 Z Z Z Zq Z Z Z Z (cs:=[_]) Z Q1A Q1N Z Z (Q4M hok 16 4 a3.toNat Z Z Z Zq Z Z Z Z Z (Q1G b3) (Q2t aS) Q5a Q1H (fun bI b4=>?_)))))))))))
 subst b4
 refine Q8i hok 17 Q6d 4 a3.toNat 0 Z Z Z Zq Z Z Z Z aS Q1H Q2u (v:=.agg #[.int .u8 (aQ.k),.int .i64 (aQ.n),.string aQ.s]) Z Z (fun _=>(Qm hok 18 0 0 Z Z Z Zq Z Z Z Z (cs:=V3 ..) Z Q1H Q2u Z Z (wx_bin hok 19 Z Z Z Zq Z Z Z Z (eqlV _ _ aQ (⟨a7,a8,a9⟩ : V)) (xP hok 20 Z (xS hok 21 Z (wP Z (Q3 (QV [] [] Z Z (Q11 hok Z (Q4 (Q2 [6] (S':=[_]) Z (Qb (Qg (Q7 ?_))))))))))))))
 have hE:=(Zi hm).symm
 obtain ⟨hE0,hF1⟩:=Prod.mk.inj hE
 obtain ⟨hE1,hE2⟩:=Prod.mk.inj hF1
 clear hE hF1
 replace hE0:=hE0.symm
 subst hE0
 replace hE1:=hE1.symm
 subst hE1
 replace hE2:=hE2.symm
 subst hE2
 refine Ql (Hr:=[_,_]) [3,4] Tryz.results90 (Qc Z) ⟨Z,Z,Z⟩ (asK [] Z) Z Z (.inl Z)
 refine Q18 [0,1,2,3,4,5,6,7,8,9,10,11,12,13,14,15,16,17,18,19,20] Z Z (fun hok=>(xP hok 0 Z (xP hok 1 Z (Q1D (d:=33) (v':=.bool true) (S':=V5 ..) Z Z (Q1l a1) (Q8 hok 2 Z Z Z Zq Z Z Z Q9w (Q8 hok 3 Z Z Z Zq Z Z Z Q9u (Qm hok 4 2 0 Z Z Z Zq Z Z Z Z (cs:=[_]) Z tS_98 tA_98 Z Z (Q8 hok 5 Z Z Z Zq Z Z Z Q5g (Qm hok 6 1 1 Z Z Z Zq Z Z Z Z (cs:=[_]) Z Q1A Q1N Z Z (Q4M hok 7 3 a3.toNat Z Z Z Zq Z Z Z Z Z (Q1G aR) (Q2t aA) tE_98 tS_4 (fun bA aM=>?_)))))))))))
 subst aM
 refine Q8i hok 8 QaB 3 a3.toNat 0 Z Z Z Zq Z Z Z Z aA tS_4 tA_4 (v:=.bool b2) Z Z (fun _=>(xP hok 9 Z (xP hok 10 Z (Q1D (d:=42) (v':=.bool false) (S':=V14 ..) Z Z (Q1l aL) (xO hok 11 Z (xO hok 12 Z (xO hok 13 Z (xO hok 14 Z (xO hok 15 Z (xO hok 16 Z (xO hok 17 Z (xO hok 18 Z (xO hok 19 Z (xP hok 20 Z ?_))))))))))))))
 refine xS hok 21 Z (wP Z (Q3 (QV [] [] Z Z (Q11 hok Z (Q4 (Q2 [6] (S':=[_]) Z (Qb (Qg (Q7 ?_)))))))))
 have hE:=(Zi hm).symm
 obtain ⟨hE0,hF1⟩:=Prod.mk.inj hE
 obtain ⟨hE1,hE2⟩:=Prod.mk.inj hF1
 clear hE hF1
 replace hE0:=hE0.symm
 subst hE0
 replace hE1:=hE1.symm
 subst hE1
 replace hE2:=hE2.symm
 subst hE2
 refine Ql (Hr:=[_,_]) [3,4] Tryz.results90 (Qc Z) ⟨Z,Z,Z⟩ (asK [] Z) Z Z (.inl Z)
 refine Q18 [0,1,2,3,4,5,6,7,8,9,10,11,12,13,14,15,16,17,18,19,20] Z Z (fun hok=>(xP hok 0 Z (xP hok 1 Z (Q1D (d:=33) (v':=.bool false) (S':=V5 ..) Z Z (Q1l a1) (xO hok 2 Z (xO hok 3 Z (xO hok 4 Z (xO hok 5 Z (xO hok 6 Z (xO hok 7 Z (xO hok 8 Z (xP hok 9 Z (xP hok 10 Z (xO hok 11 Z ?_))))))))))))))
 refine xO hok 12 Z (xO hok 13 Z (xO hok 14 Z (xO hok 15 Z (xO hok 16 Z (xO hok 17 Z (xO hok 18 Z (xO hok 19 Z (xP hok 20 Z (xS hok 21 Z (wP Z (Q3 (QV [] [] Z Z (Q11 hok Z ?_)))))))))))))
 refine Q4 (Q2 [6] (S':=[_]) Z (Qb (Qg (Q7 ?_))))
 have hE:=(Zi hm).symm
 obtain ⟨hE0,hF1⟩:=Prod.mk.inj hE
 obtain ⟨hE1,hE2⟩:=Prod.mk.inj hF1
 clear hE hF1
 replace hE0:=hE0.symm
 subst hE0
 replace hE1:=hE1.symm
 subst hE1
 replace hE2:=hE2.symm
 subst hE2
 refine Ql (Hr:=[_,_]) [3,4] Tryz.results90 (Qc Z) ⟨Z,Z,Z⟩ (asK [] Z) Z Z (.inl Z)
 replace hm:=Qz hm aK
 refine Q2 [21,5,4,3,7] (S':=V5 ..) Z (Q5 (Q1 (wP Z (wP Z (Q3 (Q4 (Q2 [53,5,4,3,7] (S':=V5 ..) Z ?_)))))))
 refine Qj Z (fun aN=>?_) (fun aN=>?_)
 replace hm:=QA hm aN
 refine Q2 [5,4,3,7] (S':=V4 ..) Z (Q5 ?_)
 obtain ⟨b5,hm,hLj_2⟩:=Q6 hm
 unfold Q78 at hm
 refine QI (σ:=(List Bool) × (List V)) (fun (j,q)=>b5 = (j,q)) (fun (j,q)=>[(7,.bool z)]) (fun (j,q)=>[]) (fun (j,q)=>[.own 4 1 Q1v (.slice aB aC aD) j,.own 57 3 R_V (.slice aE aF aG) q]) ?_ ?_
 refine Q5 (Q1 (wP Z (Q3 (Q4 ?_))))
 refine Qj Z (fun aO=>?_) (fun aO=>?_)
 ·
  replace hm:=QA hm aO
  refine Q2 [5,4,3,7] (S':=V4 ..) Z ?_
  obtain ⟨aT,hm⟩:=Qu hm
  obtain ⟨bJ,a0,hm⟩:=Q6 hm
  obtain ⟨b6,hm⟩:=Qu hm
  obtain ⟨bK,aU,hm⟩:=Q6 hm
  refine Q18 [0,1,3,4,5,6,8,9,10,11,13] Z Z (fun hok=>(Q8 hok 0 Z Z Z Zq Z Z Z Q9w (Q8 hok 1 Z Z Z Zq Z Z Z Q9u (Q8 hok 3 Z Z Z Zq Z Z Z Q5g (Qm hok 4 1 1 Z Z Z Zq Z Z Z Z (cs:=[_]) Z Q1A Q1N Z Z (Q8 hok 5 Z Z Z Zq Z Z Z Q9w (Q8 hok 6 Z Z Z Zq Z Z Z Q6P (Q8 hok 8 Z Z Z Zq Z Z Z Q5g (Qm hok 9 1 1 Z Z Z Zq Z Z Z Z (cs:=[_]) Z Q1A Q1N Z Z (Qm hok 10 0 0 Z Z Z Zq Z Z Z Z (cs:=V3 ..) Z Q1H Q2u Z Z ?_))))))))))
  refine Q3n hok 2 7 Z Z Z Z Z Z ?_ ?_
  rotate_left
  focus
   refine wD 2 1 Z Q7i Q7g Z (Q3 (QV [] [0,1,1] Z Z (xS hok 2 Z (wD 2 0 Z tS_98 tA_98 Z (Q3 (QV [] [0,1,1] Z Z (Q4M hok 11 3 a3.toNat Z Z Z Zq Z Z Z Z Z (Q1G aT) (Q2t a0) tE_98 tS_4 (fun bB aP=>?_))))))))
   subst aP
   refine xS hok 12 Z (Q9V (u:=true) 3 a3.toNat Z Z Z Z Z (Q2t a0) Z Z tS_4 Z (fun F w hφ=>⟨(),Z,Qr⟩) (H':=V5 ..) Z (Q3 (QV [] [0,1] Z Z ?_)))
  rotate_right
  focus
   refine wD 2 0 Z tS_98 tA_98 Z (Q3 (QV [] [0,1,1] Z Z (Q4M hok 11 3 a3.toNat Z Z Z Zq Z Z Z Z Z (Q1G aT) (Q2t a0) tE_98 tS_4 (fun bB aP=>?_))))
   subst aP
   refine Q3n hok 7 12 Z Z Z Z Z Z ?_ ?_
   rotate_left
   focus
    refine Q9V (u:=true) 3 a3.toNat Z Z Z Z Z (Q2t a0) Z Z tS_4 Z (fun F w hφ=>⟨(),Z,Qr⟩) (H':=V5 ..) Z (Q3 (QV [] [0,1] Z Z (xS hok 7 Z (wD 2 1 Z Q7i Q7g Z (Q3 (QV [] [0,1,1] Z Z ?_))))))
   rotate_right
   focus
    refine wD 2 1 Z Q7i Q7g Z (Q3 (QV [] [0,1,1] Z Z (xS hok 12 Z (Q9V (u:=true) 3 a3.toNat Z Z Z Z Z (Q2t a0) Z Z tS_4 Z (fun F w hφ=>⟨(),Z,Qr⟩) (H':=V5 ..) Z (Q3 (QV [] [0,1] Z Z ?_))))))
  all_goals
   refine Q4M hok 13 4 a3.toNat Z Z Z Zq Z Z Z Z Z (Q1G b6) (Q2t aU) Q5a Q1H (fun bL b7=>?_)
   subst b7
   refine xS hok 14 Z (Q9V (u:=(⟨a7,a8,a9⟩ : V)) 4 a3.toNat Z Z Z Z Z (Q2t aU) Z Z Q1H Z (fun F w hφ=>⟨(),Z,Qr⟩) (H':=V5 ..) Z (Q3 (QV [] [] Z Z (Q11 hok Z ?_))))
   have hE:=(Zi hm).symm
   refine Qs [3,4] Z (H':=[_,_]) Z ?_
   refine Q9 (l0.set a3.toNat true,(l1.set a3.toNat (⟨a7,a8,a9⟩ : V))) hE [7] Z (asK [] Z) Z
 replace hm:=Qz hm aO
 refine Q2 [7] (S':=[_]) Z (Qq ?_)
 have hE:=(Zi hm).symm
 refine Qs [3,4] Z (H':=[_,_]) Z ?_
 refine Q9 (l0,l1) hE [7] Z (asK [] Z) Z
 rintro ⟨j,q⟩ hE
 try dsimp only
 have hm:=hLj_2
 rw [hE] at hm
 try dsimp only at hm
 refine Q5 (Q1 (wP Z (wP Z (Q3 (Q4 (Q2 [6] (S':=[_]) Z (Qb (Qg (Q7 ?_)))))))))
 have hE:=(Zi hm).symm
 obtain ⟨hE0,hF1⟩:=Prod.mk.inj hE
 obtain ⟨hE1,hE2⟩:=Prod.mk.inj hF1
 clear hE hF1
 replace hE0:=hE0.symm
 subst hE0
 replace hE1:=hE1.symm
 subst hE1
 replace hE2:=hE2.symm
 subst hE2
 refine Ql (Hr:=[_,_]) [0,1] Tryz.results90 (Qc Z) ⟨Z,Z,Z⟩ (asK [] Z) Z Z (.inl Z)
 replace hm:=Qz hm aN
 refine Q2 [] (S':=[]) Z (Qq (Qh (Q4 (Q5 (Q1 (wP Z (Q3 (Q4 (Qb ?_)))))))))
 have hE:=(Zi hm).symm
 obtain ⟨hE0,hF1⟩:=Prod.mk.inj hE
 obtain ⟨hE1,hE2⟩:=Prod.mk.inj hF1
 clear hE hF1
 replace hE0:=hE0.symm
 subst hE0
 replace hE1:=hE1.symm
 subst hE1
 replace hE2:=hE2.symm
 subst hE2
 refine Ql (Hr:=[_,_]) [3,4] Tryz.results90 (Qc Z) ⟨Z,Z,Z⟩ (asK [] Z) Z Z (.inl Z)
theorem Q6x (N:Nat) (a0:Int) (a1:Int) (aQ:OA) (aR:Nat) (l2:List Q3B) (a3:Int) (a4:Int) (a5:Int) (a6:ByteArray) (a7:Int) (a8:Int) (b0:OA) (b1:Nat) (l9:List Qo) (b2:Int) (b3:Int) (aS:OA) (aT:Nat) (aL:List V) (aU:OA) (aV:Nat) (aM:List Bool) (aW:OA) (aX:Nat) (aN:List V) (o2:List Bool) (o6:List V) (o8:Bool) (hm:Q4H N a0 a1 l2 a3 a4 a5 a6 a7 a8 l9 b2 b3 aL aM aN = some (o2,o6,o8)):Q1o Tryz.prog 49 [.agg #[.int .u8 a0,.int .i64 a1,.slice aQ l2.length aR,.int .u8 a3,.int .u8 a4,.int .i64 a5,.string a6,.int .i64 a7,.int .u8 a8,.slice b0 l9.length b1],.agg #[.int .i64 b2,.int .i64 b3,.slice aS aL.length aT],.agg #[.slice aU aM.length aV,.slice aW aN.length aX]] [.sli 5 Q2x aQ aR l2,.sli 7 QB b0 b1 l9,.sli 3 R_V aS aT aL,.sli 1 Q1v aU aV aM,.sli 3 R_V aW aX aN] [] (fun v Φr Hr=>∃ (o0:OA) (o1:Nat) (o3:Nat) (o4:OA) (o5:Nat) (o7:Nat),v = .tuple #[.agg #[.slice o0 o3 o1,.slice o4 o7 o5],.bool o8] ∧ Φr = [] ∧ Hr = [.own 4 1 Q1v (.slice o0 o3 o1) o2,.own 57 3 R_V (.slice o4 o7 o5) o6]):=by
 unfold Q4H at hm
 refine QD Tryz.func49 Z Tryz.ntmps49 Z (S:=V3 ..) Z (fun C=>(Q5 (Q1 (wB Z (fun g3=>(wB Z (fun g4=>(wB Z (fun g5=>(QE Z Z Z Zq Z Q7N Z (fun g6=>(wP Z (Q3 (Q4 (Q2 [6,5,4,3] (S':=V4 ..) Z (Q5 ?_))))))))))))))))
 obtain ⟨bK,hm,hLj_1⟩:=Q6 hm
 refine QI (σ:=Bool) (fun aG=>bK = aG) (fun aG=>[(6,.pointer (some ⟨g6,0,none⟩)),(5,.pointer (some ⟨g5,0,none⟩)),(4,.pointer (some ⟨g4,0,none⟩)),(3,.pointer (some ⟨g3,0,none⟩)),(8,.bool aG)]) (fun aG=>[.sli 1 Q1v aU aV aM,.sli 3 R_V aW aX aN,.sli 3 R_V aS aT aL,.sli 5 Q2x aQ aR l2,.sli 7 QB b0 b1 l9]) (fun aG=>[.blk g6 [V1,V1] 100,.blk g5 [.slice aU aM.length aV,.slice aW aN.length aX] 100,.blk g4 [.int .i64 b2,.int .i64 b3,.slice aS aL.length aT] 71,.blk g3 [.int .u8 a0,.int .i64 a1,.slice aQ l2.length aR,.int .u8 a3,.int .u8 a4,.int .i64 a5,.string a6,.int .i64 a7,.int .u8 a8,.slice b0 l9.length b1] 67]) ?_ ?_
 refine Q1 (wF Z Q9S (wD 3 0 Z tS_53 tA_53 Z (wP Z (wP Z ?_))))
 refine Qt (d:=15) (S':=V7 ..) Z Z (fun b4=>?_) (fun b4=>?_)
 replace hm:=QA hm b4
 refine wO Z (wO Z (wO Z (wP Z (wP Z (Q3 ?_)))))
 have hE:=(Zi hm).symm
 refine Q9 true hE [6,5,4,3,8] Z (asK [3,4,2,0,1] Z) Z
 replace hm:=Qz hm b4
 refine wF Z Q9S (wD 3 0 Z tS_53 tA_53 Z (wP Z (wP Z (wP Z (Q3 ?_)))))
 have hE:=(Zi hm).symm
 refine Q9 (a0 == 2) hE [6,5,4,3,8] Z (asK [3,4,2,0,1] Z) Z
 rintro aG hE
 try dsimp only
 have hm:=hLj_1
 rw [hE] at hm
 refine Q5 (Q5 ?_)
 obtain ⟨bL,hm,hLj_2⟩:=Q6 hm
 unfold Q9d at hm
 refine QI (σ:=Bool) (fun aF=>bL = aF) (fun aF=>[(6,.pointer (some ⟨g6,0,none⟩)),(5,.pointer (some ⟨g5,0,none⟩)),(4,.pointer (some ⟨g4,0,none⟩)),(3,.pointer (some ⟨g3,0,none⟩)),(42,.bool aF)]) (fun aF=>[.sli 1 Q1v aU aV aM,.sli 3 R_V aW aX aN,.sli 3 R_V aS aT aL,.sli 5 Q2x aQ aR l2,.sli 7 QB b0 b1 l9]) (fun aF=>[.blk g6 [V1,V1] 100,.blk g5 [.slice aU aM.length aV,.slice aW aN.length aX] 100,.blk g4 [.int .i64 b2,.int .i64 b3,.slice aS aL.length aT] 71,.blk g3 [.int .u8 a0,.int .i64 a1,.slice aQ l2.length aR,.int .u8 a3,.int .u8 a4,.int .i64 a5,.string a6,.int .i64 a7,.int .u8 a8,.slice b0 l9.length b1] 67]) ?_ ?_
 refine Q1 (wP Z (wP Z (wP Z ?_)))
 refine Qt (d:=22) (S':=V7 ..) Z Z (fun b5=>?_) (fun b5=>?_)
 replace hm:=QA hm b5
 refine wO Z (wO Z (wO Z (wO Z (wO Z (wP Z (wP Z (wO Z (wO Z (wO Z (wO Z (wO Z (wO Z (wO Z ?_)))))))))))))
 refine wP Z (wP Z (wO Z (wO Z (wO Z (wP Z (Q3 ?_))))))
 have hE:=(Zi hm).symm
 refine Q9 true hE [6,5,4,3,42] Z (asK [0,1,2,3,4] Z) Z
 replace hm:=Qz hm b5
 refine wF Z tF_67_1 (wD 3 1 Z Q1A Q1N Z (wF Z Q8m (wD 2 1 Z Q1A Q1N Z (wP Z (wP Z (wP Z ?_))))))
 refine Qt (d:=29) (S':=V14 ..) Z Z (fun b6=>?_) (fun b6=>?_)
 replace hm:=QA hm b6
 refine wO Z (wO Z (wO Z (wO Z (wO Z (wO Z (wO Z (wP Z (wP Z (wO Z (wO Z (wO Z (wP Z (Q3 ?_)))))))))))))
 have hE:=(Zi hm).symm
 refine Q9 true hE [6,5,4,3,42] Z (asK [0,1,2,3,4] Z) Z
 replace hm:=Qz hm b6
 refine wF Z QaN (wD 3 2 Z tS_60 tA_60 Z (wN Z tE_60 (wF Z tF_71_2 (wD 2 2 Z Q7i Q7g Z (wN Z Q5a (wP Z (QH (d:=36) (v':=.bool (l2.length != aL.length)) (S':=V21 ..) Z Z (natne (a:=l2.length) (b:=aL.length)) (wP Z (wP Z ?_)))))))))
 refine Qt (d:=38) (S':=V23 ..) Z Z (fun b7=>?_) (fun b7=>?_)
 replace hm:=QA hm b7
 refine wO Z (wO Z (wO Z (wP Z (Q3 ?_))))
 have hE:=(Zi hm).symm
 refine Q9 true hE [6,5,4,3,42] Z (asK [0,1,2,3,4] Z) Z
 replace hm:=Qz hm b7
 refine QR 1 0 Z Z Z Zq Z Z Z (cs:=[_,_]) Z Q2v Q57 Z Z ?_
 obtain ⟨c3,bM,hm⟩:=Q6 hm
 refine wC [] [0,1,2,3] Z fn_88 Z (Qbo N aU aV aM aW aX aN _ bM) (asK [0,1] Z) Z (H':=V4 ..) Z ?_
 rintro _ _ _ ⟨rfl,rfl,rfl⟩
 refine wP Z (wP Z (Q3 ?_))
 have hE:=(Zi hm).symm
 refine Q9 (!c3) hE [6,5,4,3,42] Z (asK [0,1,2,3,4] Z) Z
 rintro aF hE
 try dsimp only
 have hm:=hLj_2
 rw [hE] at hm
 refine Qj Z (fun b8=>?_) (fun b8=>?_)
 replace hm:=QA hm b8
 refine Q2 [6] (S':=[_]) Z (Q5 (Q1 (Q13 Z Z Z Zq Z Q7N tP_100 Z (out:=[_,_]) Z (wS 0 0 Z Q2v (all':=[_,_]) Z (H':=V4 ..) Z (wP Z (Q3 (Q4 (Q2 [7,6] (S':=[_,_]) Z (Qb (Q7 ?_))))))))))
 have hE:=(Zi hm).symm
 obtain ⟨hE0,hF1⟩:=Prod.mk.inj hE
 obtain ⟨hE1,hE2⟩:=Prod.mk.inj hF1
 clear hE hF1
 replace hE0:=hE0.symm
 subst hE0
 replace hE1:=hE1.symm
 subst hE1
 replace hE2:=hE2.symm
 subst hE2
 refine Q23 4 1 Q1v (Q23 57 3 R_V ?_)
 refine Q1r (Hr:=[_,_]) [1,0] Tryz.results49 (QW 2 Z Z Q2v Q57 Z Z) (Qc Z) ⟨none,0,0,none,0,0,Z,Z,Z⟩ (asK [] Z) Z Z (.inl Z)
 replace hm:=Qz hm b8
 refine Q2 [6,5,4,3] (S':=V4 ..) Z (Qq (Q4 (Q5 (Q1 (QR 1 0 Z Z Z Zq Z Z Z (cs:=[_,_]) Z Q2v Q57 Z Z ?_)))))
 obtain ⟨_,bN,hm⟩:=Q6 hm
 try dsimp only at hm
 refine wC [] [0,1,2,3] Z fn_89 Z (w_pattern_of_s N aU aV aM aW aX aN bN) (asK [0,1] Z) Z (H':=V4 ..) Z ?_
 rintro _ _ _ ⟨aH,aI,aJ,aK,rfl,rfl,rfl⟩
 refine QE Z Z Z Zq Z tZ_152 Z (fun g9=>(wS 0 0 Z tS_152 (all':=[_,_]) Z (H':=V7 ..) Z (Q3 (Q4 (Q2 [9,6,4,3] (S':=V4 ..) Z (Q5 ?_))))))
 obtain ⟨bD,hm,hLj_3⟩:=Q1w hm
 refine QI (σ:=(List Bool) × (List V) × Nat × Nat) (fun (aC,aD,z,a9)=>bD = .inl (aC,aD)) (fun (aC,aD,z,a9)=>[(9,.pointer (some ⟨g9,0,none⟩)),(6,.pointer (some ⟨g6,0,none⟩))]) (fun (aC,aD,z,a9)=>[]) (fun (aC,aD,z,a9)=>[.blk g9 [.slice aH z aI,.slice aJ a9 aK] 152,.own 4 1 Q1v (.slice aH z aI) aC,.own 57 3 R_V (.slice aJ a9 aK) aD,.blk g6 [V1,V1] 100]) ?_ ?_
 refine Q5 (Q1 (wF Z QaN (wD 6 2 Z tS_60 tA_60 Z (wN Z tE_60 (wP Z (Q3 (Q4 (Q2 [49,48,47,9,6,4] (S':=V6 ..) Z (Qw (Q4X [0,1,2,3,5] Z (H':=V5 ..) Z (Q1E (σ:=Nat × Nat × (List Bool) × (List V) × Nat × Nat) (fun (aZ,aE,j,q,aA,aB)=>Q1M (Q7u N l2 aL) aZ (aE,j,q) = some bD) (fun (aZ,aE,j,q,aA,aB)=>aZ) (fun (aZ,aE,j,q,aA,aB)=>[(49,.int .i64 ((aE:Nat):Int)),(48,.int .i64 ((l2.length:Nat):Int)),(47,.slice aQ l2.length aR),(9,.pointer (some ⟨g9,0,none⟩)),(6,.pointer (some ⟨g6,0,none⟩)),(4,.pointer (some ⟨g4,0,none⟩))]) (fun (aZ,aE,j,q,aA,aB)=>[.sli 5 Q2x aQ aR l2,.sli 3 R_V aS aT aL]) (fun (aZ,aE,j,q,aA,aB)=>[.blk g9 [.slice aH aA aI,.slice aJ aB aK] 152,.own 4 1 Q1v (.slice aH aA aI) j,.own 57 3 R_V (.slice aJ aB aK) q,.blk g6 [V1,V1] 100,.blk g4 [.int .i64 b2,.int .i64 b3,.slice aS aL.length aT] 71]) (N,0,aM,aN,aM.length,aN.length) hm [49,48,47,9,6,4] Z (asK [3,2] Z) Z (fun s_ hm=>?_))))))))))))
 obtain ⟨aZ,aE,j,q,aA,aB⟩:=s_
 try dsimp only at hm ⊢
 obtain ⟨cI,cJ,bO,hq,hLu1⟩:=Q1e hm
 clear hm
 subst bO
 replace hm:=hq
 clear hq
 unfold Q7u at hm
 try dsimp only at hm
 refine Q5 (Q1 (wP Z (QH (d:=50) (v':=.bool (decide (aE < l2.length))) (S':=V6 ..) Z Z (Q2z (a:=aE) (b:=l2.length)) (Q3 (Q4 (Q5 ?_))))))
 refine Qj Z (fun b9=>?_) (fun b9=>?_)
 replace hm:=QA hm b9
 refine Q2 [49,48,47,9,6,4] (S':=V6 ..) Z (Qq (Q4 (Q5 (Qw (Q5 (Q1 (wP Z ?_)))))))
 obtain ⟨bA,bP,hm⟩:=Q6 hm
 refine Q1F 0 aE Z Z Z Zq Z Z Z Z Z bP tE_60 Q9A (fun cK cL cG c4=>(Q22 R_ArgD_opens 1 Z (fun cM bQ _=>?_)))
 subst bQ
 refine Q21 0 0 Z Z Z Zq Z Z Z (cs:=V5 ..) Z Q9A tA_59 Z Z (QE Z Z Z Zq Z tZ_59 Z (fun cN=>(wP Z (wS 0 0 Z Q9A (all':=V5 ..) Z (H':=V6 ..) Z (Q3 (Q4 (Q2 [10,11,49,48,47,9,6,4] (S':=V8 ..) Z (Q5 ?_))))))))
 obtain ⟨bF,bR,hm⟩:=Q6 hm
 obtain ⟨⟨c5,bG,bH⟩,bS,hm⟩:=Q6 hm
 try dsimp only at hm
 refine Q18 [0,1,2,3,4,5,6,8] Z Z (fun hok=>(Qm hok 0 1 0 Z Z Z Zq Z Z Z Z (cs:=[_,_]) Z tS_152 tA_152 Z Z (Qm hok 1 0 0 Z Z Z Zq Z Z Z Z (cs:=V5 ..) Z Q9A tA_59 Z Z (Q8 hok 2 Z Z Z Zq Z Z Z tF_71_2 (Qm hok 3 5 2 Z Z Z Zq Z Z Z Z (cs:=[_]) Z Q7i Q7g Z Z (xP hok 4 Z (Q4L hok 5 3 aE Z Z Z Zq Z Z Z Z Z Z bR Q5a Q1H (fun cO cP cH c6=>(Q6c Q6d 1 Z (fun cQ bT _=>?_))))))))))
 subst bT
 refine Q7n hok 6 0 0 Z Z Z Zq Z Z Z Z (cs:=V3 ..) Z Q1H Q2u Z Z (xS hok 7 Z (Q15 2 Z (fun aO _=>?_)))
 subst aO
 refine Q15 3 Z (fun aP _=>?_)
 subst aP
 refine wC [2,3] [0,1,4,5] Z fn_90 Z (Qar N aH j.length aI j aJ q.length aK q bA.k bA.var bA.v.k bA.v.n bA.v.s bF.k bF.n bF.s _ _ _ bS) (asK [] Z) Z (H':=V4 ..) Z ?_
 rintro _ _ _ ⟨rfl,rfl,rfl⟩
 refine Q3 (QV [0,1,2,3,4,5] [5] Z Z (xP hok 8 Z (Q11 hok Z (Q4 (Q2 [62,49,48,47,9,6,4] (S':=V7 ..) Z ?_)))))
 refine Qj Z (fun bB=>?_) (fun bB=>?_)
 replace hm:=QA hm bB
 refine Q2 [6] (S':=[_]) Z (Q5 (Q1 (Q13 Z Z Z Zq Z Q7N tP_100 Z (out:=[_,_]) Z (wS 4 0 Z Q2v (all':=[_,_]) Z (H':=V6 ..) Z (wP Z (Q3 (Q4 (Q2 [7,6] (S':=[_,_]) Z (Qb (Qg (Q7 (Q7 (Qg ?_)))))))))))))
 refine Q7 ?_
 have hE:=(Zi hm).symm
 replace hE:=Qv hLu1 hE
 replace hE:=Qv hLj_3 hE
 obtain ⟨hE0,hF1⟩:=Prod.mk.inj hE
 obtain ⟨hE1,hE2⟩:=Prod.mk.inj hF1
 clear hE hF1
 replace hE0:=hE0.symm
 subst hE0
 replace hE1:=hE1.symm
 subst hE1
 replace hE2:=hE2.symm
 subst hE2
 refine Q23 4 1 Q1v (Q23 57 3 R_V ?_)
 refine Q1r (Hr:=[_,_]) [1,0] Tryz.results49 (QW 6 Z Z Q2v Q57 Z Z) (Qc Z) ⟨none,0,0,none,0,0,Z,Z,Z⟩ (asK [] Z) Z Z (.inl Z)
 replace hm:=Qz hm bB
 refine Q2 [49,48,47,9,6,4] (S':=V6 ..) Z (Qq (Qh (Q4 (Q1 (wP Z ?_)))))
 obtain ⟨bU,hm⟩:=Qu hm
 refine QH (d:=64) (v':=.int .i64 ((aE + 1:Nat):Int)) (S':=V6 ..) Z Z (Q1J (a:=aE) (b:=1) bU) (Q1b (S':=V6 ..) Z Z Z Z Z (Q3 ?_))
 have hE:=(Zi hm).symm
 replace hE:=QO hLu1 hE
 refine Qs [3,0,1,4,5] Z (H':=V5 ..) Z ?_
 refine Q1a (_,aE + 1,bG,bH,j.length,q.length) (Nat.lt_succ_self _) hE [49,48,47,9,6,4] Z (asK [4,5] Z) Z
 replace hm:=Qz hm b9
 refine Q2 [9,6] (S':=[_,_]) Z (Q1x (Qk (Qk (QJ ?_))))
 have hE:=(Zi hm).symm
 replace hE:=Qv hLu1 hE
 refine Qs [0,1,2,3] Z (H':=V4 ..) Z ?_
 refine Q9 (j,q,aA,aB) hE [9,6] Z (asK [] Z) Z
 rintro ⟨aC,aD,z,a9⟩ hE
 try dsimp only
 have hm:=QO hLj_3 hE
 try dsimp only at hm
 refine Q5 (Q1 (wF Z Q9w (QR 0 0 Z Z Z Zq Z Z Z (cs:=[_,_]) Z Q2v Q57 Z Z (wS 3 0 Z Q2v (all':=[_,_]) Z (H':=V4 ..) Z (wP Z (Q3 (Q4 (Q2 [7,6] (S':=[_,_]) Z (Qb ?_)))))))))
 have hE:=(Zi hm).symm
 obtain ⟨hE0,hF1⟩:=Prod.mk.inj hE
 obtain ⟨hE1,hE2⟩:=Prod.mk.inj hF1
 clear hE hF1
 replace hE0:=hE0.symm
 subst hE0
 replace hE1:=hE1.symm
 subst hE1
 replace hE2:=hE2.symm
 subst hE2
 refine Q1r (Hr:=[_,_]) [1,2] Tryz.results49 (QW 3 Z Z Q2v Q57 Z Z) (Qc Z) ⟨aH,aI,z,aJ,aK,a9,Z,Z,Z⟩ (asK [] Z) Z Z (.inl Z)
theorem QbG (N:Nat) (a0:Int) (a1:Int) (qp0:OA) (qc1:Nat) (l2:List V) (qg2:Nat) (a3:Int) (a4:Int) (qp3:OA) (qc4:Nat) (l5:List Q3B) (a6:Int) (a7:Int) (a8:Int) (a9:ByteArray) (a10:Int) (a11:Int) (qp5:OA) (qc6:Nat) (l12:List Qo) (qg7:Nat) (qp8:OA) (qc9:Nat) (l13:List Bool) (qp10:OA) (qc11:Nat) (l14:List V) (o0:Bool) (hm:Q88 N a0 a1 l2 a3 a4 l5 a6 a7 a8 a9 a10 a11 l12 l13 l14 = some o0):Q1o Tryz.prog 86 [.agg #[.int .i64 a0,.int .i64 a1,.slice qp0 l2.length qc1],.pointer (some ⟨qg2,0,none⟩),.pointer (some ⟨qg7,0,none⟩)] [.sli 3 R_V qp0 qc1 l2,.sli 5 Q2x qp3 qc4 l5,.sli 7 QB qp5 qc6 l12,.sli 1 Q1v qp8 qc9 l13,.sli 3 R_V qp10 qc11 l14] [.blk qg2 [.int .u8 a3,.int .i64 a4,.slice qp3 l5.length qc4,.int .u8 a6,.int .u8 a7,.int .i64 a8,.string a9,.int .i64 a10,.int .u8 a11,.slice qp5 l12.length qc6] 67,.blk qg7 [.slice qp8 l13.length qc9,.slice qp10 l14.length qc11] 100] (fun v Φr Hr=>v = .bool o0 ∧ Φr = [.sli 5 Q2x qp3 qc4 l5,.sli 7 QB qp5 qc6 l12,.sli 1 Q1v qp8 qc9 l13,.sli 3 R_V qp10 qc11 l14] ∧ Hr = [.blk qg2 [.int .u8 a3,.int .i64 a4,.slice qp3 l5.length qc4,.int .u8 a6,.int .u8 a7,.int .i64 a8,.string a9,.int .i64 a10,.int .u8 a11,.slice qp5 l12.length qc6] 67,.blk qg7 [.slice qp8 l13.length qc9,.slice qp10 l14.length qc11] 100]):=by
 unfold Q88 at hm
 refine QD Tryz.func86 Z Tryz.ntmps86 Z (S:=V3 ..) Z (fun C=>(Q5 (Q1 (wB Z (fun g3=>(wP Z (Q3 (Q4 (Q2 [3,1,2] (S':=V3 ..) Z (Q5 (Q1 (QR 1 0 Z Z Z Zq Z Z Z (cs:=V10 ..) Z Q4A Q9t Z Z (QR 0 0 Z Z Z Zq Z Z Z (cs:=V3 ..) Z Q4s tA_71 Z Z (QR 2 0 Z Z Z Zq Z Z Z (cs:=[_,_]) Z Q2v Q57 Z Z ?_))))))))))))))
 obtain ⟨⟨v11_0,v11_1,v11_2⟩,hc11,hm⟩:=Q6 hm
 try dsimp only at hm
 refine wC [] [0,1,2] Z fn_49 Z (Q6x N a3 a4 qp3 qc4 l5 a6 a7 a8 a9 a10 a11 qp5 qc6 l12 a0 a1 qp0 qc1 l2 qp8 qc9 l13 qp10 qc11 l14 _ _ _ hc11) (asK [1,2,0,3,4] Z) Z (H':=V3 ..) Z ?_
 rintro _ _ _ ⟨p11_0,c11_1,c11_2,p11_3,c11_4,c11_5,rfl,rfl,rfl⟩
 refine wP Z (wP Z (wP Z (QE Z Z Z Zq Z Q7N Z (fun g5=>(wS 0 0 Z Q2v (all':=[_,_]) Z (H':=V6 ..) Z (wP Z (Q3 (Q4 (Q2 [6] (S':=[_]) Z (Q5 (Q1 (wP Z (wP Z (Q3 ?_))))))))))))))
 refine Q4 (Q2 [4] (S':=[_]) Z (Qb ?_))
 have hE:=(Zi hm).symm
 replace hE:=hE.symm
 subst hE
 refine Ql (Hr:=[_,_]) [4,5] Tryz.results86 (Qc Z) ⟨Z,Z,Z⟩ (asK [1,2,3,4] Z) Z Z (.inl Z)
theorem Q9M (N:Nat) (aM:OA) (aN:Nat) (l0:List QU) (aH:Nat) (a1:Int) (a2:Int) (aB:OA) (aC:Nat) (l3:List Q3B) (a4:Int) (a5:Int) (a6:Int) (a7:ByteArray) (a8:Int) (a9:Int) (aD:OA) (aE:Nat) (z:List Qo) (aI:Nat) (aF:OA) (aG:Nat) (a0:List Bool) (q:OA) (s:Nat) (aA:List V) (o0:Int) (hm:Q5w N l0 a1 a2 l3 a4 a5 a6 a7 a8 a9 z a0 aA = some o0):Q1o Tryz.prog 120 [.slice aM l0.length aN,.func (.func 86) #[] #[.pointer (some ⟨aH,0,none⟩),.pointer (some ⟨aI,0,none⟩)]] [.sli 3 Q4N aM aN l0,.sli 5 Q2x aB aC l3,.sli 7 QB aD aE z,.sli 1 Q1v aF aG a0,.sli 3 R_V q s aA] [.blk aH [.int .u8 a1,.int .i64 a2,.slice aB l3.length aC,.int .u8 a4,.int .u8 a5,.int .i64 a6,.string a7,.int .i64 a8,.int .u8 a9,.slice aD z.length aE] 67,.blk aI [.slice aF a0.length aG,.slice q aA.length s] 100] (fun v Φr Hr=>v = .int .i64 o0 ∧ Φr = [.sli 5 Q2x aB aC l3,.sli 7 QB aD aE z,.sli 1 Q1v aF aG a0,.sli 3 R_V q s aA] ∧ Hr = [.blk aH [.int .u8 a1,.int .i64 a2,.slice aB l3.length aC,.int .u8 a4,.int .u8 a5,.int .i64 a6,.string a7,.int .i64 a8,.int .u8 a9,.slice aD z.length aE] 67,.blk aI [.slice aF a0.length aG,.slice q aA.length s] 100]):=by
 unfold Q5w at hm
 refine QD Tryz.func120 Z Tryz.ntmps120 Z (S:=[_,_]) Z (fun C=>(Q5 (Q1 (wP Z (Q3 (Q4 (Q2 [0,1] (S':=[_,_]) Z (Q5 ?_))))))))
 obtain ⟨aP,hm,hLj_1⟩:=Q1w hm
 refine QI (σ:=Unit) (fun _=>aP = .inl ()) (fun _=>[]) (fun _=>[.sli 5 Q2x aB aC l3,.sli 7 QB aD aE z,.sli 1 Q1v aF aG a0,.sli 3 R_V q s aA]) (fun _=>[.blk aH [.int .u8 a1,.int .i64 a2,.slice aB l3.length aC,.int .u8 a4,.int .u8 a5,.int .i64 a6,.string a7,.int .i64 a8,.int .u8 a9,.slice aD z.length aE] 67,.blk aI [.slice aF a0.length aG,.slice q aA.length s] 100]) ?_ ?_
 refine Q5 (Q1 (wP Z (wN Z Q7A (wP Z (Q3 (Q4 (Q2 [8,7,0,1] (S':=V4 ..) Z (Qw (Q1E (σ:=Nat × Nat) (fun (aJ,j)=>Q1M (Q4l N l0 a1 a2 l3 a4 a5 a6 a7 a8 a9 z a0 aA) aJ j = some aP) (fun (aJ,j)=>aJ) (fun (aJ,j)=>[(8,.int .i64 ((j:Nat):Int)),(7,.int .i64 ((l0.length:Nat):Int)),(0,.slice aM l0.length aN),(1,.func (.func 86) #[] #[.pointer (some ⟨aH,0,none⟩),.pointer (some ⟨aI,0,none⟩)])]) (fun (aJ,j)=>[.sli 3 Q4N aM aN l0,.sli 5 Q2x aB aC l3,.sli 7 QB aD aE z,.sli 1 Q1v aF aG a0,.sli 3 R_V q s aA]) (fun (aJ,j)=>[.blk aH [.int .u8 a1,.int .i64 a2,.slice aB l3.length aC,.int .u8 a4,.int .u8 a5,.int .i64 a6,.string a7,.int .i64 a8,.int .u8 a9,.slice aD z.length aE] 67,.blk aI [.slice aF a0.length aG,.slice q aA.length s] 100]) (N,0) hm [8,7,0,1] Z (asK [0,1,2,3,4] Z) Z (fun s_ hm=>?_))))))))))
 obtain ⟨aJ,j⟩:=s_
 try dsimp only at hm ⊢
 obtain ⟨b7,b8,aY,hq,hLu1⟩:=Q1e hm
 clear hm
 subst aY
 replace hm:=hq
 clear hq
 unfold Q4l at hm
 try dsimp only at hm
 refine Q5 (Q1 (wP Z (QH (d:=9) (v':=.bool (decide (j < l0.length))) (S':=V4 ..) Z Z (Q2z (a:=j) (b:=l0.length)) (Q3 (Q4 (Q5 ?_))))))
 refine Qj Z (fun aW=>?_) (fun aW=>?_)
 replace hm:=QA hm aW
 refine Q2 [8,7,0,1] (S':=V4 ..) Z (Qq (Q4 (Q5 (Qw (Q5 (Q1 (wP Z (wP Z (Q3 (Q4 (Q2 [5,8,7,0,1] (S':=V5 ..) Z (Q5 (Q1 ?_)))))))))))))
 refine wP Z (wP Z (wP Z ?_))
 obtain ⟨aX,aZ,hm⟩:=Q6 hm
 refine Q1F 0 j Z Z Z Zq Z Z Z Z Z aZ Q7A Q4s (fun b9 bA b6 b4=>(Q22 Q74 1 Z (fun b0 b1 _=>?_)))
 subst b1
 refine Q21 1 0 Z Z Z Zq Z Z Z (cs:=V3 ..) Z Q4s tA_71 Z Z ?_
 obtain ⟨bB,b2,hm⟩:=Q6 hm
 refine Q1R [0,1] [] Z Z Z Zq Z Z Z fn_86 Z Z (QbG N aX.id aX.ty b0.1 b0.2 aX.args aH a1 a2 aB aC l3 a4 a5 a6 a7 a8 a9 aD aE z aI aF aG a0 q s aA _ b2) (asK [0,4,5,6,7] Z) Z (H':=[]) Z ?_
 rintro _ _ _ ⟨rfl,rfl,rfl⟩
 refine Q3 (Q4 (Q2 [16,5,8,7,0,1] (S':=V6 ..) Z ?_))
 refine Qj Z (fun aL=>?_) (fun aL=>?_)
 replace hm:=QA hm aL
 refine Q2 [5] (S':=[_]) Z (Q5 (Q1 (wP Z (wP Z (Q3 (Q4 (Q2 [4] (S':=[_]) Z (Qb (Qg (Q7 (Q7 (Qg (Q7 ?_)))))))))))))
 have hE:=(Zi hm).symm
 replace hE:=Qv hLu1 hE
 replace hE:=Qv hLj_1 hE
 replace hE:=hE.symm
 subst hE
 refine Ql (Hr:=[_,_]) [0,1] Tryz.results120 (Qc Z) ⟨Z,Z,Z⟩ (asK [0,1,2,3] Z) Z Z (.inl Z)
 replace hm:=Qz hm aL
 refine Q2 [8,7,0,1] (S':=V4 ..) Z (Qq (Qh (Q4 (Q1 (wP Z ?_)))))
 obtain ⟨b3,hm⟩:=Qu hm
 refine QH (d:=18) (v':=.int .i64 ((j + 1:Nat):Int)) (S':=V4 ..) Z Z (Q1J (a:=j) (b:=1) b3) (Q1b (S':=V4 ..) Z Z Z Z Z (Q3 ?_))
 have hE:=(Zi hm).symm
 replace hE:=QO hLu1 hE
 refine Q1a (_,j + 1) (Nat.lt_succ_self _) hE [8,7,0,1] Z (asK [7,0,1,2,3] Z) Z
 replace hm:=Qz hm aW
 refine Q2 [] (S':=[]) Z (Q1x (Qk (Qk (QJ ?_))))
 have hE:=(Zi hm).symm
 replace hE:=Qv hLu1 hE
 refine Q9 () hE [] Z (asK [1,2,3,4] Z) Z
 rintro _ hE
 try dsimp only
 have hm:=QO hLj_1 hE
 try dsimp only at hm
 refine Q5 (Q1 (wP Z (Q3 (Q4 (Qb ?_)))))
 have hE:=(Zi hm).symm
 replace hE:=hE.symm
 subst hE
 refine Ql (Hr:=[_,_]) [0,1] Tryz.results120 (Qc Z) ⟨Z,Z,Z⟩ (asK [0,1,2,3] Z) Z Z (.inl Z)
theorem Q8S (N:Nat) (qp0:OA) (qc1:Nat) (l0:List QU) (qg2:Nat) (a1:Int) (a2:Int) (qp3:OA) (qc4:Nat) (l3:List Q3B) (a4:Int) (a5:Int) (a6:Int) (a7:ByteArray) (a8:Int) (a9:Int) (qp5:OA) (qc6:Nat) (l10:List Qo) (qg7:Nat) (qp8:OA) (qc9:Nat) (l11:List Bool) (qp10:OA) (qc11:Nat) (l12:List V) (o0:Bool) (hm:Q4i N l0 a1 a2 l3 a4 a5 a6 a7 a8 a9 l10 l11 l12 = some o0):Q1o Tryz.prog 85 [.slice qp0 l0.length qc1,.func (.func 86) #[] #[.pointer (some ⟨qg2,0,none⟩),.pointer (some ⟨qg7,0,none⟩)]] [.sli 3 Q4N qp0 qc1 l0,.sli 5 Q2x qp3 qc4 l3,.sli 7 QB qp5 qc6 l10,.sli 1 Q1v qp8 qc9 l11,.sli 3 R_V qp10 qc11 l12] [.blk qg2 [.int .u8 a1,.int .i64 a2,.slice qp3 l3.length qc4,.int .u8 a4,.int .u8 a5,.int .i64 a6,.string a7,.int .i64 a8,.int .u8 a9,.slice qp5 l10.length qc6] 67,.blk qg7 [.slice qp8 l11.length qc9,.slice qp10 l12.length qc11] 100] (fun v Φr Hr=>v = .bool o0 ∧ Φr = [.sli 5 Q2x qp3 qc4 l3,.sli 7 QB qp5 qc6 l10,.sli 1 Q1v qp8 qc9 l11,.sli 3 R_V qp10 qc11 l12] ∧ Hr = [.blk qg2 [.int .u8 a1,.int .i64 a2,.slice qp3 l3.length qc4,.int .u8 a4,.int .u8 a5,.int .i64 a6,.string a7,.int .i64 a8,.int .u8 a9,.slice qp5 l10.length qc6] 67,.blk qg7 [.slice qp8 l11.length qc9,.slice qp10 l12.length qc11] 100]):=by
 unfold Q4i at hm
 refine QD Tryz.func85 Z Tryz.ntmps85 Z (S:=[_,_]) Z (fun C=>(Q5 (Q1 (wP Z (Q3 (Q4 (Q2 [0,1] (S':=[_,_]) Z (Q5 (Q1 (wP Z (wP Z ?_)))))))))))
 obtain ⟨v7,hc7,hm⟩:=Q6 hm
 refine wC [0,1] [] Z fn_120 Z (Q9M N qp0 qc1 l0 qg2 a1 a2 qp3 qc4 l3 a4 a5 a6 a7 a8 a9 qp5 qc6 l10 qg7 qp8 qc9 l11 qp10 qc11 l12 _ hc7) (asK [0,1,2,3,4] Z) Z (H':=[]) Z ?_
 rintro _ _ _ ⟨rfl,rfl,rfl⟩
 refine wP Z (wP Z (Q3 (Q4 (Q2 [4] (S':=[_]) Z (Qb ?_)))))
 have hE:=(Zi hm).symm
 replace hE:=hE.symm
 subst hE
 refine Ql (Hr:=[_,_]) [0,1] Tryz.results85 (Qc Z) ⟨Z,Z,Z⟩ (asK [0,1,2,3] Z) Z Z (.inl Z)
theorem Q8d (N:Nat) (a0:Int) (a1:Int) (qp0:OA) (qc1:Nat) (l2:List Q3B) (a3:Int) (a4:Int) (a5:Int) (a6:ByteArray) (a7:Int) (a8:Int) (qp2:OA) (qc3:Nat) (l9:List Qo) (qp4:OA) (qc5:Nat) (l10:List Bool) (qp6:OA) (qc7:Nat) (l11:List V) (qp8:OA) (qc9:Nat) (l12:List QU) (o0:Bool) (hm:Q6E N a0 a1 l2 a3 a4 a5 a6 a7 a8 l9 l10 l11 l12 = some o0):Q1o Tryz.prog 45 [.agg #[.int .u8 a0,.int .i64 a1,.slice qp0 l2.length qc1,.int .u8 a3,.int .u8 a4,.int .i64 a5,.string a6,.int .i64 a7,.int .u8 a8,.slice qp2 l9.length qc3],.agg #[.slice qp4 l10.length qc5,.slice qp6 l11.length qc7],.slice qp8 l12.length qc9] [.sli 5 Q2x qp0 qc1 l2,.sli 7 QB qp2 qc3 l9,.sli 1 Q1v qp4 qc5 l10,.sli 3 R_V qp6 qc7 l11,.sli 3 Q4N qp8 qc9 l12] [] (fun v Φr Hr=>v = .bool o0 ∧ Φr = [] ∧ Hr = []):=by
 unfold Q6E at hm
 refine QD Tryz.func45 Z Tryz.ntmps45 Z (S:=V3 ..) Z (fun C=>(Q5 (Q1 (wB Z (fun g3=>(wB Z (fun g4=>(wP Z (Q3 (Q4 (Q2 [4,3,2] (S':=V3 ..) Z (Q5 (Q1 (wP Z (QY Z Z Z Zq Z Z ?_)))))))))))))))
 obtain ⟨v9,hc9,hm⟩:=Q6 hm
 refine wC [1,0] [] Z fn_85 Z (Q8S N qp8 qc9 l12 g3 a0 a1 qp0 qc1 l2 a3 a4 a5 a6 a7 a8 qp2 qc3 l9 g4 qp4 qc5 l10 qp6 qc7 l11 _ hc9) (asK [4,0,1,2,3] Z) Z (H':=[]) Z ?_
 rintro _ _ _ ⟨rfl,rfl,rfl⟩
 refine wP Z (Q3 (Q4 (Q2 [6] (S':=[_]) Z (Qb ?_))))
 have hE:=(Zi hm).symm
 replace hE:=hE.symm
 subst hE
 refine Ql (Hr:=[]) [] Tryz.results45 (Qc Z) ⟨Z,Z,Z⟩ (asK [] Z) Z Z (.inl Z)
end Go.Proofs.YtbgodclhmgmcgaaGreatDoor
