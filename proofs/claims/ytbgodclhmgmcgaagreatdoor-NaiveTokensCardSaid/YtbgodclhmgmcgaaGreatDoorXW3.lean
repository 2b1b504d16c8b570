import Derived.Test.YtbgodclhmgmcgaaGreatDoorXW2
namespace Go.Proofs.YtbgodclhmgmcgaaGreatDoor
open Tryz
open Go.RowKit
set_option maxRecDepth 100000
set_option maxHeartbeats 4000000
theorem w_value_Do_s {N:Nat} {a0:Int} {qp0:OA} {qc1:Nat} {l1:List V} {o0:Nat} {o1:Int} {o2:Nat} (e:Q3S N a0 l1=some (o0,o1,o2)):QY prog 84 [.int .u8 a0,.slice qp0 l1.length qc1] [.sli 3 R_V qp0 qc1 l1] [] (R0 (.tuple #[.agg #[.int .u8 (o0:Int),.int .i64 o1,.string EB],.int .i64 (o2:Int)]) [] []):=by
 unfold Q3S at e
 refine Qt func84 Z ntmps84 Z (S:=[_,_]) Z fun C=>sq<|QH Z Z Z Zq Z Q1X Z fun g4=>wP Z<|nk3 4 0 1 Z<|sq<|wP Z<|nt<|Q5<|kn e fun aQ e hLj_1=>?_
 unfold Q8y at e
 refine cut (σ:=Nat) aQ (fun a6=>(a6,[(4,.pointer (some ⟨g4,0,none⟩)),(0,.int .u8 a0),(1,.slice qp0 l1.length qc1),(6,.int .i64 (a6:Int))],[.sli 3 R_V qp0 qc1 l1],[.blk g4 [.int .u8 0,.int .i64 0,.string EB] 57])) ?_ ?_
 refine Q5<|kn e fun aR e hLj_2=>?_
 refine cut (σ:=Bool) aR (fun aD=>(aD,[(4,.pointer (some ⟨g4,0,none⟩)),(0,.int .u8 a0),(1,.slice qp0 l1.length qc1),(6,.int .i64 2),(19,.bool aD)],[.sli 3 R_V qp0 qc1 l1],[.blk g4 [.int .u8 0,.int .i64 0,.string EB] 57])) ?_ ?_
 refine Qe<|wP2 Z<|wP Z ?_
 refine QE e (fun e=>?_) fun e=>?_
 refine wO2 Z<|wP Z<|Q2 ?_
 refine jM true e [4,0,1,6,19] [0] Z
 refine wP2 Z<|wP Z<|Q2 ?_
 refine jM (a0==11) e [4,0,1,6,19] [0] Z
 rintro aD j
 try dsimp only at j ⊢
 have e:=hLj_2
 try rw [j] at e
 refine Qs e Z (fun e=>?_) fun e=>?_
 refine k3 4 0 1 Z<|Qe<|wP Z<|Q2 ?_
 refine jM 1 e [4,0,1,6] [0] Z
 refine k4 4 0 1 6 Z<|QT ?_
 refine jM 2 e [4,0,1,6] [0] Z
 rintro a6 j
 try dsimp only at j ⊢
 have e:=hLj_1
 try rw [j] at e
 refine Q5<|Q5<|kn e fun aS e hLj_3=>?_
 refine cut (σ:=Bool) aS (fun aE=>(aE,[(4,.pointer (some ⟨g4,0,none⟩)),(0,.int .u8 a0),(1,.slice qp0 l1.length qc1),(6,.int .i64 (a6:Int)),(31,.bool aE)],[.sli 3 R_V qp0 qc1 l1],[.blk g4 [.int .u8 0,.int .i64 0,.string EB] 57])) ?_ ?_
 refine Qe<|wP2 Z<|wP Z ?_
 refine QE e (fun e=>?_) fun e=>?_
 refine wO2 Z<|wP2 Z<|wO4 Z<|wP Z<|Q2 ?_
 refine jM true e [4,0,1,6,31] [0] Z
 refine wP2 Z<|wP2 Z ?_
 refine QE e (fun e=>?_) fun e=>?_
 refine wO4 Z<|wP Z<|Q2 ?_
 refine jM true e [4,0,1,6,31] [0] Z
 refine wP Z<|wN Z Q1F<|wP2 Z<|Qi (Nne l1.length a6)<|wP Z<|Q2 ?_
 refine jM (l1.length !=a6) e [4,0,1,6,31] [0] Z
 rintro aE j
 try dsimp only at j ⊢
 have e:=hLj_3
 try rw [j] at e
 refine Qs e Z (fun e=>?_) fun e=>?_
 ·
  refine k1 4 Z<|sq<|Q1v Z Z Z Zq Z Q1X Q8t Z (out:=V3 ..) Z<|wS 0 0 Z Qz (all':=V3 ..) Z (H':=[_]) Z<|wP Z<|nk2 5 4 Z<|Qm<|Q3 ?_
  cases (Zi e)
  refine Q1P (Hr:=[]) [] results84 (QU 0 Z Z Qz Q17 Z Z) (Q1w Z) ⟨Z,Z,Z⟩ (asK [] Z) Z Z (.inl Z)
 refine k4 4 0 1 6 Z<|kt<|sq<|wP Z<|nt<|Q5<|ks e fun aT e hLj_4=>?_
 refine cut (σ:=Bool) aT (fun aF=>(.inl aF,[(4,.pointer (some ⟨g4,0,none⟩)),(0,.int .u8 a0),(1,.slice qp0 l1.length qc1),(6,.int .i64 (a6:Int)),(7,.bool aF)],[.sli 3 R_V qp0 qc1 l1],[.blk g4 [.int .u8 0,.int .i64 0,.string EB] 57])) ?_ ?_
 refine sq<|wP Z<|wN Z Q1F<|wP Z<|nt<|Qk<|lop (σ:=Nat×Bool) (Q21 N l1) (fun (aB,aL)=>((aB,aL),[(35,.int .i64 (aB:Int)),(34,.int .i64 (l1.length:Int)),(33,.slice qp0 l1.length qc1),(7,.bool aL),(4,.pointer (some ⟨g4,0,none⟩)),(0,.int .u8 a0),(1,.slice qp0 l1.length qc1),(6,.int .i64 (a6:Int))],[.sli 3 R_V qp0 qc1 l1],[.blk g4 [.int .u8 0,.int .i64 0,.string EB] 57])) (0,false) e [35,34,33,7,4,0,1,6] [0] Z fun s_ bI bJ e hLu1=>?_
 obtain ⟨aB,aL⟩:=s_
 unfold Q21 at e
 try dsimp only at e ⊢
 refine sq<|wP Z<|Qi (Nlt aB l1.length)<|nt<|Q5 ?_
 refine Qs e Z (fun e=>?_) fun e=>?_
 refine k8 35 34 33 7 4 0 1 6 Z<|kt<|Q5<|ks e fun aU e hLj_5=>?_
 unfold Q6X at e
 refine cut (σ:=Bool) aU (fun aG=>(.inl aG,[(35,.int .i64 (aB:Int)),(34,.int .i64 (l1.length:Int)),(33,.slice qp0 l1.length qc1),(7,.bool aG),(4,.pointer (some ⟨g4,0,none⟩)),(0,.int .u8 a0),(1,.slice qp0 l1.length qc1),(6,.int .i64 (a6:Int))],[.sli 3 R_V qp0 qc1 l1],[.blk g4 [.int .u8 0,.int .i64 0,.string EB] 57])) ?_ ?_
 refine Qk<|sq<|kn e fun b9 aV e=>wI 0 aB Z aV Q1F Qz fun bK bL bF bA=>Q1i Q24 1 Z fun bM aW _=>?_
 subst aW
 refine wLd 0 0 (V3 ..) Z Qz Q17 Z<|QH Z Z Z Zq Z Q1X Z fun g9=>wS 0 0 Z Qz (all':=V3 ..) Z (H':=[_,_]) Z<|nk9 9 35 34 33 7 4 0 1 6 Z<|Q5<|sq<|wM 0 0 (V3 ..) Z Qz Q17 Z<|kn e fun bN aX e=>c0 [] [0,1] Z fn_64 aX Q7m [] [_,_] Z<|wP Z<|nk10 41 9 35 34 33 7 4 0 1 6 Z ?_
 refine Qs e Z (fun e=>?_) fun e=>?_
 ·
  refine k1 4 Z<|sq<|Q1v Z Z Z Zq Z Q1X Q8t Z (out:=V3 ..) Z<|wS 1 0 Z Qz (all':=V3 ..) Z (H':=[_,_]) Z<|wP Z<|nk2 5 4 Z<|Qm<|rb<|Q3<|rb<|Q3 ?_
  cases (Qb hLj_4 (Qb hLu1 (Qb hLj_5 ((Zi e).symm)))).symm
  refine Q1P (Hr:=[]) [] results84 (QU 1 Z Z Qz Q17 Z Z) (Q1w Z) ⟨Z,Z,Z⟩ (asK [] Z) Z Z (.inl Z)
 refine k9 9 35 34 33 7 4 0 1 6 Z<|kt<|Qe<|wP2 Z ?_
 refine QE e (fun e=>?_) fun e=>?_
 refine wO2 Z<|wO Z<|wP Z<|Qx (S':=V14 ..) Z Z Z Z Z<|Q2<|Q6<|Qo [1] Z (H':=[_]) Z ?_
 refine jM true e [35,34,33,7,4,0,1,6] [2] Z
 refine wF Z Qdx<|wD 0 0 Z tS_55 tA_55 Z<|wP2 Z<|Qx (S':=V14 ..) Z Z Z Z Z<|Q2<|Q6<|Qo [1] Z (H':=[_]) Z ?_
 refine jM (b9.k==2) e [35,34,33,7,4,0,1,6] [2] Z
 rintro aG j
 try dsimp only at j ⊢
 have e:=Qp hLj_5 j
 refine Qe<|wP Z<|kg e fun aY e=>Qi (QD (a:=aB) (b:=1) aY)<|Qx (S':=V8 ..) Z Z Z Z Z<|Q2 ?_
 refine rnd (aB+1,aG) (Qp hLu1 (zs e)) [35,34,33,7,4,0,1,6] [0] Z
 refine k5 7 4 0 1 6 Z<|QQ<|Q7<|Q7<|Qq ?_
 refine jn aL (Qb hLu1 (zs e)) [4,0,1,6,7] [0] Z
 rintro aF j
 try dsimp only at j ⊢
 have e:=Qp hLj_4 j
 refine Q5<|kn e fun a5 aZ e=>kg e fun b0 e=>kg e fun b1 e=>kn e fun a7 b2 e=>?_
 refine wc_cut (σ:=Nat×Nat) (fun _=>True) (fun (a8,a9)=>[(11,.pointer (some ⟨a8,0,none⟩)),(10,.pointer (some ⟨a9,0,none⟩)),(4,.pointer (some ⟨g4,0,none⟩)),(0,.int .u8 a0),(7,.bool aF)]) (fun (a8,a9)=>[]) (fun (a8,a9)=>[.blk a8 [.int .u8 (a7.k),.int .i64 (a7.n),.string a7.s] 57,.blk a9 [.int .u8 (a5.k),.int .i64 (a5.n),.string a5.s] 57,.blk g4 [.int .u8 0,.int .i64 0,.string EB] 57]) ?_ ?_
 refine QG [0,1,2,3,4,5,6,7] Z Z fun z=>xP z 0 Z<|xI z 1 0 0 Z aZ Q1F Qz fun bO bP bG bB=>QJ Q24 1 Z fun bQ b3 _=>?_
 subst b3
 refine xL z 2 0 0 (V3 ..) Z Qz Q17 Z<|xP2 z 3 Z<|xP z 5 Z<|QA (i64_in b0)<|Qbw z 6 2 (((a6:Int) - 1).toNat) Z Z Z Zq Z Z Z Z Z (Q2K b1) b2 Q1F Qz fun bR bS bH bC=>QJ Q24 1 Z fun bT b4 _=>?_
 subst b4
 refine xL z 7 0 0 (V3 ..) Z Qz Q17 Z ?_
 refine Qa6 z 8 9 Z Z Z Z Z Z ?_ ?_
 refine QH Z Z Z Zq Z Q1X Z fun aM=>Q2<|wxx 0 [] Z<|xS z 9 Z<|QH Z Z Z Zq Z Q1X Z fun aN=>Q2<|wxx 0 [] Z<|xS z 10 Z<|wS 1 0 Z Qz (all':=V3 ..) Z (H':=V3 ..) Z<|Q2<|wxx 0 [] Z<|xS z 11 Z<|wS 0 0 Z Qz (all':=V3 ..) Z (H':=V3 ..) Z<|Q2<|wxx 0 [] Z<|Qu z Z ?_
 refine Qbo (aN,aM) trivial [11,10,4,0,7] Z (asK [] Z) Z
 refine QH Z Z Z Zq Z Q1X Z fun aN=>Q2<|wxx 0 [] Z<|xS z 8 Z<|QH Z Z Z Zq Z Q1X Z fun aM=>Q2<|wxx 0 [] Z<|xS z 10 Z<|wS 0 0 Z Qz (all':=V3 ..) Z (H':=V3 ..) Z<|Q2<|wxx 0 [] Z<|xS z 11 Z<|wS 1 0 Z Qz (all':=V3 ..) Z (H':=V3 ..) Z<|Q2<|wxx 0 [] Z<|Qu z Z<|Qo [1,0,2] Z (H':=V3 ..) Z ?_
 refine Qbo (aN,aM) trivial [11,10,4,0,7] Z (asK [] Z) Z
 rintro ⟨a8,a9⟩ _
 try dsimp only
 refine Q5<|Qk<|sq<|wP2 Z<|wP Z<|nk6 58 11 10 4 0 7 Z ?_
 refine Qs e Z (fun e=>?_) fun e=>?_
 ·
  refine k3 11 10 4 Z<|sq<|wM 1 0 (V3 ..) Z Qz Q17 Z<|wM 0 0 (V3 ..) Z Qz Q17 Z<|Q9g Z Z Z Zq Z Z Z (eqlV _ _ a5 a7)<|kn e fun bU b5 e=>c0 [] [0,1,2] Z fn_117 b5 QaZ [] (V3 ..) Z<|wS 2 0 Z Qz (all':=V3 ..) Z (H':=V3 ..) Z<|wP Z<|nk2 5 4 Z<|Qm<|Qg<|Q3 ?_
  cases (Zi e)
  refine Q1P (Hr:=[]) [] results84 (QU 2 Z Z Qz Q17 Z Z) (Q1w Z) ⟨Z,Z,Z⟩ (asK [] Z) Z Z (.inl Z)
 refine k5 11 10 4 0 7 Z<|sq<|wP2 Z<|wP Z<|nk6 65 11 10 4 0 7 Z ?_
 refine Qs e Z (fun e=>?_) fun e=>?_
 ·
  refine k3 11 10 4 Z<|sq<|wM 1 0 (V3 ..) Z Qz Q17 Z<|wM 0 0 (V3 ..) Z Qz Q17 Z<|Q9g Z Z Z Zq Z Z Z (neqV _ _ a5 a7)<|kn e fun bV b6 e=>c0 [] [0,1,2] Z fn_117 b6 QaZ [] (V3 ..) Z<|wS 2 0 Z Qz (all':=V3 ..) Z (H':=V3 ..) Z<|wP Z<|nk2 5 4 Z<|Qm<|Qg<|Q3 ?_
  cases (Zi e)
  refine Q1P (Hr:=[]) [] results84 (QU 2 Z Z Qz Q17 Z Z) (Q1w Z) ⟨Z,Z,Z⟩ (asK [] Z) Z Z (.inl Z)
 refine k5 11 10 4 0 7 Z<|sq<|wP2 Z<|nk5 72 11 10 4 0 Z ?_
 refine Qs e Z (fun e=>?_) fun e=>?_
 ·
  refine k1 4 Z<|sq<|Q1v Z Z Z Zq Z Q1X Q8t Z (out:=V3 ..) Z<|wS 2 0 Z Qz (all':=V3 ..) Z (H':=V3 ..) Z<|wP Z<|nk2 5 4 Z<|Qm<|Qg<|Q3 ?_
  cases (Zi e)
  refine Q1P (Hr:=[]) [] results84 (QU 2 Z Z Qz Q17 Z Z) (Q1w Z) ⟨Z,Z,Z⟩ (asK [] Z) Z Z (.inl Z)
 refine k4 11 10 4 0 Z<|QT<|Q6<|Qv<|Q5<|kn e fun b7 e hLj_7=>?_
 unfold Q12 at e
 refine cut (σ:=Int×Bool) b7 (fun (aH,aI)=>((aH,aI),[(4,.pointer (some ⟨g4,0,none⟩)),(12,.int .i64 aH),(13,.bool aI)],[],[.blk g4 [.int .u8 0,.int .i64 0,.string EB] 57])) ?_ ?_
 obtain ⟨_ | _ | _ | _ | _ | _ | _ | _ | _ | _,aC,e⟩:=Qy e
 try dsimp only at e
 refine kn e fun _ a1 e=>?_
 try dsimp only at e
 refine QG [0,2,3,4,5,7,8,9] Z Z fun z=>xP z 0 Z<|xF z 2 Z Q2g<|xD z 3 1 1 Z Q95 Q92 Z<|xF z 4 Z Q2g<|xD z 5 0 1 Z Q95 Q92 Z<|xS z 1 Z<|c0 [] [0,1,2] Z Qdk aC w_value_does_s0 [] (V3 ..) Z<|Q2<|Q3b [] [0,1] Z Z<|xS z 6 Z<|Q1B [] [0,1,2] Z Z Z Zq Z Z Z fn_148 Z Z (@w_value_does_2_s N a5.n a7.n a1) (asK [] Z) Z (H':=V3 ..) Z ?_
 rintro _ _ _ ⟨rfl,rfl,rfl⟩
 refine Q2<|Q3b [] [] Z Z<|xP2 z 7 Z<|xP z 9 Z<|xS z 10 Z<|wP Z<|Q2<|Q3b [] [] Z Z<|xS z 11 Z<|wP Z<|Q2<|Q3b [] [] Z Z<|Qu z Z<|Qo [2] Z (H':=[_]) Z ?_
 refine jM (IntKind.wrap .i64 (a5.n+a7.n),(decide ((IntKind.wrap .i64 (a5.n+a7.n)) < a5.n))==(decide (a7.n < 0))) e [4,12,13] [] Z
 try dsimp only at e
 refine kn e fun _ a1 e=>?_
 try dsimp only at e
 refine QG [0,2,3,4,5,7,8,9] Z Z fun z=>xP z 0 Z<|xF z 2 Z Q2g<|xD z 3 1 1 Z Q95 Q92 Z<|xF z 4 Z Q2g<|xD z 5 0 1 Z Q95 Q92 Z<|xS z 1 Z<|c0 [] [0,1,2] Z Qdk aC w_value_does_s1 [] (V3 ..) Z<|Q2<|Q3b [] [0,1] Z Z<|xS z 6 Z<|Q1B [] [0,1,2] Z Z Z Zq Z Z Z fn_149 Z Z (@w_value_does_3_s N a5.n a7.n a1) (asK [] Z) Z (H':=V3 ..) Z ?_
 rintro _ _ _ ⟨rfl,rfl,rfl⟩
 refine Q2<|Q3b [] [] Z Z<|xP2 z 7 Z<|xP z 9 Z<|xS z 10 Z<|wP Z<|Q2<|Q3b [] [] Z Z<|xS z 11 Z<|wP Z<|Q2<|Q3b [] [] Z Z<|Qu z Z<|Qo [2] Z (H':=[_]) Z ?_
 refine jM (IntKind.wrap .i64 (a5.n - a7.n),(decide ((IntKind.wrap .i64 (a5.n - a7.n)) > a5.n))==(decide (a7.n < 0))) e [4,12,13] [] Z
 try dsimp only at e
 obtain ⟨⟨aO,aP⟩,a1,e⟩:=Qy e
 try dsimp only at e
 refine QG [0,2,3,4,5,7,8,9] Z Z fun z=>xP z 0 Z<|xF z 2 Z Q2g<|xD z 3 1 1 Z Q95 Q92 Z<|xF z 4 Z Q2g<|xD z 5 0 1 Z Q95 Q92 Z<|xS z 1 Z<|c0 [] [0,1,2] Z Qdk aC w_value_does_s2 [] (V3 ..) Z<|Q2<|Q3b [] [0,1] Z Z<|xS z 6 Z<|Q1B [] [0,1,2] Z Z Z Zq Z Z Z fn_150 Z Z (@w_value_product_s N a5.n a7.n _ _ a1) (asK [] Z) Z (H':=V3 ..) Z ?_
 rintro _ _ _ ⟨rfl,rfl,rfl⟩
 refine Q2<|Q3b [] [] Z Z<|xP2 z 7 Z<|xP z 9 Z<|xS z 10 Z<|wP Z<|Q2<|Q3b [] [] Z Z<|xS z 11 Z<|wP Z<|Q2<|Q3b [] [] Z Z<|Qu z Z<|Qo [2] Z (H':=[_]) Z ?_
 refine jM (aO,aP) e [4,12,13] [] Z
 try dsimp only at e
 refine kn e fun _ a1 e=>?_
 try dsimp only at e
 refine QG [0,2,3,4,5,7,8,9] Z Z fun z=>xP z 0 Z<|xF z 2 Z Q2g<|xD z 3 1 1 Z Q95 Q92 Z<|xF z 4 Z Q2g<|xD z 5 0 1 Z Q95 Q92 Z<|xS z 1 Z<|c0 [] [0,1,2] Z Qdk aC w_value_does_s3 [] (V3 ..) Z<|Q2<|Q3b [] [0,1] Z Z<|xS z 6 Z<|Q1B [] [0,1,2] Z Z Z Zq Z Z Z fn_151 Z Z (@w_value_does_4_s N a5.n a7.n a1) (asK [] Z) Z (H':=V3 ..) Z ?_
 rintro _ _ _ ⟨rfl,rfl,rfl⟩
 refine Q2<|Q3b [] [] Z Z<|xP2 z 7 Z<|xP z 9 Z<|xS z 10 Z<|wP Z<|Q2<|Q3b [] [] Z Z<|xS z 11 Z<|wP Z<|Q2<|Q3b [] [] Z Z<|Qu z Z<|Qo [2] Z (H':=[_]) Z ?_
 refine jM (IntKind.wrap .i64 (0 - a5.n),a5.n !=-9223372036854775808) e [4,12,13] [] Z
 try dsimp only at e
 refine kn e fun aJ a1 e=>QG [0,2,3,4,5,7,8,9] Z Z fun z=>xP z 0 Z<|xF z 2 Z Q2g<|xD z 3 1 1 Z Q95 Q92 Z<|xF z 4 Z Q2g<|xD z 5 0 1 Z Q95 Q92 Z<|xS z 1 Z<|c1 [] [0,1,2] Z Qdk aC w_value_does_s4 [] (V3 ..) Z fun aA=>Q2<|Q3b [] [1,2] Z Z<|xS z 6 Z<|Q1B [0] [1,2,3] Z Z Z Zq Z Z Z fn_152 Z Z (@w_value_does_5_s N a5.n a7.n aA _ a1) (asK [] Z) Z (H':=V3 ..) Z ?_
 rintro _ _ _ ⟨rfl,rfl,rfl⟩
 refine Q2<|Q3b [] [] Z Z<|xP2 z 7 Z<|xP z 9 Z<|xS z 10 Z<|wP Z<|Q2<|Q3b [] [] Z Z<|xS z 11 Z<|wP Z<|Q2<|Q3b [] [] Z Z<|Qu z Z<|Qo [3] Z (H':=[_]) Z ?_
 refine jM (aJ,true) e [4,12,13] [] Z
 try dsimp only at e
 refine kn e fun aJ a1 e=>QG [0,2,3,4,5,7,8,9] Z Z fun z=>xP z 0 Z<|xF z 2 Z Q2g<|xD z 3 1 1 Z Q95 Q92 Z<|xF z 4 Z Q2g<|xD z 5 0 1 Z Q95 Q92 Z<|xS z 1 Z<|c1 [] [0,1,2] Z Qdk aC w_value_does_s5 [] (V3 ..) Z fun aA=>Q2<|Q3b [] [1,2] Z Z<|xS z 6 Z<|Q1B [0] [1,2,3] Z Z Z Zq Z Z Z fn_153 Z Z (@w_value_does_6_s N a5.n a7.n aA _ a1) (asK [] Z) Z (H':=V3 ..) Z ?_
 rintro _ _ _ ⟨rfl,rfl,rfl⟩
 refine Q2<|Q3b [] [] Z Z<|xP2 z 7 Z<|xP z 9 Z<|xS z 10 Z<|wP Z<|Q2<|Q3b [] [] Z Z<|xS z 11 Z<|wP Z<|Q2<|Q3b [] [] Z Z<|Qu z Z<|Qo [3] Z (H':=[_]) Z ?_
 refine jM (aJ,true) e [4,12,13] [] Z
 try dsimp only at e
 refine kn e fun aJ a1 e=>QG [0,2,3,4,5,7,8,9] Z Z fun z=>xP z 0 Z<|xF z 2 Z Q2g<|xD z 3 1 1 Z Q95 Q92 Z<|xF z 4 Z Q2g<|xD z 5 0 1 Z Q95 Q92 Z<|xS z 1 Z<|c1 [] [0,1,2] Z Qdk aC w_value_does_s6 [] (V3 ..) Z fun aA=>Q2<|Q3b [] [1,2] Z Z<|xS z 6 Z<|Q1B [0] [1,2,3] Z Z Z Zq Z Z Z fn_154 Z Z (@w_value_does_7_s N a5.n a7.n aA _ a1) (asK [] Z) Z (H':=V3 ..) Z ?_
 rintro _ _ _ ⟨rfl,rfl,rfl⟩
 refine Q2<|Q3b [] [] Z Z<|xP2 z 7 Z<|xP z 9 Z<|xS z 10 Z<|wP Z<|Q2<|Q3b [] [] Z Z<|xS z 11 Z<|wP Z<|Q2<|Q3b [] [] Z Z<|Qu z Z<|Qo [3] Z (H':=[_]) Z ?_
 refine jM (aJ,true) e [4,12,13] [] Z
 try dsimp only at e
 refine kn e fun aJ a1 e=>QG [0,2,3,4,5,7,8,9] Z Z fun z=>xP z 0 Z<|xF z 2 Z Q2g<|xD z 3 1 1 Z Q95 Q92 Z<|xF z 4 Z Q2g<|xD z 5 0 1 Z Q95 Q92 Z<|xS z 1 Z<|c1 [] [0,1,2] Z Qdk aC w_value_does_s7 [] (V3 ..) Z fun aA=>Q2<|Q3b [] [1,2] Z Z<|xS z 6 Z<|Q1B [0] [1,2,3] Z Z Z Zq Z Z Z fn_155 Z Z (@w_value_does_8_s N a5.n a7.n aA _ a1) (asK [] Z) Z (H':=V3 ..) Z ?_
 rintro _ _ _ ⟨rfl,rfl,rfl⟩
 refine Q2<|Q3b [] [] Z Z<|xP2 z 7 Z<|xP z 9 Z<|xS z 10 Z<|wP Z<|Q2<|Q3b [] [] Z Z<|xS z 11 Z<|wP Z<|Q2<|Q3b [] [] Z Z<|Qu z Z<|Qo [3] Z (H':=[_]) Z ?_
 refine jM (aJ,true) e [4,12,13] [] Z
 try dsimp only at e
 refine kn e fun aJ a1 e=>QG [0,2,3,4,5,7,8,9] Z Z fun z=>xP z 0 Z<|xF z 2 Z Q2g<|xD z 3 1 1 Z Q95 Q92 Z<|xF z 4 Z Q2g<|xD z 5 0 1 Z Q95 Q92 Z<|xS z 1 Z<|c1 [] [0,1,2] Z Qdk aC w_value_does_s8 [] (V3 ..) Z fun aA=>Q2<|Q3b [] [1,2] Z Z<|xS z 6 Z<|Q1B [0] [1,2,3] Z Z Z Zq Z Z Z fn_156 Z Z (@w_value_does_9_s N a5.n a7.n aA _ a1) (asK [] Z) Z (H':=V3 ..) Z ?_
 rintro _ _ _ ⟨rfl,rfl,rfl⟩
 refine Q2<|Q3b [] [] Z Z<|xP2 z 7 Z<|xP z 9 Z<|xS z 10 Z<|wP Z<|Q2<|Q3b [] [] Z Z<|xS z 11 Z<|wP Z<|Q2<|Q3b [] [] Z Z<|Qu z Z<|Qo [3] Z (H':=[_]) Z ?_
 refine jM (aJ,true) e [4,12,13] [] Z
 ·
  try dsimp only at e
  cases e
 rintro ⟨aH,aI⟩ j
 try dsimp only at j ⊢
 have e:=hLj_7
 try rw [j] at e
 try dsimp only at e
 refine Q5<|sq<|wP2 Z<|nk3 86 4 12 Z ?_
 refine Qs e Z (fun e=>?_) fun e=>?_
 ·
  refine k1 4 Z<|sq<|Q1v Z Z Z Zq Z Q1X Q8t Z (out:=V3 ..) Z<|wS 0 0 Z Qz (all':=V3 ..) Z (H':=[_]) Z<|wP Z<|nk2 5 4 Z<|Qm<|Q3 ?_
  cases (Zi e)
  refine Q1P (Hr:=[]) [] results84 (QU 0 Z Z Qz Q17 Z Z) (Q1w Z) ⟨Z,Z,Z⟩ (asK [] Z) Z Z (.inl Z)
 ·
  refine k2 4 12 Z<|kt<|sq<|wP Z<|kn e fun _ b8 e=>?_
  try dsimp only at e
  refine c0 [] [0] Z fn_119 b8 Qap [] [_] Z<|wS 0 0 Z Qz (all':=V3 ..) Z (H':=[_]) Z<|wP Z<|nk2 5 4 Z<|Qm ?_
  cases (Zi e)
  refine Q1P (Hr:=[]) [] results84 (QU 0 Z Z Qz Q17 Z Z) (Q1w Z) ⟨Z,Z,Z⟩ (asK [] Z) Z Z (.inl Z)
def Qaz (rc:Int→Int→Int→ByteArray→Int→Int→(List Q4)→(List V)→Option (Int×Int×ByteArray×Nat)):Prop:=∀ (a0:Int)(a1:Int)(a2:Int)(a3:ByteArray)(a4:Int)(a5:Int)(qp0:OA)(qc1:Nat)(l6:List Q4)(qp2:OA)(qc3:Nat)(l7:List V)(o0:Int)(o1:Int)(o2:ByteArray)(o3:Nat),rc a0 a1 a2 a3 a4 a5 l6 l7=some (o0,o1,o2,o3)→QY prog 44 [.agg #[.int .u8 a0,.int .u8 a1,.int .i64 a2,.string a3,.int .i64 a4,.int .u8 a5,.slice qp0 l6.length qc1],.slice qp2 l7.length qc3] [.sli 7 Qj qp0 qc1 l6,.sli 3 R_V qp2 qc3 l7] [] (R0 (.tuple #[.agg #[.int .u8 o0,.int .i64 o1,.string o2],.int .i64 (o3:Int)]) [] [])
theorem w_expr_All_v2_s (N:Nat)(rc:Int→Int→Int→ByteArray→Int→Int→(List Q4)→(List V)→Option (Int×Int×ByteArray×Nat))(ih:Qaz rc)(aF:OA)(aG:Nat)(l0:List V)(aH:OA)(aI:Nat)(l1:List Q4)(o2:List V)(o4:Nat)(e:Q8x N rc l0 l1=some (o2,o4)):QY prog 83 [.slice aF l0.length aG,.slice aH l1.length aI] [.sli 3 R_V aF aG l0,.sli 7 Qj aH aI l1] [] (fun v p q=>∃ o0 o1 o3,R0 (.tuple #[.slice o0 o3 o1,.int .i64 (o4:Int)]) [] [.own 57 3 R_V (.slice o0 o3 o1) o2] v p q):=by
 unfold Q8x at e
 refine Qt func83 Z ntmps83 Z (S:=[_,_]) Z fun C=>sq<|wP2 Z<|nk2 0 1 Z<|sq<|wP Z<|nt<|Q5<|ks e fun aN e hLj_1=>?_
 refine cut (σ:=(List V)×OA×Nat×Nat) aN (fun (aA,a1,a5,a6)=>(.inl aA,[(6,.slice a1 a6 a5)],[],[.own 57 3 R_V (.slice a1 a6 a5) aA])) ?_ ?_
 refine sq<|wP Z<|wN Z Q1g<|wP Z<|nk5 13 12 11 6 0 Z<|Qk<|Q97 57 3 R_V<|lop (σ:=Nat×(List V)×OA×Nat×Nat) (Q71 N l1 rc l0) (fun (a0,z,a7,a8,a9)=>((a0,z),[(13,.int .i64 (a0:Int)),(12,.int .i64 (l1.length:Int)),(11,.slice aH l1.length aI),(6,.slice a7 a9 a8),(0,.slice aF l0.length aG)],[.sli 7 Qj aH aI l1,.sli 3 R_V aF aG l0],[.own 57 3 R_V (.slice a7 a9 a8) z])) (0,[],none,0,0) e [13,12,11,6,0] [1,0] Z fun s_ aZ b0 e hLu1=>?_
 obtain ⟨a0,z,a7,a8,a9⟩:=s_
 unfold Q71 at e
 try dsimp only at e ⊢
 refine sq<|wP Z<|Qi (Nlt a0 l1.length)<|nt<|Q5 ?_
 refine Qs e Z (fun e=>?_) fun e=>?_
 refine k5 13 12 11 6 0 Z<|kt<|Q5<|Qk<|sq<|kn e fun aE aO e=>wI 0 a0 Z aO Q1g Q1t fun b1 b2 aY aV=>Q1i Q1G 1 Z fun aP aQ _=>?_
 subst aQ
 refine wLd 1 0 (V7 ..) Z Q1t Q3z Z<|QH Z Z Z Zq Z tZ_65 Z fun g8=>wS 0 0 Z Q1t (all':=V7 ..) Z (H':=[_,_]) Z<|nk6 8 13 12 11 6 0 Z<|sq<|wM 0 0 (V7 ..) Z Q1t Q3z Z<|wP Z ?_
 obtain ⟨⟨aB,aC,aD,aM⟩,aR,e⟩:=Qy e
 try dsimp only at e
 refine wC [] [0,1] Z fn_44 Z (ih aE.kind aE.value.k aE.value.n aE.value.s aE.var aE.op aP.1 aP.2 aE.kids aF aG l0 _ _ _ _ aR) (asK [0,4] Z) Z (H':=[_,_]) Z ?_
 rintro _ _ _ ⟨rfl,rfl,rfl⟩
 refine wP2 Z<|wP Z<|QH Z Z Z Zq Z Q1X Z fun g9=>wS 0 0 Z Qz (all':=V3 ..) Z (H':=V3 ..) Z<|wP Z<|nk7 10 9 13 12 11 6 0 Z<|Q5<|sq<|wP2 Z<|Qi (Nne aM 0)<|nk8 24 10 9 13 12 11 6 0 Z ?_
 refine Qs e Z (fun e=>?_) fun e=>?_
 refine k1 10 Z<|sq<|wP2 Z<|wP Z<|nk2 5 4 Z<|Qm<|rb<|Q3<|rb<|Q3 ?_
 have j:=(Zi e).symm
 replace j:=Qb hLu1 j
 replace j:=Qb hLj_1 j
 obtain ⟨rfl,rfl⟩:=Pj j.symm
 refine Q7n 57 3 R_V ?_
 refine re2 [0] [] results83 Z ⟨none,0,0,Z,Z,Z⟩ Z
 refine k6 9 13 12 11 6 0 Z<|kt<|Qe<|wP Z<|wM 0 0 (V3 ..) Z Qz Q17 Z<|QR Z Z Z Zq Z Q1F Qz Q1X Z (zs:=[.int .u8 0,.int .i64 0,.string EB]) (by kernel_rfl) Z (out:=V3 ..) Z fun b3=>kg e fun aK e=>Q1V ([(⟨aB,aC,aD⟩ : V)]) 3 0 Z Z Z Zq Z Z Z Z Z (fun F w hφ=>⟨[.int .u8 aB,.int .i64 aC,.string aD],[],Z,Z,⟨(),Z,Q16⟩,Z⟩) Q1F tR_57 Z Z (Nat.le_trans aK (by decide)) (Nat.le_trans (Nat.mul_le_mul_right _ aK) (by decide)) (H2:=fun aS aT=>(V4 ..)) (fun _ _=>Z) fun aS aT=>Q4K 0 Z (H':=V3 ..) Z<|Qx (S':=V9 ..) Z Z Z Z Z<|Q2<|Q6<|Qv<|k5 6 13 12 11 0 Z<|Qe<|wP Z<|kg e fun aU e=>Qi (QD (a:=a0) (b:=1) aU)<|Qx (S':=V5 ..) Z Z Z Z Z<|Q2<|Qo [2] Z (H':=[_]) Z ?_
 refine rnd (a0+1,(z++([(⟨aB,aC,aD⟩ : V)])),aS,aT,((z++([(⟨aB,aC,aD⟩ : V)])).length)) (Qp hLu1 (zs e)) [13,12,11,6,0] [3,4] Z
 refine k1 6 Z<|QQ<|Q7<|Q7<|Qq ?_
 refine jn (z,a7,a8,a9) (Qb hLu1 (zs e)) [6] [] Z
 rintro ⟨aA,a1,a5,a6⟩ j
 try dsimp only at j ⊢
 have e:=Qp hLj_1 j
 refine sq<|wP2 Z<|wP Z<|nk2 5 4 Z<|Qm ?_
 have j:=(Zi e).symm
 obtain ⟨rfl,rfl⟩:=Pj j.symm
 refine re2 [0] [] results83 Z ⟨a1,a5,a6,Z,Z,Z⟩ Z
theorem QeC (N:Nat)(rc:Int→Int→Int→ByteArray→Int→Int→(List Q4)→(List V)→Option (Int×Int×ByteArray×Nat))(ih:Qaz rc)(aA:Nat)(z:OA)(a0:Nat)(l0:List V)(aB:Nat)(a1:Int)(a2:Int)(a3:Int)(a4:ByteArray)(a5:Int)(a6:Int)(a7:OA)(a8:Nat)(l7:List Q4)(o0:Nat)(o1:Int)(o2:Nat)(e:Q72 N rc l0 a1 a2 a3 a4 a5 a6 l7=some (o0,o1,o2)):QY prog 82 [.pointer (some ⟨aA,0,none⟩),.pointer (some ⟨aB,0,none⟩)] [.sli 3 R_V z a0 l0,.sli 7 Qj a7 a8 l7] [.blk aA [.slice z l0.length a0] 43,.blk aB [.int .u8 a1,.int .u8 a2,.int .i64 a3,.string a4,.int .i64 a5,.int .u8 a6,.slice a7 l7.length a8] 65] (R0 (.tuple #[.agg #[.int .u8 (o0:Int),.int .i64 o1,.string EB],.int .i64 (o2:Int)]) [.sli 3 R_V z a0 l0,.sli 7 Qj a7 a8 l7] [.blk aA [.slice z l0.length a0] 43,.blk aB [.int .u8 a1,.int .u8 a2,.int .i64 a3,.string a4,.int .i64 a5,.int .u8 a6,.slice a7 l7.length a8] 65]):=by
 unfold Q72 at e
 refine Qt func82 Z ntmps82 Z (S:=[_,_]) Z fun C=>sq<|QH Z Z Z Zq Z Q1X Z fun g2=>wP Z<|nk3 2 0 1 Z<|sq<|wD 1 0 Z Q6n Q6E Z<|wF Z Q60<|wD 2 6 Z Q4k Q4M Z ?_
 obtain ⟨⟨aC,aD⟩,aI,e⟩:=Qy e
 try dsimp only at e
 refine wC [] [0,1,2] Z fn_83 Z (w_expr_All_v2_s N rc ih z a0 l0 a7 a8 l7 _ _ aI) (asK [0,1] Z) Z (H':=V3 ..) Z ?_
 rintro _ _ _ ⟨aE,aF,aN,rfl,rfl,rfl⟩
 refine wP2 Z<|wP2 Z<|wP Z<|nk4 5 4 2 1 Z<|Q5<|sq<|wP2 Z<|Qi (Nne aD 0)<|nk5 14 5 4 2 1 Z ?_
 refine Qs e Z (fun e=>?_) fun e=>?_
 ·
  refine k2 5 2 Z<|sq<|Q1v Z Z Z Zq Z Q1X Q8t Z (out:=V3 ..) Z<|wP Z<|wS 1 0 Z Qz (all':=V3 ..) Z (H':=V4 ..) Z<|wP Z<|nk2 3 2 Z<|Qm<|Q3 ?_
  cases (Zi e)
  refine Q1P (Hr:=[_,_]) [2,3] results82 (QU 1 Z Z Qz Q17 Z Z) (Q1w Z) ⟨Z,Z,Z⟩ (asK [0,1] Z) Z Z (.inl Z)
 ·
  refine k3 4 2 1 Z<|kt<|sq<|wF Z Q6S<|wD 3 5 Z Qa2 Qa0 Z<|wP Z<|Q1Z 0 Z fun a9 _=>?_
  subst a9
  obtain ⟨⟨aO,aP,aQ⟩,aJ,e⟩:=Qy e
  try dsimp only at e
  refine QdI [] [0,1,2,3] [0] Z Z Z Zq Z Z fn_84 Z (@w_value_Do_s N a6 aE aF aC _ _ _ aJ) (fun F w hφ hh=>(Q10 (Q3g (hh _ (Q1f (k:=0) Z))) Q16)) (fun _ _ _ hR=>by obtain ⟨rfl,rfl,rfl⟩:=hR;exact ⟨Z,(fun _ h=>Qbz h)⟩) Z Z (H':=V4 ..) Z ?_
  rintro _ _ _ ⟨rfl,rfl,rfl⟩
  refine wP2 Z<|wS 1 0 Z Qz (all':=V3 ..) Z (H':=V4 ..) Z<|wP Z<|nk2 3 2 Z<|Qm ?_
  cases (Zi e)
  refine Q1P (Hr:=[_,_]) [2,3] results82 (QU 1 Z Z Qz Q17 Z Z) (Q1w Z) ⟨Z,Z,Z⟩ (asK [0,1] Z) Z Z (.inl Z)
theorem w_expr_Eval_s_b (N:Nat)(rc:Int→Int→Int→ByteArray→Int→Int→(List Q4)→(List V)→Option (Int×Int×ByteArray×Nat))(ih:Qaz rc):Qaz (Q42 N rc):=by
 intro a0 a1 a2 a3 a4 a5 qp0 qc1 l6 qp2 qc3 l7 o0 o1 o2 o3 e
 unfold Q42 at e
 refine Qt func44 Z ntmps44 Z (S:=[_,_]) Z fun C=>sq<|wB Z fun z=>wB Z fun g3=>QH Z Z Z Zq Z Q1X Z fun g4=>wP Z<|nk3 4 3 2 Z<|sq<|wl_makeMapE (Q9R (Q6F tI_61)) false Q9A Z Z Z Zq Z fun g9=>Q26 Z Z Z Zq Z Z<|Q6A (i:=1) (u:=.func (.func 79) #[] #[.pointer (some ⟨z,0,none⟩)]) (cs:=[.func (.func 79) #[] #[.pointer (some ⟨z,0,none⟩)]]) 0 Z Z (.inr Z) Z Z Z Z tM_146 trivial Z (fun F w hφ=>⟨Z,Z⟩) (H':=[mapE (Q9R (Q6F tI_61)) false Q9A g9 ([(1,.func (.func 79) #[] #[.pointer (some ⟨z,0,none⟩)])]),.blk g4 [.int .u8 0,.int .i64 0,.string EB] 57,.blk g3 [.slice qp2 l7.length qc3] 43,.blk z [.int .u8 a0,.int .u8 a1,.int .i64 a2,.string a3,.int .i64 a4,.int .u8 a5,.slice qp0 l6.length qc1] 65]) Z<|Q26 Z Z Z Zq Z Z<|Q6A (i:=2) (u:=.func (.func 81) #[] #[.pointer (some ⟨z,0,none⟩),.pointer (some ⟨g3,0,none⟩)]) (cs:=[.func (.func 81) #[] #[.pointer (some ⟨z,0,none⟩),.pointer (some ⟨g3,0,none⟩)]]) 0 Z Z (.inr Z) Z Z Z Z tM_146 trivial Z (fun F w hφ=>⟨Z,Z⟩) (H':=[mapE (Q9R (Q6F tI_61)) false Q9A g9 ([(1,.func (.func 79) #[] #[.pointer (some ⟨z,0,none⟩)]),(2,.func (.func 81) #[] #[.pointer (some ⟨z,0,none⟩),.pointer (some ⟨g3,0,none⟩)])]),.blk g4 [.int .u8 0,.int .i64 0,.string EB] 57,.blk g3 [.slice qp2 l7.length qc3] 43,.blk z [.int .u8 a0,.int .u8 a1,.int .i64 a2,.string a3,.int .i64 a4,.int .u8 a5,.slice qp0 l6.length qc1] 65]) Z<|Q26 Z Z Z Zq Z Z<|Q6A (i:=3) (u:=.func (.func 82) #[] #[.pointer (some ⟨g3,0,none⟩),.pointer (some ⟨z,0,none⟩)]) (cs:=[.func (.func 82) #[] #[.pointer (some ⟨g3,0,none⟩),.pointer (some ⟨z,0,none⟩)]]) 0 Z Z (.inr Z) Z Z Z Z tM_146 trivial Z (fun F w hφ=>⟨Z,Z⟩) (H':=[mapE (Q9R (Q6F tI_61)) false Q9A g9 ([(1,.func (.func 79) #[] #[.pointer (some ⟨z,0,none⟩)]),(2,.func (.func 81) #[] #[.pointer (some ⟨z,0,none⟩),.pointer (some ⟨g3,0,none⟩)]),(3,.func (.func 82) #[] #[.pointer (some ⟨g3,0,none⟩),.pointer (some ⟨z,0,none⟩)])]),.blk g4 [.int .u8 0,.int .i64 0,.string EB] 57,.blk g3 [.slice qp2 l7.length qc3] 43,.blk z [.int .u8 a0,.int .u8 a1,.int .i64 a2,.string a3,.int .i64 a4,.int .u8 a5,.slice qp0 l6.length qc1] 65]) Z<|wP Z<|wF Z Qcz<|wD 3 0 Z tS_61 tA_61 Z ?_
 rcases Q19 e with ⟨a6,e⟩ | ⟨a6,e⟩
 ·
  refine Q5f (i:=a0) (a:=(.func (.func 79) #[] #[.pointer (some ⟨z,0,none⟩)])) Q4i 0 Z Z Z Zq Z Z Z Z tM_146 trivial (by rw [eq_of_beq a6];rfl) (u:=fun _=>.func (.func 79) #[] #[.pointer (some ⟨z,0,none⟩)]) (fun _=>Z) (v:=fun _=>.tuple #[.func (.func 79) #[] #[.pointer (some ⟨z,0,none⟩)],.bool true]) (fun _=>Z) fun _ _=>wP2 Z<|wP2 Z<|wP Z<|nk3 7 6 4 Z<|Q5<|sq<|wP2 Z<|nk3 20 6 4 Z<|Qde Z<|k2 6 4 Z<|kt<|sq<|wP Z ?_
  obtain ⟨⟨aB,aC,aD,aE⟩,aA,e⟩:=Qy e
  try dsimp only at e
  refine Q1B [3] [0,1,2] Z Z Z Zq Z Z Z fn_79 Z Z (@w_expr_Eval_1_s N z a0 a1 a2 a3 a4 a5 qp0 qc1 l6 _ _ _ _ aA) (asK [0] Z) Z (H':=V3 ..) Z ?_
  rintro _ _ _ ⟨rfl,rfl,rfl⟩
  refine wP2 Z<|wS 2 0 Z Qz (all':=V3 ..) Z (H':=V4 ..) Z<|wP Z<|nk2 5 4 Z<|Qm ?_
  cases (Zi e)
  refine Q1P (Hr:=[]) [] results44 (QU 2 Z Z Qz Q17 Z Z) (Q1w Z) ⟨Z,Z,Z⟩ (asK [] Z) Z Z (.inl Z)
 rcases Q19 e with ⟨a7,e⟩ | ⟨a7,e⟩
 ·
  refine Q5f (i:=a0) (a:=(.func (.func 81) #[] #[.pointer (some ⟨z,0,none⟩),.pointer (some ⟨g3,0,none⟩)])) Q4i 0 Z Z Z Zq Z Z Z Z tM_146 trivial (by rw [eq_of_beq a7];rfl) (u:=fun _=>.func (.func 81) #[] #[.pointer (some ⟨z,0,none⟩),.pointer (some ⟨g3,0,none⟩)]) (fun _=>Z) (v:=fun _=>.tuple #[.func (.func 81) #[] #[.pointer (some ⟨z,0,none⟩),.pointer (some ⟨g3,0,none⟩)],.bool true]) (fun _=>Z) fun _ _=>wP2 Z<|wP2 Z<|wP Z<|nk3 7 6 4 Z<|Q5<|sq<|wP2 Z<|nk3 20 6 4 Z<|Qde Z<|k2 6 4 Z<|kt<|sq<|wP Z ?_
  obtain ⟨⟨aB,aC,aD,aE⟩,aA,e⟩:=Qy e
  try dsimp only at e
  refine Q1B [3,2] [0,1] Z Z Z Zq Z Z Z fn_81 Z Z (@w_expr_Eval_2_s N z a0 a1 a2 a3 a4 a5 qp0 qc1 l6 g3 qp2 qc3 l7 _ _ _ _ aA) (asK [0,1] Z) Z (H':=[_,_]) Z ?_
  rintro _ _ _ ⟨rfl,rfl,rfl⟩
  refine wP2 Z<|wS 3 0 Z Qz (all':=V3 ..) Z (H':=V4 ..) Z<|wP Z<|nk2 5 4 Z<|Qm ?_
  cases (Zi e)
  refine Q1P (Hr:=[]) [] results44 (QU 3 Z Z Qz Q17 Z Z) (Q1w Z) ⟨Z,Z,Z⟩ (asK [] Z) Z Z (.inl Z)
 rcases Q19 e with ⟨a8,e⟩ | ⟨a8,e⟩
 ·
  refine Q5f (i:=a0) (a:=(.func (.func 82) #[] #[.pointer (some ⟨g3,0,none⟩),.pointer (some ⟨z,0,none⟩)])) Q4i 0 Z Z Z Zq Z Z Z Z tM_146 trivial (by rw [eq_of_beq a8];rfl) (u:=fun _=>.func (.func 82) #[] #[.pointer (some ⟨g3,0,none⟩),.pointer (some ⟨z,0,none⟩)]) (fun _=>Z) (v:=fun _=>.tuple #[.func (.func 82) #[] #[.pointer (some ⟨g3,0,none⟩),.pointer (some ⟨z,0,none⟩)],.bool true]) (fun _=>Z) fun _ _=>wP2 Z<|wP2 Z<|wP Z<|nk3 7 6 4 Z<|Q5<|sq<|wP2 Z<|nk3 20 6 4 Z<|Qde Z<|k2 6 4 Z<|kt<|sq<|wP Z ?_
  obtain ⟨⟨aB,aC,aD⟩,aA,e⟩:=Qy e
  try dsimp only at e
  refine Q1B [2,3] [0,1] Z Z Z Zq Z Z Z fn_82 Z Z (QeC N rc ih g3 qp2 qc3 l7 z a0 a1 a2 a3 a4 a5 qp0 qc1 l6 _ _ _ aA) (asK [1,0] Z) Z (H':=[_,_]) Z ?_
  rintro _ _ _ ⟨rfl,rfl,rfl⟩
  refine wP2 Z<|wS 3 0 Z Qz (all':=V3 ..) Z (H':=V4 ..) Z<|wP Z<|nk2 5 4 Z<|Qm ?_
  cases (Zi e)
  refine Q1P (Hr:=[]) [] results44 (QU 3 Z Z Qz Q17 Z Z) (Q1w Z) ⟨Z,Z,Z⟩ (asK [] Z) Z Z (.inl Z)
 refine wl_lookNoE (i:=a0) 0 Z Z Z Zq Z Z Z Z tZ_140 tM_146 trivial (by simp [Qcs,(ne_of_beq_false a6).symm,(ne_of_beq_false a7).symm,(ne_of_beq_false a8).symm]) (v:=.tuple #[.nilFunc,.bool false]) Z<|wP2 Z<|wP2 Z<|wP Z<|nk3 7 6 4 Z<|Q5<|sq<|wP2 Z<|nk3 20 6 4 Z ?_
 refine Qs e Z (fun e=>?_) fun e=>?_
 ·
  refine k1 4 Z<|sq<|Q1v Z Z Z Zq Z Q1X Q8t Z (out:=V3 ..) Z<|wS 1 0 Z Qz (all':=V3 ..) Z (H':=V4 ..) Z<|wP Z<|nk2 5 4 Z<|Qm<|Q3 ?_
  cases (Zi e)
  refine Q1P (Hr:=[]) [] results44 (QU 1 Z Z Qz Q17 Z Z) (Q1w Z) ⟨Z,Z,Z⟩ (asK [] Z) Z Z (.inl Z)
 ·
  refine k2 6 4 Z<|kt<|sq<|wP Z ?_
  cases e
theorem Qex : ∀ (N:Nat),Qaz (Q1o N):=by
 intro N
 induction N with
 | zero=>intro a0 a1 a2 a3 a4 a5 qp0 qc1 l6 qp2 qc3 l7 o0 o1 o2 o3 e;cases e
 | succ N ih=>exact w_expr_Eval_s_b N (Q1o N) ih
theorem Qec {N qc1 qc3:Nat} {qp0 qp2:OA} {l0:List Bool} {l1:List V} {o0:Bool} (e:Q76 N l0 l1=some o0):QY prog 88 [.agg #[.slice qp0 l0.length qc1,.slice qp2 l1.length qc3]] [.sli 1 Q1I qp0 qc1 l0,.sli 3 R_V qp2 qc3 l1] [] (R0 (.bool o0) [] []):=by
 unfold Q76 at e
 refine Qt func88 Z ntmps88 Z (S:=[_]) Z fun C=>sq<|wB Z fun g1=>wP Z<|nk1 1 Z<|Q5<|sq<|wF Z QbM<|wD 0 0 Z tS_98 tA_98 Z<|wN Z tE_98<|wF Z QbN<|wD 0 1 Z Q6n Q6E Z<|wN Z Q1F<|wP Z<|Qi (Nne l0.length l1.length)<|nk2 11 1 Z ?_
 refine Qs e Z (fun e=>?_) fun e=>?_
 refine k0 Z<|sq<|wP Z<|nr<|Q3 ?_
 obtain rfl:=Zi e
 refine re1 [] [] results88 Z ⟨Z,Z,Z⟩ Z
 refine k1 1 Z<|kt<|Q5<|ks e fun a1 e hLj_1=>?_
 refine cut (σ:=Unit) a1 (fun _=>(.inl (),[],[],[])) ?_ ?_
 refine sq<|wF Z QbM<|wD 0 0 Z tS_98 tA_98 Z<|wN Z tE_98<|wP Z<|nk4 15 14 13 1 Z<|Qk<|lop (σ:=Nat) (Q2Z N l0 l1) (fun z=>(z,[(15,.int .i64 (z:Int)),(14,.int .i64 (l0.length:Int)),(13,.slice qp0 l0.length qc1),(1,.pointer (some ⟨g1,0,none⟩))],[.sli 1 Q1I qp0 qc1 l0,.sli 3 R_V qp2 qc3 l1],[.blk g1 [.slice qp0 l0.length qc1,.slice qp2 l1.length qc3] 100])) 0 e [15,14,13,1] [0,1] Z fun z aH aI e hLu1=>?_
 unfold Q2Z at e
 try dsimp only at e ⊢
 refine sq<|wP Z<|Qi (Nlt z l0.length)<|nt<|Q5 ?_
 refine Qs e Z (fun e=>?_) fun e=>?_
 refine k4 15 14 13 1 Z<|kt<|Q5<|Qk<|sq<|wP Z<|kn e fun aJ a5 e=>wI 0 z Z a5 tE_98 tS_4 fun aK aL aF aD=>Q1i Qdi 1 Z fun aM a6 _=>?_
 subst a6
 refine wLd 0 0 [_] Z tS_4 tA_4 Z<|wP2 Z<|nk6 4 3 15 14 13 1 Z<|Q5<|kn e fun a7 e hLj_2=>?_
 refine cut (σ:=Bool) a7 (fun a0=>(a0,[(15,.int .i64 (z:Int)),(14,.int .i64 (l0.length:Int)),(13,.slice qp0 l0.length qc1),(1,.pointer (some ⟨g1,0,none⟩)),(30,.bool a0)],[.sli 1 Q1I qp0 qc1 l0,.sli 3 R_V qp2 qc3 l1],[.blk g1 [.slice qp0 l0.length qc1,.slice qp2 l1.length qc3] 100])) ?_ ?_
 refine Qe<|wP2 Z<|wP Z ?_
 refine QE e (fun e=>?_) fun e=>?_
 refine wF Z QbN<|wD 0 1 Z Q6n Q6E Z<|wP Z<|kn e fun a8 a9 e=>wI 3 z Z a9 Q1F Qz fun aN aO aG aE=>Q1i Q24 1 Z fun aP aA _=>?_
 subst aA
 refine wLd 0 0 (V3 ..) Z Qz Q17 Z<|Q1v Z Z Z Zq Z Q1X Q8t Z (out:=V3 ..) Z<|Q9g Z Z Z Zq Z Z Z (neqV _ _ a8 (⟨0,0,EB⟩ : V))<|wP Z<|Q2 ?_
 refine jM (!decide (a8=(⟨0,0,EB⟩ : V))) e [15,14,13,1,30] [4,5] Z
 refine wO4 Z<|wO2 Z<|wO Z<|wP Z<|Q2 ?_
 refine jM false e [15,14,13,1,30] [2,3] Z
 rintro a0 j
 try dsimp only at j ⊢
 have e:=hLj_2
 try rw [j] at e
 refine Qs e Z (fun e=>?_) fun e=>?_
 refine k0 Z<|sq<|wP Z<|nr<|Qg<|Q3<|rb<|Q3 ?_
 obtain rfl:=(Qb hLj_1 (Qb hLu1 (zs e))).symm
 refine re1 [] [] results88 Z ⟨Z,Z,Z⟩ Z
 refine k4 15 14 13 1 Z<|QT<|Q6<|Qv<|Qe<|wP Z<|kg e fun aB e=>Qi (QD (a:=z) (b:=1) aB)<|Qx (S':=V4 ..) Z Z Z Z Z<|Q2 ?_
 refine rnd (z+1) (Qp hLu1 (zs e)) [15,14,13,1] [0,1] Z
 refine k0 Z<|QQ<|Q7<|Q7<|Qq<|Qo [] Z (H':=[]) Z ?_
 refine jn () (Qb hLu1 (zs e)) [] [] Z
 rintro _ j
 try dsimp only at j ⊢
 have e:=Qp hLj_1 j
 try dsimp only at e
 refine sq<|wP Z<|nr ?_
 obtain rfl:=Zi e
 refine re1 [] [] results88 Z ⟨Z,Z,Z⟩ Z
theorem Clone121f_s (p:OA)(c:Nat)(l:List Bool)(hb:l.length≤140737488355328):QY prog 121 [.slice p l.length c] [.sli 1 Q1I p c l] [] (fun v Φr Hr=>∃ p' c',v=.slice p' l.length c' ∧Φr=[]∧Hr=[.own 4 1 Q1I v l]):=by
 refine Qt func121 Z ntmps121 Z (S:=[_]) Z fun C=>wc_know (fun F w h=>sli_nil (h _ (Q1f (k:=0) Z))) fun isnil=>sq<|wP Z<|nt<|Q5<|sq<|wP Z<|wl_eqlNil Z Z Z Zq Z Z Z tE_98<|nk3 4 2 0 Z ?_
 refine wc_cond Z (fun h4=>?_) fun h4=>?_
 replace h4:=QdX h4
 obtain rfl:=isnil h4
 subst h4
 refine Q97 4 1 Q1I<|sq<|Qx (S':=[_,_]) Z Z Z Z Z<|nr<|Q3<|Q2p (Hr:=[.own 4 1 Q1I (V1) []]) [0] results121 (Q1w Z) ?_ (asK [] Z) Z Z (.inl Z)
 exact ⟨none,0,Z,Z,Z⟩
 replace h4:=Qdm h4
 refine kt<|sq<|QR Z Z Z Zq Z tE_98 tS_4 tZ_4 Z (zs:=[]) (by kernel_rfl) Z (out:=[]) Z fun g5=>wP Z<|wl_row (sz:=1) (m:=0) Q1I [] 0 Z (fun F w hφ=>Z) Z (by decide) (H':=[_]) Z<|Q86 0 0 Z Z Z Zq Z Z Z Z Z tE_98 tR_4 Z Z (by simp;omega) (by simp;omega) (H2:=fun p7 c7=>[_]) (fun _ _=>Z) fun p7 c7=>Qx (S':=V5 ..) Z Z Z Z Z<|nk3 2 4 0 Z<|Qm<|Q2p (Hr:=[.own 4 1 Q1I (.slice p7 (l).length c7) l]) [0] results121 (Q1w Z) ?_ (asK [] Z) Z Z (.inl Z)
 exact ⟨_,_,Z,Z,Z⟩
theorem w_pattern_of_s {N qc1 qc3:Nat} {qp0 qp2:OA} {l0:List Bool} {l1:List V} (e:Qb8 N l0 l1=some ()):QY prog 89 [.agg #[.slice qp0 l0.length qc1,.slice qp2 l1.length qc3]] [.sli 1 Q1I qp0 qc1 l0,.sli 3 R_V qp2 qc3 l1] [] (fun v p q=>∃ o0 o1 o2 o3,R0 (.agg #[.slice o0 l0.length o1,.slice o2 l1.length o3]) [] [.own 4 1 Q1I (.slice o0 l0.length o1) l0,.own 57 3 R_V (.slice o2 l1.length o3) l1] v p q):=by
 unfold Qb8 at e
 refine Qt func89 Z ntmps89 Z (S:=[_]) Z fun C=>sq<|wB Z fun g1=>QH Z Z Z Zq Z tZ_152 Z fun g2=>nk2 2 1 Z<|Q5<|kg e fun hg5 e=>kg e fun hg8 e=>QG [0,1,3,4,6,7] Z Z fun z=>xF z 0 Z QbM<|xD z 1 1 0 Z tS_98 tA_98 Z<|xF z 3 Z QbN<|xD z 4 1 1 Z Q6n Q6E Z<|xS z 2 Z<|wC [] [0,1] Z fn_121 Z (Clone121f_s qp0 qc1 l0 hg5) (asK [0] Z) Z (H':=[_,_]) Z ?_
 rintro _ _ _ ⟨p5,c5,rfl,rfl,rfl⟩
 refine Q2<|wxx 0 [2] Z<|xS z 5 Z<|wC [] [0,1,2] Z fn_68 Z (Clone68f_s qp2 qc3 l1 hg8) (asK [1] Z) Z (H':=V3 ..) Z ?_
 rintro _ _ _ ⟨p8,c8,rfl,rfl,rfl⟩
 refine Q2<|wxx 0 [3] Z<|QaN z 6 Z Z Z Zq Z Z QbQ tP_100 Z (out:=[_,_]) Z<|QaN z 7 Z Z Z Zq Z Z tZ_152 tP_152 Z (out:=[_,_]) Z<|xS z 8 Z<|wS 2 0 Z tS_152 (all':=[_,_]) Z (H':=V4 ..) Z<|Q2<|wxx 0 [] Z<|Qu z Z<|Qv<|k1 2 Z<|Qm ?_
 have j:=(Zi e).symm
 refine Q2p (Hr:=[_,_]) [1,0] results89 (QU 2 Z Z tS_152 tA_152 Z Z) ⟨p5,c5,p8,c8,Z,Z,Z⟩ (asK [] Z) Z Z (.inl Z)
theorem Qd8 {N qn1 qc2 qn4 qc5:Nat} {qp0 qp3:OA} {l0 o1:List Bool} {l1 o2:List V} {a2 a3 a4 a5 a7 a8:Int} {a6 a9:ByteArray} {o0:Bool} (e:Q5t N l0 l1 a2 a3 a4 a5 a6 a7 a8 a9=some (o0,o1,o2)):QY prog 90 [.agg #[.slice qp0 qn1 qc2,.slice qp3 qn4 qc5],.agg #[.int .u8 a2,.int .i64 a3,.int .u8 a4,.int .i64 a5,.string a6],.agg #[.int .u8 a7,.int .i64 a8,.string a9]] [] [.own 4 1 Q1I (.slice qp0 qn1 qc2) l0,.own 57 3 R_V (.slice qp3 qn4 qc5) l1] (R0 (.bool o0) [] [.own 4 1 Q1I (.slice qp0 qn1 qc2) o1,.own 57 3 R_V (.slice qp3 qn4 qc5) o2]):=by
 unfold Q5t at e
 refine Qt func90 Z ntmps90 Z (S:=V3 ..) Z fun C=>sq<|wB Z fun g3=>wB Z fun g4=>wB Z fun g5=>wP Z<|nk3 5 4 3 Z<|Q5<|kn e fun aP e hLj_1=>?_
 refine cut (σ:=Bool) aP (fun aA=>(aA,[(5,.pointer (some ⟨g5,0,none⟩)),(4,.pointer (some ⟨g4,0,none⟩)),(3,.pointer (some ⟨g3,0,none⟩)),(7,.bool aA)],[],[.blk g5 [.int .u8 a7,.int .i64 a8,.string a9] 57,.blk g4 [.int .u8 a2,.int .i64 a3,.int .u8 a4,.int .i64 a5,.string a6] 59,.blk g3 [.slice qp0 qn1 qc2,.slice qp3 qn4 qc5] 152,.own 4 1 Q1I (.slice qp0 qn1 qc2) l0,.own 57 3 R_V (.slice qp3 qn4 qc5) l1])) ?_ ?_
 refine Qe<|wF Z Q3G<|wD 1 1 Z QV Q13 Z<|wP2 Z ?_
 refine QE e (fun e=>?_) fun e=>?_
 refine wF Z Q3G<|wD 1 1 Z QV Q13 Z<|wF Z QbO<|wF Z QbM<|wD 2 0 Z tS_98 tA_98 Z<|Q1Z 3 Z fun aQ _=>wN Z tE_98<|Qi (len_is aQ)<|wP2 Z<|wP Z<|Q2 ?_
 refine jM (decide (a3 < (l0.length:Int))) e [5,4,3,7] [] Z
 refine wO4 Z<|wO2 Z<|wO Z<|wP2 Z<|Q2 ?_
 refine jM false e [5,4,3,7] [] Z
 rintro aA j
 try dsimp only at j ⊢
 have e:=hLj_1
 try rw [j] at e
 refine Q5<|sq<|wF Z tF_59_0<|wD 1 0 Z tS_54 tA_54 Z<|nk5 21 5 4 3 7 Z<|Qk<|sq<|wP2 Z<|nk6 22 21 5 4 3 7 Z ?_
 refine Qs e Z (fun e=>?_) fun e=>?_
 ·
  refine k0 Z<|sq<|wP Z<|nr<|Qg<|Q3 ?_
  cases (Zi e)
  refine re1 [3,4] [] results90 Z ⟨Z,Z,Z⟩ Z
 refine k5 21 5 4 3 7 Z<|sq<|wP2 Z<|nk6 24 21 5 4 3 7 Z ?_
 refine Qs e Z (fun e=>?_) fun e=>?_
 ·
  refine k2 5 4 Z<|sq<|wF Z Qcy<|wM 1 2 (V3 ..) Z Qz Q17 Z<|wM 0 0 (V3 ..) Z Qz Q17 Z<|Q9g Z Z Z Zq Z Z Z (eqlV _ _ (⟨a4,a5,a6⟩ : V) (⟨a7,a8,a9⟩ : V))<|wP Z<|nk1 6 Z<|Qm<|Qg<|Q3 ?_
  cases (Zi e)
  refine re1 [3,4] [] results90 Z ⟨Z,Z,Z⟩ Z
 refine k5 21 5 4 3 7 Z<|sq<|wP2 Z<|nk6 30 21 5 4 3 7 Z ?_
 refine Qs e Z (fun e=>?_) fun e=>?_
 refine k4 5 4 3 7 Z<|Q5 ?_
 rcases Q19 e with ⟨aC,e⟩ | ⟨aC,e⟩
 refine kg e fun aI e=>kn e fun aR aD e=>?_
 rcases Q19 e with ⟨aE,e⟩ | ⟨aE,e⟩
 ·
  refine kg e fun aS e=>kn e fun aH aJ e=>QG [0,1,2,3,4,5,6,7,8,9,10,11,12,13,14,15,16,17,18,19,20] Z Z fun z=>xP2 z 0 Z<|QA (QL aC)<|xF z 2 Z QbO<|xF z 3 Z QbM<|xD z 4 2 0 Z tS_98 tA_98 Z<|xF z 5 Z Q3G<|xD z 6 1 1 Z QV Q13 Z<|Qas z 7 3 a3.toNat Z Z Z Zq Z Z Z Z Z (Q2K aI) (Q9P aD) tE_98 tS_4 fun aZ aF=>?_
  subst aF
  refine QdJ z 8 Qdi 3 a3.toNat 0 Z Z Z Zq Z Z Z Z aD tS_4 tA_4 (v:=.bool aR) Z Z fun _=>xP2 z 9 Z<|QA (QL aE)<|xF z 11 Z QbO<|xF z 12 Z QbN<|xD z 13 2 1 Z Q6n Q6E Z<|xF z 14 Z Q3G<|xD z 15 1 1 Z QV Q13 Z<|Qas z 16 4 a3.toNat Z Z Z Zq Z Z Z Z Z (Q2K aS) (Q9P aJ) Q1F Qz fun b4 aT=>?_
  subst aT
  refine QdJ z 17 Q24 4 a3.toNat 0 Z Z Z Zq Z Z Z Z aJ Qz Q17 (v:=.agg #[.int .u8 (aH.k),.int .i64 (aH.n),.string aH.s]) Z Z fun _=>xM z 18 0 0 (V3 ..) Z Qz Q17 Z<|Q8l z 19 Z Z Z Zq Z Z Z Z (eqlV _ _ aH (⟨a7,a8,a9⟩ : V))<|xP z 20 Z<|xS z 21 Z<|wP Z<|Q2<|Q3b [] [] Z Z<|Qu z Z<|Qv<|k1 6 Z<|Qm<|Qg<|Q3 ?_
  cases (Zi e)
  refine re1 [3,4] [] results90 Z ⟨Z,Z,Z⟩ Z
 ·
  refine QG [0,1,2,3,4,5,6,7,8,9,10,11,12,13,14,15,16,17,18,19,20] Z Z fun z=>xP2 z 0 Z<|QA (QL aC)<|xF z 2 Z QbO<|xF z 3 Z QbM<|xD z 4 2 0 Z tS_98 tA_98 Z<|xF z 5 Z Q3G<|xD z 6 1 1 Z QV Q13 Z<|Qas z 7 3 a3.toNat Z Z Z Zq Z Z Z Z Z (Q2K aI) (Q9P aD) tE_98 tS_4 fun aZ aF=>?_
  subst aF
  refine QdJ z 8 Qdi 3 a3.toNat 0 Z Z Z Zq Z Z Z Z aD tS_4 tA_4 (v:=.bool aR) Z Z fun _=>xP2 z 9 Z<|QA (QL aE)<|xO2 z 11 Z<|xO2 z 13 Z<|xO2 z 15 Z<|xO2 z 17 Z<|xO z 19 Z<|xP z 20 Z<|xS z 21 Z<|wP Z<|Q2<|Q3b [] [] Z Z<|Qu z Z<|Qv<|k1 6 Z<|Qm<|Qg<|Q3 ?_
  cases (Zi e)
  refine re1 [3,4] [] results90 Z ⟨Z,Z,Z⟩ Z
 ·
  refine QG [0,1,2,3,4,5,6,7,8,9,10,11,12,13,14,15,16,17,18,19,20] Z Z fun z=>xP2 z 0 Z<|QA (QL aC)<|xO2 z 2 Z<|xO2 z 4 Z<|xO2 z 6 Z<|xO z 8 Z<|xP2 z 9 Z<|xO2 z 11 Z<|xO2 z 13 Z<|xO2 z 15 Z<|xO2 z 17 Z<|xO z 19 Z<|xP z 20 Z<|xS z 21 Z<|wP Z<|Q2<|Q3b [] [] Z Z<|Qu z Z<|Qv<|k1 6 Z<|Qm<|Qg<|Q3 ?_
  cases (Zi e)
  refine re1 [3,4] [] results90 Z ⟨Z,Z,Z⟩ Z
 refine k5 21 5 4 3 7 Z<|sq<|wP2 Z<|nk5 53 5 4 3 7 Z ?_
 refine Qs e Z (fun e=>?_) fun e=>?_
 refine k4 5 4 3 7 Z<|Q5<|kn e fun aU e hLj_2=>?_
 unfold Q5Q at e
 refine cut (σ:=(List Bool)×(List V)) aU (fun (a0,a1)=>((a0,a1),[(7,.bool aA)],[],[.own 4 1 Q1I (.slice qp0 qn1 qc2) a0,.own 57 3 R_V (.slice qp3 qn4 qc5) a1])) ?_ ?_
 refine sq<|wP Z<|nt ?_
 refine Qs e Z (fun e=>?_) fun e=>?_
 ·
  refine k4 5 4 3 7 Z<|kg e fun aK e=>kn e fun b5 aB e=>kg e fun aV e=>kn e fun b6 aL e=>QG [0,1,3,4,5,6,8,9,10,11,13] Z Z fun z=>xF z 0 Z QbO<|xF z 1 Z QbM<|xF z 3 Z Q3G<|xD z 4 1 1 Z QV Q13 Z<|xF z 5 Z QbO<|xF z 6 Z QbN<|xF z 8 Z Q3G<|xD z 9 1 1 Z QV Q13 Z<|xM z 10 0 0 (V3 ..) Z Qz Q17 Z ?_
  refine Qa6 z 2 7 Z Z Z Z Z Z ?_ ?_
  rotate_left
  focus
   refine wD 2 1 Z Q6n Q6E Z<|Q2<|Q3b [] [0,1,1] Z Z<|xS z 2 Z<|wD 2 0 Z tS_98 tA_98 Z<|Q2<|Q3b [] [0,1,1] Z Z<|Qas z 11 3 a3.toNat Z Z Z Zq Z Z Z Z Z (Q2K aK) (Q9P aB) tE_98 tS_4 fun b0 aG=>?_
   subst aG
   refine xS z 12 Z<|QcE (u:=true) 3 a3.toNat Z Z Z Z Z (Q9P aB) Z Z tS_4 Z (fun F w hφ=>⟨(),Z,Q16⟩) (H':=V5 ..) Z<|Q2<|Q3b [] [0,1] Z Z ?_
  rotate_right
  focus
   refine wD 2 0 Z tS_98 tA_98 Z<|Q2<|Q3b [] [0,1,1] Z Z<|Qas z 11 3 a3.toNat Z Z Z Zq Z Z Z Z Z (Q2K aK) (Q9P aB) tE_98 tS_4 fun b0 aG=>?_
   subst aG
   refine Qa6 z 7 12 Z Z Z Z Z Z ?_ ?_
   rotate_left
   focus
    refine QcE (u:=true) 3 a3.toNat Z Z Z Z Z (Q9P aB) Z Z tS_4 Z (fun F w hφ=>⟨(),Z,Q16⟩) (H':=V5 ..) Z<|Q2<|Q3b [] [0,1] Z Z<|xS z 7 Z<|wD 2 1 Z Q6n Q6E Z<|Q2<|Q3b [] [0,1,1] Z Z ?_
   rotate_right
   focus
    refine wD 2 1 Z Q6n Q6E Z<|Q2<|Q3b [] [0,1,1] Z Z<|xS z 12 Z<|QcE (u:=true) 3 a3.toNat Z Z Z Z Z (Q9P aB) Z Z tS_4 Z (fun F w hφ=>⟨(),Z,Q16⟩) (H':=V5 ..) Z<|Q2<|Q3b [] [0,1] Z Z ?_
  all_goals
   refine Qas z 13 4 a3.toNat Z Z Z Zq Z Z Z Z Z (Q2K aV) (Q9P aL) Q1F Qz fun b7 aW=>?_
   subst aW
   refine xS z 14 Z<|QcE (u:=(⟨a7,a8,a9⟩ : V)) 4 a3.toNat Z Z Z Z Z (Q9P aL) Z Z Qz Z (fun F w hφ=>⟨(),Z,Q16⟩) (H':=V5 ..) Z<|Q2<|Q3b [] [] Z Z<|Qu z Z<|Qo [3,4] Z (H':=[_,_]) Z ?_
   refine jM (l0.set a3.toNat true,(l1.set a3.toNat (⟨a7,a8,a9⟩ : V))) e [7] [] Z
 refine k1 7 Z<|QT<|Qo [3,4] Z (H':=[_,_]) Z ?_
 refine jM (l0,l1) e [7] [] Z
 ·
  rintro ⟨a0,a1⟩ j
  try dsimp only at j ⊢
  have e:=hLj_2
  try rw [j] at e
  try dsimp only at e
  refine sq<|wP2 Z<|nk1 6 Z<|Qm<|Qg<|Q3 ?_
  cases (Zi e)
  refine re1 [0,1] [] results90 Z ⟨Z,Z,Z⟩ Z
 ·
  refine k0 Z<|QT<|Q6<|Qv<|sq<|wP Z<|nr ?_
  cases (Zi e)
  refine re1 [3,4] [] results90 Z ⟨Z,Z,Z⟩ Z
theorem QcD {N qc1 qc3 qc5 qc7 qc9:Nat} {a0 a1 a3 a4 a5 a7 a8 a10 a11:Int} {qp0 qp2 qp4 qp6 qp8:OA} {l2:List Q1n} {a6:ByteArray} {l9:List Q4} {l12 l14 o6:List V} {l13 o2:List Bool} {o8:Bool} (e:Q6q N a0 a1 l2 a3 a4 a5 a6 a7 a8 l9 a10 a11 l12 l13 l14=some (o2,o6,o8)):QY prog 49 [.agg #[.int .u8 a0,.int .i64 a1,.slice qp0 l2.length qc1,.int .u8 a3,.int .u8 a4,.int .i64 a5,.string a6,.int .i64 a7,.int .u8 a8,.slice qp2 l9.length qc3],.agg #[.int .i64 a10,.int .i64 a11,.slice qp4 l12.length qc5],.agg #[.slice qp6 l13.length qc7,.slice qp8 l14.length qc9]] [.sli 5 Q1p qp0 qc1 l2,.sli 7 Qj qp2 qc3 l9,.sli 3 R_V qp4 qc5 l12,.sli 1 Q1I qp6 qc7 l13,.sli 3 R_V qp8 qc9 l14] [] (fun v p q=>∃ o0 o1 o3 o4 o5 o7,R0 (.tuple #[.agg #[.slice o0 o3 o1,.slice o4 o7 o5],.bool o8]) [] [.own 4 1 Q1I (.slice o0 o3 o1) o2,.own 57 3 R_V (.slice o4 o7 o5) o6] v p q):=by
 unfold Q6q at e
 refine Qt func49 Z ntmps49 Z (S:=V3 ..) Z fun C=>sq<|wB Z fun g3=>wB Z fun g4=>wB Z fun g5=>QH Z Z Z Zq Z QbQ Z fun g6=>wP Z<|nk4 6 5 4 3 Z<|Q5<|kn e fun aU e hLj_1=>?_
 refine cut (σ:=Bool) aU (fun aP=>(aP,[(6,.pointer (some ⟨g6,0,none⟩)),(5,.pointer (some ⟨g5,0,none⟩)),(4,.pointer (some ⟨g4,0,none⟩)),(3,.pointer (some ⟨g3,0,none⟩)),(8,.bool aP)],[.sli 1 Q1I qp6 qc7 l13,.sli 3 R_V qp8 qc9 l14,.sli 3 R_V qp4 qc5 l12,.sli 5 Q1p qp0 qc1 l2,.sli 7 Qj qp2 qc3 l9],[.blk g6 [V1,V1] 100,.blk g5 [.slice qp6 l13.length qc7,.slice qp8 l14.length qc9] 100,.blk g4 [.int .i64 a10,.int .i64 a11,.slice qp4 l12.length qc5] 71,.blk g3 [.int .u8 a0,.int .i64 a1,.slice qp0 l2.length qc1,.int .u8 a3,.int .u8 a4,.int .i64 a5,.string a6,.int .i64 a7,.int .u8 a8,.slice qp2 l9.length qc3] 67])) ?_ ?_
 refine Qe<|wF Z Q8H<|wD 3 0 Z QcC Qcw Z<|wP2 Z ?_
 refine QE e (fun e=>?_) fun e=>?_
 refine wO2 Z<|wO Z<|wP2 Z<|Q2 ?_
 refine jM true e [6,5,4,3,8] [3,4,2,0,1] Z
 refine wF Z Q8H<|wD 3 0 Z QcC Qcw Z<|wP2 Z<|wP Z<|Q2 ?_
 refine jM (a0==2) e [6,5,4,3,8] [3,4,2,0,1] Z
 rintro aP j
 try dsimp only at j ⊢
 have e:=hLj_1
 try rw [j] at e
 refine Q5<|Q5<|kn e fun aV e hLj_2=>?_
 unfold Q8g at e
 refine cut (σ:=Bool) aV (fun aM=>(aM,[(6,.pointer (some ⟨g6,0,none⟩)),(5,.pointer (some ⟨g5,0,none⟩)),(4,.pointer (some ⟨g4,0,none⟩)),(3,.pointer (some ⟨g3,0,none⟩)),(42,.bool aM)],[.sli 1 Q1I qp6 qc7 l13,.sli 3 R_V qp8 qc9 l14,.sli 3 R_V qp4 qc5 l12,.sli 5 Q1p qp0 qc1 l2,.sli 7 Qj qp2 qc3 l9],[.blk g6 [V1,V1] 100,.blk g5 [.slice qp6 l13.length qc7,.slice qp8 l14.length qc9] 100,.blk g4 [.int .i64 a10,.int .i64 a11,.slice qp4 l12.length qc5] 71,.blk g3 [.int .u8 a0,.int .i64 a1,.slice qp0 l2.length qc1,.int .u8 a3,.int .u8 a4,.int .i64 a5,.string a6,.int .i64 a7,.int .u8 a8,.slice qp2 l9.length qc3] 67])) ?_ ?_
 refine Qe<|wP2 Z<|wP Z ?_
 refine QE e (fun e=>?_) fun e=>?_
 refine wO4 Z<|wO Z<|wP2 Z<|wO4 Z<|wO2 Z<|wO Z<|wP2 Z<|wO2 Z<|wO Z<|wP Z<|Q2 ?_
 refine jM true e [6,5,4,3,42] [0,1,2,3,4] Z
 refine wF Z QcA<|wD 3 1 Z QV Q13 Z<|wF Z Q6T<|wD 2 1 Z QV Q13 Z<|wP2 Z<|wP Z ?_
 refine QE e (fun e=>?_) fun e=>?_
 refine wO4 Z<|wO2 Z<|wO Z<|wP2 Z<|wO2 Z<|wO Z<|wP Z<|Q2 ?_
 refine jM true e [6,5,4,3,42] [0,1,2,3,4] Z
 refine wF Z Q7h<|wD 3 2 Z Qad QaD Z<|wN Z Q4O<|wF Z Q6m<|wD 2 2 Z Q6n Q6E Z<|wN Z Q1F<|wP Z<|Qi (Nne l2.length l12.length)<|wP2 Z ?_
 refine QE e (fun e=>?_) fun e=>?_
 refine wO2 Z<|wO Z<|wP Z<|Q2 ?_
 refine jM true e [6,5,4,3,42] [0,1,2,3,4] Z
 refine wM 1 0 [_,_] Z Q6z Q9Z Z<|kn e fun b8 aW e=>c0 [] [0,1,2,3] Z fn_88 aW Qec [0,1] (V4 ..) Z<|wP2 Z<|Q2 ?_
 refine jM (!b8) e [6,5,4,3,42] [0,1,2,3,4] Z
 rintro aM j
 try dsimp only at j ⊢
 have e:=hLj_2
 try rw [j] at e
 refine Qs e Z (fun e=>?_) fun e=>?_
 ·
  refine k1 6 Z<|sq<|Q1v Z Z Z Zq Z QbQ tP_100 Z (out:=[_,_]) Z<|wS 0 0 Z Q6z (all':=[_,_]) Z (H':=V4 ..) Z<|wP Z<|nk2 7 6 Z<|Qm<|Q3 ?_
  cases (Zi e)
  refine Q7n 4 1 Q1I<|Q7n 57 3 R_V ?_
  refine Q1P (Hr:=[_,_]) [1,0] results49 (QU 2 Z Z Q6z Q9Z Z Z) (Q1w Z) ⟨none,0,0,none,0,0,Z,Z,Z⟩ (asK [] Z) Z Z (.inl Z)
 refine k4 6 5 4 3 Z<|kt<|sq<|wM 1 0 [_,_] Z Q6z Q9Z Z<|kn e fun _ aX e=>?_
 try dsimp only at e
 refine c4 [] [0,1,2,3] Z fn_89 aX w_pattern_of_s [0,1] (V4 ..) Z fun aI aJ aK aL=>QH Z Z Z Zq Z tZ_152 Z fun g9=>wS 0 0 Z tS_152 (all':=[_,_]) Z (H':=V7 ..) Z<|nk4 9 6 4 3 Z<|Q5<|ks e fun aY e hLj_3=>?_
 refine cut (σ:=(List Bool)×(List V)×Nat×Nat) aY (fun (aF,aG,aB,aC)=>(.inl (aF,aG),[(9,.pointer (some ⟨g9,0,none⟩)),(6,.pointer (some ⟨g6,0,none⟩))],[],[.blk g9 [.slice aI aB aJ,.slice aK aC aL] 152,.own 4 1 Q1I (.slice aI aB aJ) aF,.own 57 3 R_V (.slice aK aC aL) aG,.blk g6 [V1,V1] 100])) ?_ ?_
 refine sq<|wF Z Q7h<|wD 6 2 Z Qad QaD Z<|wN Z Q4O<|wP Z<|nk6 49 48 47 9 6 4 Z<|Qk<|wc_pick [0,1,2,3,5] Z (H':=V5 ..) Z<|lop (σ:=Nat×(List Bool)×(List V)×Nat×Nat) (Q4n N l2 l12) (fun (aH,a9,aA,aD,aE)=>((aH,a9,aA),[(49,.int .i64 (aH:Int)),(48,.int .i64 (l2.length:Int)),(47,.slice qp0 l2.length qc1),(9,.pointer (some ⟨g9,0,none⟩)),(6,.pointer (some ⟨g6,0,none⟩)),(4,.pointer (some ⟨g4,0,none⟩))],[.sli 5 Q1p qp0 qc1 l2,.sli 3 R_V qp4 qc5 l12],[.blk g9 [.slice aI aD aJ,.slice aK aE aL] 152,.own 4 1 Q1I (.slice aI aD aJ) a9,.own 57 3 R_V (.slice aK aE aL) aA,.blk g6 [V1,V1] 100,.blk g4 [.int .i64 a10,.int .i64 a11,.slice qp4 l12.length qc5] 71])) (0,l13,l14,l13.length,l14.length) e [49,48,47,9,6,4] [3,2] Z fun s_ bE bF e hLu1=>?_
 obtain ⟨aH,a9,aA,aD,aE⟩:=s_
 unfold Q4n at e
 try dsimp only at e ⊢
 refine sq<|wP Z<|Qi (Nlt aH l2.length)<|nt<|Q5 ?_
 refine Qs e Z (fun e=>?_) fun e=>?_
 refine k6 49 48 47 9 6 4 Z<|kt<|Q5<|Qk<|sq<|wP Z<|kn e fun bG aZ e=>wI 0 aH Z aZ Q4O Q7i fun bH bI bC b9=>Q1i Q5P 1 Z fun bJ b0 _=>?_
 subst b0
 refine wLd 0 0 (V5 ..) Z Q7i tA_59 Z<|QH Z Z Z Zq Z tZ_59 Z fun bK=>wP Z<|wS 0 0 Z Q7i (all':=V5 ..) Z (H':=V6 ..) Z<|nk8 10 11 49 48 47 9 6 4 Z<|Q5<|kn e fun bL b1 e=>?_
 obtain ⟨⟨bA,aR,aS⟩,b2,e⟩:=Qy e
 try dsimp only at e
 refine QG [0,1,2,3,4,5,6,8] Z Z fun z=>xM z 0 1 0 [_,_] Z tS_152 tA_152 Z<|xM z 1 0 0 (V5 ..) Z Q7i tA_59 Z<|xF z 2 Z Q6m<|xD z 3 5 2 Z Q6n Q6E Z<|xP z 4 Z<|xI z 5 3 aH Z b1 Q1F Qz fun bM bN bD bB=>QJ Q24 1 Z fun bO b3 _=>?_
 subst b3
 refine xL z 6 0 0 (V3 ..) Z Qz Q17 Z<|xS z 7 Z<|Q1Z 2 Z fun aN _=>?_
 subst aN
 refine Q1Z 3 Z fun aO _=>?_
 subst aO
 refine c0 [2,3] [0,1,4,5] Z fn_90 b2 Qd8 [] (V4 ..) Z<|Q2<|wxx 0 [5] Z<|xP z 8 Z<|Qu z Z<|Qv<|k7 62 49 48 47 9 6 4 Z ?_
 refine Qs e Z (fun e=>?_) fun e=>?_
 ·
  refine k1 6 Z<|sq<|Q1v Z Z Z Zq Z QbQ tP_100 Z (out:=[_,_]) Z<|wS 4 0 Z Q6z (all':=[_,_]) Z (H':=V6 ..) Z<|wP Z<|nk2 7 6 Z<|Qm<|Qg<|Q3<|rb<|Q3 ?_
  cases (Qb hLj_3 (Qb hLu1 ((Zi e).symm))).symm
  refine Q7n 4 1 Q1I<|Q7n 57 3 R_V ?_
  refine Q1P (Hr:=[_,_]) [1,0] results49 (QU 6 Z Z Q6z Q9Z Z Z) (Q1w Z) ⟨none,0,0,none,0,0,Z,Z,Z⟩ (asK [] Z) Z Z (.inl Z)
 refine k6 49 48 47 9 6 4 Z<|QT<|Q6<|Qv<|Qe<|wP Z<|kg e fun b4 e=>Qi (QD (a:=aH) (b:=1) b4)<|Qx (S':=V6 ..) Z Z Z Z Z<|Q2<|Qo [3,0,1,4,5] Z (H':=V5 ..) Z ?_
 refine rnd (aH+1,aR,aS,a9.length,aA.length) (Qp hLu1 (zs e)) [49,48,47,9,6,4] [4,5] Z
 refine k2 9 6 Z<|QQ<|Q7<|Q7<|Qq<|Qo [0,1,2,3] Z (H':=V4 ..) Z ?_
 refine jn (a9,aA,aD,aE) (Qb hLu1 (zs e)) [9,6] [] Z
 ·
  rintro ⟨aF,aG,aB,aC⟩ j
  try dsimp only at j ⊢
  have e:=Qp hLj_3 j
  try dsimp only at e
  refine sq<|wF Z QbO<|wM 0 0 [_,_] Z Q6z Q9Z Z<|wS 3 0 Z Q6z (all':=[_,_]) Z (H':=V4 ..) Z<|wP Z<|nk2 7 6 Z<|Qm ?_
  cases (Zi e)
  refine Q1P (Hr:=[_,_]) [1,2] results49 (QU 3 Z Z Q6z Q9Z Z Z) (Q1w Z) ⟨aI,aJ,aB,aK,aL,aC,Z,Z,Z⟩ (asK [] Z) Z Z (.inl Z)
theorem QeE {N:Nat} {a0:Int} {a1:Int} {qp0:OA} {qc1:Nat} {l2:List V} {qg2:Nat} {a3:Int} {a4:Int} {qp3:OA} {qc4:Nat} {l5:List Q1n} {a6:Int} {a7:Int} {a8:Int} {a9:ByteArray} {a10:Int} {a11:Int} {qp5:OA} {qc6:Nat} {l12:List Q4} {qg7:Nat} {qp8:OA} {qc9:Nat} {l13:List Bool} {qp10:OA} {qc11:Nat} {l14:List V} {o0:Bool} (e:Q91 N a0 a1 l2 a3 a4 l5 a6 a7 a8 a9 a10 a11 l12 l13 l14=some o0):QY prog 86 [.agg #[.int .i64 a0,.int .i64 a1,.slice qp0 l2.length qc1],.pointer (some ⟨qg2,0,none⟩),.pointer (some ⟨qg7,0,none⟩)] [.sli 3 R_V qp0 qc1 l2,.sli 5 Q1p qp3 qc4 l5,.sli 7 Qj qp5 qc6 l12,.sli 1 Q1I qp8 qc9 l13,.sli 3 R_V qp10 qc11 l14] [.blk qg2 [.int .u8 a3,.int .i64 a4,.slice qp3 l5.length qc4,.int .u8 a6,.int .u8 a7,.int .i64 a8,.string a9,.int .i64 a10,.int .u8 a11,.slice qp5 l12.length qc6] 67,.blk qg7 [.slice qp8 l13.length qc9,.slice qp10 l14.length qc11] 100] (R0 (.bool o0) [.sli 5 Q1p qp3 qc4 l5,.sli 7 Qj qp5 qc6 l12,.sli 1 Q1I qp8 qc9 l13,.sli 3 R_V qp10 qc11 l14] [.blk qg2 [.int .u8 a3,.int .i64 a4,.slice qp3 l5.length qc4,.int .u8 a6,.int .u8 a7,.int .i64 a8,.string a9,.int .i64 a10,.int .u8 a11,.slice qp5 l12.length qc6] 67,.blk qg7 [.slice qp8 l13.length qc9,.slice qp10 l14.length qc11] 100]):=by
 unfold Q91 at e
 refine Qt func86 Z ntmps86 Z (S:=V3 ..) Z fun C=>sq<|wB Z fun g3=>wP Z<|nk3 3 1 2 Z<|sq<|wM 1 0 (V10 ..) Z Q3Q Q9b Z<|wM 0 0 (V3 ..) Z Q4l Qab Z<|wM 2 0 [_,_] Z Q6z Q9Z Z ?_
 obtain ⟨⟨v11_0,v11_1,v11_2⟩,hc11,e⟩:=Qy e
 try dsimp only at e
 refine c6 [] [0,1,2] Z fn_49 hc11 QcD [1,2,0,3,4] (V3 ..) Z fun p11_0 c11_1 c11_2 p11_3 c11_4 c11_5=>wP2 Z<|wP Z<|QH Z Z Z Zq Z QbQ Z fun g5=>wS 0 0 Z Q6z (all':=[_,_]) Z (H':=V6 ..) Z<|wP Z<|nk1 6 Z<|sq<|wP2 Z<|nk1 4 Z<|Qm ?_
 obtain rfl:=Zi e
 refine re1 [4,5] [1,2,3,4] results86 Z ⟨Z,Z,Z⟩ Z
theorem Qci {N qc1 a0 qc4 qc6 aA qc9 qc11:Nat} {qp0 qp3 qp5 qp8 qp10:OA} {l0:List QP} {a1 a2 a4 a5 a6 a8 a9 o0:Int} {l3:List Q1n} {a7:ByteArray} {l10:List Q4} {l11:List Bool} {l12:List V} (e:Q6i N l0 a1 a2 l3 a4 a5 a6 a7 a8 a9 l10 l11 l12=some o0):QY prog 120 [.slice qp0 l0.length qc1,.func (.func 86) #[] #[.pointer (some ⟨a0,0,none⟩),.pointer (some ⟨aA,0,none⟩)]] [.sli 3 Q14 qp0 qc1 l0,.sli 5 Q1p qp3 qc4 l3,.sli 7 Qj qp5 qc6 l10,.sli 1 Q1I qp8 qc9 l11,.sli 3 R_V qp10 qc11 l12] [.blk a0 [.int .u8 a1,.int .i64 a2,.slice qp3 l3.length qc4,.int .u8 a4,.int .u8 a5,.int .i64 a6,.string a7,.int .i64 a8,.int .u8 a9,.slice qp5 l10.length qc6] 67,.blk aA [.slice qp8 l11.length qc9,.slice qp10 l12.length qc11] 100] (R0 (.int .i64 o0) [.sli 5 Q1p qp3 qc4 l3,.sli 7 Qj qp5 qc6 l10,.sli 1 Q1I qp8 qc9 l11,.sli 3 R_V qp10 qc11 l12] [.blk a0 [.int .u8 a1,.int .i64 a2,.slice qp3 l3.length qc4,.int .u8 a4,.int .u8 a5,.int .i64 a6,.string a7,.int .i64 a8,.int .u8 a9,.slice qp5 l10.length qc6] 67,.blk aA [.slice qp8 l11.length qc9,.slice qp10 l12.length qc11] 100]):=by
 unfold Q6i at e
 refine Qt func120 Z ntmps120 Z (S:=[_,_]) Z fun C=>sq<|wP Z<|nk2 0 1 Z<|Q5<|ks e fun aC e hLj_1=>?_
 refine cut (σ:=Unit) aC (fun _=>(.inl (),[],[.sli 5 Q1p qp3 qc4 l3,.sli 7 Qj qp5 qc6 l10,.sli 1 Q1I qp8 qc9 l11,.sli 3 R_V qp10 qc11 l12],[.blk a0 [.int .u8 a1,.int .i64 a2,.slice qp3 l3.length qc4,.int .u8 a4,.int .u8 a5,.int .i64 a6,.string a7,.int .i64 a8,.int .u8 a9,.slice qp5 l10.length qc6] 67,.blk aA [.slice qp8 l11.length qc9,.slice qp10 l12.length qc11] 100])) ?_ ?_
 refine sq<|wP Z<|wN Z Q4N<|wP Z<|nk4 8 7 0 1 Z<|Qk<|lop (σ:=Nat) (Q3v N l0 a1 a2 l3 a4 a5 a6 a7 a8 a9 l10 l11 l12) (fun z=>(z,[(8,.int .i64 (z:Int)),(7,.int .i64 (l0.length:Int)),(0,.slice qp0 l0.length qc1),(1,.func (.func 86) #[] #[.pointer (some ⟨a0,0,none⟩),.pointer (some ⟨aA,0,none⟩)])],[.sli 3 Q14 qp0 qc1 l0,.sli 5 Q1p qp3 qc4 l3,.sli 7 Qj qp5 qc6 l10,.sli 1 Q1I qp8 qc9 l11,.sli 3 R_V qp10 qc11 l12],[.blk a0 [.int .u8 a1,.int .i64 a2,.slice qp3 l3.length qc4,.int .u8 a4,.int .u8 a5,.int .i64 a6,.string a7,.int .i64 a8,.int .u8 a9,.slice qp5 l10.length qc6] 67,.blk aA [.slice qp8 l11.length qc9,.slice qp10 l12.length qc11] 100])) 0 e [8,7,0,1] [0,1,2,3,4] Z fun z aK aL e hLu1=>?_
 unfold Q3v at e
 try dsimp only at e ⊢
 refine sq<|wP Z<|Qi (Nlt z l0.length)<|nt<|Q5 ?_
 refine Qs e Z (fun e=>?_) fun e=>?_
 refine k4 8 7 0 1 Z<|kt<|Q5<|Qk<|sq<|wP2 Z<|nk5 5 8 7 0 1 Z<|sq<|wP2 Z<|wP Z<|kn e fun aB aD e=>wI 0 z Z aD Q4N Q4l fun aM aN aJ aI=>Q1i Q40 1 Z fun aE aF _=>?_
 subst aF
 refine wLd 1 0 (V3 ..) Z Q4l Qab Z ?_
 obtain ⟨aO,aG,e⟩:=Qy e
 refine Q1B [0,1] [] Z Z Z Zq Z Z Z fn_86 Z Z (@QeE N aB.id aB.ty aE.1 aE.2 aB.args a0 a1 a2 qp3 qc4 l3 a4 a5 a6 a7 a8 a9 qp5 qc6 l10 aA qp8 qc9 l11 qp10 qc11 l12 _ aG) (asK [0,4,5,6,7] Z) Z (H':=[]) Z ?_
 rintro _ _ _ ⟨rfl,rfl,rfl⟩
 refine nk6 16 5 8 7 0 1 Z ?_
 refine Qs e Z (fun e=>?_) fun e=>?_
 refine k1 5 Z<|sq<|wP2 Z<|nk1 4 Z<|Qm<|Qg<|Q3<|rb<|Q3 ?_
 obtain rfl:=(Qb hLj_1 (Qb hLu1 (zs e))).symm
 refine re1 [0,1] [0,1,2,3] results120 Z ⟨Z,Z,Z⟩ Z
 refine k4 8 7 0 1 Z<|QT<|Q6<|Qv<|Qe<|wP Z<|kg e fun aH e=>Qi (QD (a:=z) (b:=1) aH)<|Qx (S':=V4 ..) Z Z Z Z Z<|Q2 ?_
 refine rnd (z+1) (Qp hLu1 (zs e)) [8,7,0,1] [7,0,1,2,3] Z
 refine k0 Z<|QQ<|Q7<|Q7<|Qq ?_
 refine jn () (Qb hLu1 (zs e)) [] [1,2,3,4] Z
 rintro _ j
 try dsimp only at j ⊢
 have e:=Qp hLj_1 j
 try dsimp only at e
 refine sq<|wP Z<|nr ?_
 obtain rfl:=Zi e
 refine re1 [0,1] [0,1,2,3] results120 Z ⟨Z,Z,Z⟩ Z
theorem QaX {N qc1 qg2 qc4 qc6 qg7 qc9 qc11:Nat} {qp0 qp3 qp5 qp8 qp10:OA} {l0:List QP} {a1 a2 a4 a5 a6 a8 a9:Int} {l3:List Q1n} {a7:ByteArray} {l10:List Q4} {l11:List Bool} {l12:List V} {o0:Bool} (e:Q53 N l0 a1 a2 l3 a4 a5 a6 a7 a8 a9 l10 l11 l12=some o0):QY prog 85 [.slice qp0 l0.length qc1,.func (.func 86) #[] #[.pointer (some ⟨qg2,0,none⟩),.pointer (some ⟨qg7,0,none⟩)]] [.sli 3 Q14 qp0 qc1 l0,.sli 5 Q1p qp3 qc4 l3,.sli 7 Qj qp5 qc6 l10,.sli 1 Q1I qp8 qc9 l11,.sli 3 R_V qp10 qc11 l12] [.blk qg2 [.int .u8 a1,.int .i64 a2,.slice qp3 l3.length qc4,.int .u8 a4,.int .u8 a5,.int .i64 a6,.string a7,.int .i64 a8,.int .u8 a9,.slice qp5 l10.length qc6] 67,.blk qg7 [.slice qp8 l11.length qc9,.slice qp10 l12.length qc11] 100] (R0 (.bool o0) [.sli 5 Q1p qp3 qc4 l3,.sli 7 Qj qp5 qc6 l10,.sli 1 Q1I qp8 qc9 l11,.sli 3 R_V qp10 qc11 l12] [.blk qg2 [.int .u8 a1,.int .i64 a2,.slice qp3 l3.length qc4,.int .u8 a4,.int .u8 a5,.int .i64 a6,.string a7,.int .i64 a8,.int .u8 a9,.slice qp5 l10.length qc6] 67,.blk qg7 [.slice qp8 l11.length qc9,.slice qp10 l12.length qc11] 100]):=by
 unfold Q53 at e
 refine Qt func85 Z ntmps85 Z (S:=[_,_]) Z fun C=>sq<|wP Z<|nk2 0 1 Z<|sq<|wP2 Z<|kn e fun v7 hc7 e=>c0 [0,1] [] Z fn_120 hc7 Qci [0,1,2,3,4] [] Z<|wP2 Z<|nk1 4 Z<|Qm ?_
 obtain rfl:=Zi e
 refine re1 [0,1] [0,1,2,3] results85 Z ⟨Z,Z,Z⟩ Z
theorem w_pattern_Some_s {N qc1 qc3 qc5 qc7 qc9:Nat} {a0 a1 a3 a4 a5 a7 a8:Int} {qp0 qp2 qp4 qp6 qp8:OA} {l2:List Q1n} {a6:ByteArray} {l9:List Q4} {l10:List Bool} {l11:List V} {l12:List QP} {o0:Bool} (e:Q7T N a0 a1 l2 a3 a4 a5 a6 a7 a8 l9 l10 l11 l12=some o0):QY prog 45 [.agg #[.int .u8 a0,.int .i64 a1,.slice qp0 l2.length qc1,.int .u8 a3,.int .u8 a4,.int .i64 a5,.string a6,.int .i64 a7,.int .u8 a8,.slice qp2 l9.length qc3],.agg #[.slice qp4 l10.length qc5,.slice qp6 l11.length qc7],.slice qp8 l12.length qc9] [.sli 5 Q1p qp0 qc1 l2,.sli 7 Qj qp2 qc3 l9,.sli 1 Q1I qp4 qc5 l10,.sli 3 R_V qp6 qc7 l11,.sli 3 Q14 qp8 qc9 l12] [] (R0 (.bool o0) [] []):=by
 unfold Q7T at e
 refine Qt func45 Z ntmps45 Z (S:=V3 ..) Z fun C=>sq<|wB Z fun g3=>wB Z fun g4=>wP Z<|nk3 4 3 2 Z<|sq<|wP Z<|Q26 Z Z Z Zq Z Z<|kn e fun v9 hc9 e=>c0 [1,0] [] Z fn_85 hc9 QaX [4,0,1,2,3] [] Z<|wP Z<|nk1 6 Z<|Qm ?_
 obtain rfl:=Zi e
 refine re1 [] [] results45 Z ⟨Z,Z,Z⟩ Z
def Q9L (rc:(List Bool)→(List V)→ByteArray→Int→Int→(List Qn)→(List QO)→(List QP)→(List Int)→Int→(List Ql)→Int→Int→Option ((Int×(List Ql))⊕Unit)):Prop:=∀ (qg0:Nat)(qp1:OA)(qc2:Nat)(l0:List Bool)(qp3:OA)(qc4:Nat)(l1:List V)(a2:ByteArray)(a3:Int)(a4:Int)(qp5:OA)(qc6:Nat)(l5:List Qn)(qp7:OA)(qc8:Nat)(l6:List QO)(qp9:OA)(qc10:Nat)(l7:List QP)(qp11:OA)(qc12:Nat)(l8:List Int)(a9:Int)(qg13:Nat)(qg14:Nat)(qp15:OA)(qn16:Nat)(qc17:Nat)(l10:List Ql)(qg18:Nat)(a11:Int)(a12:Int)(r_:(Int×(List Ql))⊕Unit),rc l0 l1 a2 a3 a4 l5 l6 l7 l8 a9 l10 a11 a12=some r_→SpecQ prog 69 [.pointer (some ⟨qg0,0,none⟩),.int .i64 a12] [.sli 1 Q1I qp1 qc2 l0,.sli 3 R_V qp3 qc4 l1,.sli 10 QB qp5 qc6 l5,.sli 4 QF qp7 qc8 l6,.sli 3 Q14 qp9 qc10 l7,.sli 1 Q3B qp11 qc12 l8] [.blk qg0 [.slice qp1 l0.length qc2,.slice qp3 l1.length qc4,.string a2,.int .i64 a3,.int .i64 a4,.slice qp5 l5.length qc6,.slice qp7 l6.length qc8,.slice qp9 l7.length qc10,.slice qp11 l8.length qc12,.int .i64 a9,.func (.func 66) #[] #[.pointer (some ⟨qg13,0,none⟩),.pointer (some ⟨qg18,0,none⟩)]] 135,.blk qg13 [.func (.func 33) #[] #[.pointer (some ⟨qg14,0,none⟩)]] 88,.blk qg14 [.slice qp15 qn16 qc17] 31,Q23 QZ 41 2 (.slice qp15 qn16 qc17) l10,.blk qg18 [.int .i64 a11] 3] (RQ (fun (o0,o3)=>(fun v p q=>∃ o1 o2 o4,R0 (.tuple #[]) [.sli 1 Q1I qp1 qc2 l0,.sli 3 R_V qp3 qc4 l1,.sli 10 QB qp5 qc6 l5,.sli 4 QF qp7 qc8 l6,.sli 3 Q14 qp9 qc10 l7,.sli 1 Q3B qp11 qc12 l8] [.blk qg0 [.slice qp1 l0.length qc2,.slice qp3 l1.length qc4,.string a2,.int .i64 a3,.int .i64 a4,.slice qp5 l5.length qc6,.slice qp7 l6.length qc8,.slice qp9 l7.length qc10,.slice qp11 l8.length qc12,.int .i64 o0,.func (.func 66) #[] #[.pointer (some ⟨qg13,0,none⟩),.pointer (some ⟨qg18,0,none⟩)]] 135,.blk qg13 [.func (.func 33) #[] #[.pointer (some ⟨qg14,0,none⟩)]] 88,.blk qg14 [.slice o1 o4 o2] 31,Q23 QZ 41 2 (.slice o1 o4 o2) o3,.blk qg18 [.int .i64 a11] 3] v p q)) (.iface 131 (.agg #[])) r_)
theorem QdM (N:Nat)(rc:(List Bool)→(List V)→ByteArray→Int→Int→(List Qn)→(List QO)→(List QP)→(List Int)→Int→(List Ql)→Int→Int→Option ((Int×(List Ql))⊕Unit))(ih:Q9L rc):Q9L (Q3R N rc):=by
 intro bD qp1 qc2 l0 qp3 qc4 l1 a2 a3 a4 qp5 qc6 l5 qp7 qc8 l6 qp9 qc10 l7 qp11 qc12 l8 a9 aK aL b1 b2 b3 l10 aM bO a12 r_ e
 unfold Q3R at e
 refine spec_ofQ func69 Z ntmps69 Z (S:=[_,_]) Z fun C=>Q5<|ks e fun d1 e hLj_1=>?_
 unfold Q7y at e
 refine cut (σ:=Int) d1 (fun aJ=>(.inl aJ,[(1,.int .i64 a12),(0,.pointer (some ⟨bD,0,none⟩))],[.sli 1 Q1I qp1 qc2 l0,.sli 3 R_V qp3 qc4 l1,.sli 10 QB qp5 qc6 l5,.sli 4 QF qp7 qc8 l6,.sli 3 Q14 qp9 qc10 l7,.sli 1 Q3B qp11 qc12 l8],[.blk bD [.slice qp1 l0.length qc2,.slice qp3 l1.length qc4,.string a2,.int .i64 a3,.int .i64 a4,.slice qp5 l5.length qc6,.slice qp7 l6.length qc8,.slice qp9 l7.length qc10,.slice qp11 l8.length qc12,.int .i64 aJ,.func (.func 66) #[] #[.pointer (some ⟨aK,0,none⟩),.pointer (some ⟨aM,0,none⟩)]] 135,.blk aK [.func (.func 33) #[] #[.pointer (some ⟨aL,0,none⟩)]] 88,.blk aL [.slice b1 b2 b3] 31,Q23 QZ 41 2 (.slice b1 b2 b3) l10,.blk aM [.int .i64 bO] 3])) ?_ ?_
 refine sq<|wP2 Z<|nk3 14 0 1 Z ?_
 refine Qs e Z (fun e=>?_) fun e=>?_
 refine k2 0 1 Z<|sq<|wP2 Z<|wF Z Qe8<|wD 0 9 Z QV Q13 Z<|wP Z<|kg e fun d2 e=>Qi (i64_in d2)<|wP Z<|wF Z Qe8<|wS 0 9 Z QV (all':=V11 ..) Z (H':=V5 ..) Z<|nk2 0 1 Z<|sq<|wP2 Z<|wF Z Qe8<|wD 0 9 Z QV Q13 Z<|wP Z<|nk3 26 0 1 Z ?_
 refine Qs e Z (fun e=>?_) fun e=>?_
 refine k2 0 1 Z<|Qe<|Q1v Z Z Z Zq Z tZ_131 tP_131 Z (out:=[]) Z<|wl_makeIface Z Z Z Zq Z Z (by kernel_rfl)<|wl_panic Z Z Z<|Q3A ?_
 have j:=(Zi e).symm
 replace j:=Qb hLj_1 j
 subst j
 exact Qeq
 refine k2 0 1 Z<|QT ?_
 refine jM (a9 - 1) e [1,0] [0,1,2,3,4,5] Z
 refine k2 0 1 Z<|QT ?_
 refine jM a9 e [1,0] [0,1,2,3,4,5] Z
 rintro aJ j
 try dsimp only at j ⊢
 have e:=Qp hLj_1 j
 refine Q5<|sq<|wP2 Z<|wP Z<|wF Z tF_135_1<|wF Z Q6R<|wD 0 5 Z Qa1 Qaa Z<|wN Z Q4d<|wP Z<|nk3 36 1 0 Z ?_
 refine Qs e Z (fun e=>?_) fun e=>?_
 refine k1 0 Z<|Q5<|kn e fun _ d3 e=>?_
 try dsimp only at e
 refine QG [0,1,2,3,4,5,6,7,8,9,10,11,12] Z Z fun z=>xP2 z 0 Z<|xF z 2 Z tF_135_5<|xD z 3 0 10 Z tS_133 tA_133 Z<|xP2 z 4 Z<|xF z 6 Z tF_135_3<|xD z 7 0 8 Z tS_39 tA_39 Z<|xP2 z 8 Z<|xF z 10 Z Qd6<|xF z 11 Z QbN<|xD z 12 0 1 Z Q6n Q6E Z<|xS z 13 Z<|Q1B [1,2,3,4] [0] Z Z Z Zq Z Z Z fn_66 Z Z (@w_naive_all_2_s N qp11 qc12 l8 qp3 qc4 l1 aK aL b1 b2 b3 l10 aM bO d3) (asK [5,1] Z) Z (H':=[_]) Z ?_
 rintro _ _ _ ⟨cT,cU,rfl,rfl,rfl⟩
 refine Q2<|wxx 0 [] Z<|Qu z Z<|Qv<|k0 Z<|Qm<|Q3 ?_
 have j:=(Zi e).symm
 subst j
 refine re0 [4,0,1,2,3] [0,1,2,3,4,5] results69 ⟨cT,cU,(l10++[(⟨bO,l8⟩ : Ql)]).length,Z,Z,Z⟩ Z
 refine k2 1 0 Z<|kt<|sq<|wP2 Z<|wF Z tF_135_1<|wF Z Q6R<|wD 0 5 Z Qa1 Qaa Z<|wP Z<|kg e fun d4 e=>kn e fun aF d5 e=>Qbv 2 a12.toNat Z Z Z Zq Z Z Z Z (Q2K d4) d5 Q4d Q3Q fun dT dU dN dG=>Q1i Q33 1 Z fun aN d6 _=>?_
 subst d6
 refine wLd 2 0 (V10 ..) Z Q3Q Q9b Z<|QH Z Z Z Zq Z tZ_67 Z fun g4=>wS 0 0 Z Q3Q (all':=V10 ..) Z (H':=V6 ..) Z<|nk3 4 1 0 Z<|sq<|wF Z Q8H<|wD 0 0 Z QcC Qcw Z<|nk4 60 4 1 0 Z<|Qk<|sq<|wP2 Z<|nk5 117 60 4 1 0 Z ?_
 refine Qs e Z (fun e=>?_) fun e=>?_
 refine k3 4 1 0 Z<|Q5 ?_
 obtain ⟨⟨cF,bY,cG,bZ⟩,c7,e⟩:=Qy e
 try dsimp only at e
 refine wc_cut (σ:=Nat) (fun _=>True) (fun bG=>[(6,.int .i64 (bZ:Int)),(5,.pointer (some ⟨bG,0,none⟩)),(1,.int .i64 a12),(0,.pointer (some ⟨bD,0,none⟩))]) (fun bG=>[.sli 1 Q1I qp1 qc2 l0,.sli 3 R_V qp3 qc4 l1,.sli 10 QB qp5 qc6 l5,.sli 4 QF qp7 qc8 l6,.sli 3 Q14 qp9 qc10 l7,.sli 1 Q3B qp11 qc12 l8]) (fun bG=>[.blk bG [.int .u8 cF,.int .i64 bY,.string cG] 57,.blk bD [.slice qp1 l0.length qc2,.slice qp3 l1.length qc4,.string a2,.int .i64 a3,.int .i64 a4,.slice qp5 l5.length qc6,.slice qp7 l6.length qc8,.slice qp9 l7.length qc10,.slice qp11 l8.length qc12,.int .i64 aJ,.func (.func 66) #[] #[.pointer (some ⟨aK,0,none⟩),.pointer (some ⟨aM,0,none⟩)]] 135,.blk aK [.func (.func 33) #[] #[.pointer (some ⟨aL,0,none⟩)]] 88,.blk aL [.slice b1 b2 b3] 31,Q23 QZ 41 2 (.slice b1 b2 b3) l10,.blk aM [.int .i64 bO] 3]) ?_ ?_
 ·
  refine QG [0,1,2,3,4,5,6,8,9,10] Z Z fun z=>xF z 0 Z Q8I<|xM z 1 0 3 (V7 ..) Z Q1t Q3z Z<|xP2 z 2 Z<|xF z 4 Z Qd6<|xF z 5 Z QbN<|xD z 6 1 1 Z Q6n Q6E Z ?_
  refine Qa6 z 7 11 Z Z Z Z Z Z ?_ ?_
  rotate_left
  focus
   refine QH Z Z Z Zq Z Q1X Z fun g5=>Q2<|wxx 0 [2,1] Z<|xS z 7 Z<|wC [] [0,1,2,3,4,5,6] Z fn_44 Z (Qex N aF.test.kind aF.test.value.k aF.test.value.n aF.test.value.s aF.test.var aF.test.op aN.2.1 aN.2.2 aF.test.kids qp3 qc4 l1 _ _ _ _ c7) (asK [1,5] Z) Z (H':=V7 ..) Z ?_
   rintro _ _ _ ⟨rfl,rfl,rfl⟩
   refine Q2<|wxx 0 [] Z<|xP2 z 8 Z<|xP z 10 Z ?_
  rotate_right
  focus
   refine wC [] [0,1,2,3,4,5] Z fn_44 Z (Qex N aF.test.kind aF.test.value.k aF.test.value.n aF.test.value.s aF.test.var aF.test.op aN.2.1 aN.2.2 aF.test.kids qp3 qc4 l1 _ _ _ _ c7) (asK [1,5] Z) Z (H':=V6 ..) Z ?_
   rintro _ _ _ ⟨rfl,rfl,rfl⟩
   refine Q2<|wxx 0 [] Z<|xP2 z 8 Z<|xP z 10 Z<|xS z 11 Z<|QH Z Z Z Zq Z Q1X Z fun g5=>Q2<|wxx 0 [2,1] Z ?_
  all_goals
   refine xS z 12 Z<|wS 0 0 Z Qz (all':=V3 ..) Z (H':=V7 ..) Z<|Q2<|wxx 0 [] Z<|xS z 13 Z<|wP Z<|Q2<|wxx 0 [] Z<|Qu z Z<|Qo [0,2,3,4,5,6] Z (H':=V6 ..) Z ?_
   refine Qbo g5 trivial [6,5,1,0] Z (asK [4,5,6,7,8,9] Z) Z
 rintro bG _
 try dsimp only
 refine Q5<|kn e fun d7 e hLj_3=>?_
 refine cut (σ:=Bool) d7 (fun bU=>(bU,[(1,.int .i64 a12),(0,.pointer (some ⟨bD,0,none⟩)),(141,.bool bU)],[.sli 1 Q1I qp1 qc2 l0,.sli 3 R_V qp3 qc4 l1,.sli 10 QB qp5 qc6 l5,.sli 4 QF qp7 qc8 l6,.sli 3 Q14 qp9 qc10 l7,.sli 1 Q3B qp11 qc12 l8],[.blk bD [.slice qp1 l0.length qc2,.slice qp3 l1.length qc4,.string a2,.int .i64 a3,.int .i64 a4,.slice qp5 l5.length qc6,.slice qp7 l6.length qc8,.slice qp9 l7.length qc10,.slice qp11 l8.length qc12,.int .i64 aJ,.func (.func 66) #[] #[.pointer (some ⟨aK,0,none⟩),.pointer (some ⟨aM,0,none⟩)]] 135,.blk aK [.func (.func 33) #[] #[.pointer (some ⟨aL,0,none⟩)]] 88,.blk aL [.slice b1 b2 b3] 31,Q23 QZ 41 2 (.slice b1 b2 b3) l10,.blk aM [.int .i64 bO] 3])) ?_ ?_
 refine Qe<|wP2 Z<|Qi (Neq bZ 0)<|wP Z ?_
 refine QE e (fun e=>?_) fun e=>?_
 refine wF Z Qdx<|wD 0 0 Z tS_55 tA_55 Z<|wP2 Z<|wP Z ?_
 refine QE e (fun e=>?_) fun e=>?_
 refine wF Z Q2g<|wD 0 1 Z Q95 Q92 Z<|wP2 Z<|Q2<|Qo [1,2,3,4,5] Z (H':=V5 ..) Z ?_
 refine jM (bY !=0) e [1,0,141] [0,1,2,3,4,5] Z
 refine wO2 Z<|wO Z<|wP Z<|Q2<|Qo [1,2,3,4,5] Z (H':=V5 ..) Z ?_
 refine jM false e [1,0,141] [0,1,2,3,4,5] Z
 refine wO2 Z<|wO Z<|wP2 Z<|wO2 Z<|wO Z<|wP Z<|Q2<|Qo [1,2,3,4,5] Z (H':=V5 ..) Z ?_
 refine jM false e [1,0,141] [0,1,2,3,4,5] Z
 rintro bU j
 try dsimp only at j ⊢
 have e:=hLj_3
 try rw [j] at e
 refine Qs e Z (fun e=>?_) fun e=>?_
 refine k2 1 0 Z<|Qe<|wP2 Z<|wP Z<|kg e fun cV e=>Qi (i64_in cV) ?_
 obtain ⟨⟨dP,dE⟩ | _,c8,e⟩:=Qy e
 try dsimp only at e
 refine wC [0,1,2,3,4] [] Z fn_69 Z (sqL (ih bD qp1 qc2 l0 qp3 qc4 l1 a2 a3 a4 qp5 qc6 l5 qp7 qc8 l6 qp9 qc10 l7 qp11 qc12 l8 aJ aK aL b1 b2 b3 l10 aM bO (a12+1) _ c8)) (asK [0,1,2,3,4,5] Z) Z (H':=[]) Z ?_
 rintro _ _ _ ⟨cH,cI,cJ,rfl,rfl,rfl⟩
 refine Q2<|Q6 ?_
 have j:=(Zi e).symm
 subst j
 refine re0 [0,1,2,3,4] [0,1,2,3,4,5] results69 ⟨cH,cI,cJ,Z,Z,Z⟩ Z
 try dsimp only at e
 refine Qef [0,1,2,3,4] [] Z Z Z fn_69 Z (sqR (ih bD qp1 qc2 l0 qp3 qc4 l1 a2 a3 a4 qp5 qc6 l5 qp7 qc8 l6 qp9 qc10 l7 qp11 qc12 l8 aJ aK aL b1 b2 b3 l10 aM bO (a12+1) _ c8)) (asK [0,1,2,3,4,5] Z) Z (H':=[]) Z<|Q5b ?_
 have j:=(Zi e).symm
 subst j
 exact Qeq
 refine k0 Z<|QT<|Q6 ?_
 have j:=(Zi e).symm
 subst j
 refine re0 [0,1,2,3,4] [0,1,2,3,4,5] results69 ⟨b1,b3,b2,Z,Z,Z⟩ Z
 refine k4 60 4 1 0 Z<|sq<|wP2 Z<|nk4 146 4 1 0 Z ?_
 refine Qs e Z (fun e=>?_) fun e=>?_
 refine k3 4 1 0 Z<|Q5<|kn e fun dQ cW e=>QG [0,1,2,3,4,5,6,7,8,10] Z Z fun z=>xM z 0 0 0 (V10 ..) Z Q3Q Q9b Z<|xP2 z 1 Z<|xF z 3 Z Qd6<|xM z 4 1 0 [_,_] Z Q6z Q9Z Z<|xP2 z 5 Z<|xF z 7 Z tF_135_2<|xD z 8 1 7 Z tS_26 tA_26 Z<|xS z 9 Z<|c0 [] [0,1,2,3,4,5] Z fn_45 cW w_pattern_Some_s [0,1,4,5,8] (V6 ..) Z<|Q2<|wxx 0 [] Z<|xP z 10 Z<|Qu z Z<|Qv<|k3 158 1 0 Z ?_
 refine Qs e Z (fun e=>?_) fun e=>?_
 refine k2 1 0 Z<|Qe<|wP2 Z<|wP Z<|kg e fun cX e=>Qi (i64_in cX) ?_
 obtain ⟨⟨dR,dF⟩ | _,c9,e⟩:=Qy e
 try dsimp only at e
 refine wC [1,2,3,4,5] [0] Z fn_69 Z (sqL (ih bD qp1 qc2 l0 qp3 qc4 l1 a2 a3 a4 qp5 qc6 l5 qp7 qc8 l6 qp9 qc10 l7 qp11 qc12 l8 aJ aK aL b1 b2 b3 l10 aM bO (a12+1) _ c9)) (asK [4,5,6,7,8,9] Z) Z (H':=[_]) Z ?_
 rintro _ _ _ ⟨cK,cL,cM,rfl,rfl,rfl⟩
 refine Q2<|Q6 ?_
 have j:=(Zi e).symm
 subst j
 refine re0 [0,1,2,3,4] [0,1,2,3,4,5] results69 ⟨cK,cL,cM,Z,Z,Z⟩ Z
 try dsimp only at e
 refine Qef [1,2,3,4,5] [0] Z Z Z fn_69 Z (sqR (ih bD qp1 qc2 l0 qp3 qc4 l1 a2 a3 a4 qp5 qc6 l5 qp7 qc8 l6 qp9 qc10 l7 qp11 qc12 l8 aJ aK aL b1 b2 b3 l10 aM bO (a12+1) _ c9)) (asK [4,5,6,7,8,9] Z) Z (H':=[_]) Z<|Q5b ?_
 have j:=(Zi e).symm
 subst j
 exact Qeq
 refine k0 Z<|QT<|Q6 ?_
 have j:=(Zi e).symm
 subst j
 refine re0 [1,2,3,4,5] [4,5,6,7,8,9] results69 ⟨b1,b3,b2,Z,Z,Z⟩ Z
 refine k3 4 1 0 Z<|Q5<|QG [0,1,2,3,4,5,6,7] Z Z fun z=>xP2 z 0 Z<|xF z 2 Z Qd6<|xM z 3 1 0 [_,_] Z Q6z Q9Z Z<|xP2 z 4 Z<|xF z 6 Z tF_135_3<|xD z 7 1 8 Z tS_39 tA_39 Z<|xS z 8 Z<|QH Z Z Z Zq Z QbQ Z fun g7=>Q2<|wxx 0 [2,2] Z<|xS z 9 Z<|wS 0 0 Z Q6z (all':=[_,_]) Z (H':=V7 ..) Z<|Q2<|wxx 0 [2] Z<|xS z 10 Z<|wP Z<|Q2<|wxx 0 [] Z<|Qu z Z<|Qv<|k5 8 7 4 1 0 Z ?_
 refine Q5<|ks e fun d8 e hLj_4=>?_
 refine cut (σ:=(List Bool)×(List V)×(List Int)×Int×(List Ql)×OA×Nat×OA×Nat×OA×Nat×OA×Nat×Nat) d8 (fun (b4,b5,b6,bP,aI,bH,bI,bJ,bK,bL,bM,a7,a8,aA)=>(.inl (b4,b5,b6,bP,aI),[(8,.slice qp11 l8.length qc12),(7,.pointer (some ⟨g7,0,none⟩)),(0,.pointer (some ⟨bD,0,none⟩))],[.sli 1 Q3B qp11 qc12 l8,.sli 1 Q1I qp1 qc2 l0,.sli 3 R_V qp3 qc4 l1,.sli 1 Q1I bH bI b4,.sli 3 R_V bJ bK b5,.sli 10 QB qp5 qc6 l5,.sli 4 QF qp7 qc8 l6,.sli 3 Q14 qp9 qc10 l7,.sli 1 Q3B bL bM b6],[.blk g7 [.slice qp1 l0.length qc2,.slice qp3 l1.length qc4] 100,.blk bD [.slice bH b4.length bI,.slice bJ b5.length bK,.string a2,.int .i64 a3,.int .i64 a4,.slice qp5 l5.length qc6,.slice qp7 l6.length qc8,.slice qp9 l7.length qc10,.slice bL b6.length bM,.int .i64 bP,.func (.func 66) #[] #[.pointer (some ⟨aK,0,none⟩),.pointer (some ⟨aM,0,none⟩)]] 135,.blk aK [.func (.func 33) #[] #[.pointer (some ⟨aL,0,none⟩)]] 88,.blk aL [.slice a7 aA a8] 31,Q23 QZ 41 2 (.slice a7 aA a8) aI,.blk aM [.int .i64 bO] 3])) ?_ ?_
 refine sq<|wP2 Z<|wF Z tF_135_2<|wD 2 7 Z tS_26 tA_26 Z<|wN Z Q4N<|wP Z<|nk8 74 73 72 8 7 4 1 0 Z<|Qk<|lop (σ:=Nat×(List Bool)×(List V)×(List Int)×Int×(List Ql)×OA×Nat×OA×Nat×OA×Nat×OA×Nat×Nat) (Q2t N l7 aF l0 l1 l8 a12 rc a2 a3 a4 l5 l6 bO) (fun (bE,aO,aP,aQ,aR,a6,aV,aW,aX,aY,aZ,b0,a0,a1,a5)=>((bE,aO,aP,aQ,aR,a6),[(74,.int .i64 (bE:Int)),(73,.int .i64 (l7.length:Int)),(72,.slice qp9 l7.length qc10),(8,.slice qp11 l8.length qc12),(7,.pointer (some ⟨g7,0,none⟩)),(4,.pointer (some ⟨g4,0,none⟩)),(1,.int .i64 a12),(0,.pointer (some ⟨bD,0,none⟩))],[.sli 3 Q14 qp9 qc10 l7,.sli 1 Q3B qp11 qc12 l8,.sli 1 Q1I qp1 qc2 l0,.sli 3 R_V qp3 qc4 l1,.sli 5 Q1p aN.1.1 aN.1.2 aF.args,.sli 7 Qj aN.2.1 aN.2.2 aF.test.kids,.sli 1 Q1I aV aW aO,.sli 3 R_V aX aY aP,.sli 10 QB qp5 qc6 l5,.sli 4 QF qp7 qc8 l6,.sli 1 Q3B aZ b0 aQ],[.blk g7 [.slice qp1 l0.length qc2,.slice qp3 l1.length qc4] 100,.blk g4 [.int .u8 (aF.kind),.int .i64 (aF.type),.slice aN.1.1 aF.args.length aN.1.2,.int .u8 (aF.test.kind),.int .u8 (aF.test.value.k),.int .i64 (aF.test.value.n),.string aF.test.value.s,.int .i64 (aF.test.var),.int .u8 (aF.test.op),.slice aN.2.1 aF.test.kids.length aN.2.2] 67,.blk bD [.slice aV aO.length aW,.slice aX aP.length aY,.string a2,.int .i64 a3,.int .i64 a4,.slice qp5 l5.length qc6,.slice qp7 l6.length qc8,.slice qp9 l7.length qc10,.slice aZ aQ.length b0,.int .i64 aR,.func (.func 66) #[] #[.pointer (some ⟨aK,0,none⟩),.pointer (some ⟨aM,0,none⟩)]] 135,.blk aK [.func (.func 33) #[] #[.pointer (some ⟨aL,0,none⟩)]] 88,.blk aL [.slice a0 a5 a1] 31,Q23 QZ 41 2 (.slice a0 a5 a1) a6,.blk aM [.int .i64 bO] 3])) (0,l0,l1,l8,aJ,l10,qp1,qc2,qp3,qc4,qp11,qc12,b1,b3,b2) e [74,73,72,8,7,4,1,0] [8,9,4,5,0,1,4,5,6,7,9] Z fun s_ dV dW e hLu1=>?_
 obtain ⟨bE,aO,aP,aQ,aR,a6,aV,aW,aX,aY,aZ,b0,a0,a1,a5⟩:=s_
 unfold Q2t at e
 try dsimp only at e ⊢
 refine sq<|wP Z<|Qi (Nlt bE l7.length)<|nt<|Q5 ?_
 refine Qs e Z (fun e=>?_) fun e=>?_
 refine k8 74 73 72 8 7 4 1 0 Z<|kt<|Q5<|ks e fun d9 e hLj_5=>?_
 unfold Q66 at e
 refine cut (σ:=(List Bool)×(List V)×(List Int)×Int×(List Ql)×OA×Nat×OA×Nat×OA×Nat×OA×Nat×Nat) d9 (fun (aS,aT,aU,bN,aB,b7,b8,b9,bA,bB,bC,aC,aD,aE)=>(.inl (aS,aT,aU,bN,aB),[(74,.int .i64 (bE:Int)),(73,.int .i64 (l7.length:Int)),(72,.slice qp9 l7.length qc10),(8,.slice qp11 l8.length qc12),(7,.pointer (some ⟨g7,0,none⟩)),(4,.pointer (some ⟨g4,0,none⟩)),(1,.int .i64 a12),(0,.pointer (some ⟨bD,0,none⟩))],[.sli 3 Q14 qp9 qc10 l7,.sli 1 Q3B qp11 qc12 l8,.sli 1 Q1I qp1 qc2 l0,.sli 3 R_V qp3 qc4 l1,.sli 5 Q1p aN.1.1 aN.1.2 aF.args,.sli 7 Qj aN.2.1 aN.2.2 aF.test.kids,.sli 1 Q1I b7 b8 aS,.sli 3 R_V b9 bA aT,.sli 10 QB qp5 qc6 l5,.sli 4 QF qp7 qc8 l6,.sli 1 Q3B bB bC aU],[.blk g7 [.slice qp1 l0.length qc2,.slice qp3 l1.length qc4] 100,.blk g4 [.int .u8 (aF.kind),.int .i64 (aF.type),.slice aN.1.1 aF.args.length aN.1.2,.int .u8 (aF.test.kind),.int .u8 (aF.test.value.k),.int .i64 (aF.test.value.n),.string aF.test.value.s,.int .i64 (aF.test.var),.int .u8 (aF.test.op),.slice aN.2.1 aF.test.kids.length aN.2.2] 67,.blk bD [.slice b7 aS.length b8,.slice b9 aT.length bA,.string a2,.int .i64 a3,.int .i64 a4,.slice qp5 l5.length qc6,.slice qp7 l6.length qc8,.slice qp9 l7.length qc10,.slice bB aU.length bC,.int .i64 bN,.func (.func 66) #[] #[.pointer (some ⟨aK,0,none⟩),.pointer (some ⟨aM,0,none⟩)]] 135,.blk aK [.func (.func 33) #[] #[.pointer (some ⟨aL,0,none⟩)]] 88,.blk aL [.slice aC aE aD] 31,Q23 QZ 41 2 (.slice aC aE aD) aB,.blk aM [.int .i64 bO] 3])) ?_ ?_
 refine Qk<|sq<|kn e fun bX dA e=>wI 0 bE Z dA Q4N Q4l fun dX dY dS dH=>Q1i Q40 1 Z fun dZ dB _=>?_
 subst dB
 refine wLd 1 0 (V3 ..) Z Q4l Qab Z<|QH Z Z Z Zq Z tZ_71 Z fun e0=>wS 0 0 Z Q4l (all':=V3 ..) Z (H':=V8 ..) Z<|nk9 10 74 73 72 8 7 4 1 0 Z<|sq<|wM 2 0 (V10 ..) Z Q3Q Q9b Z<|wM 0 0 (V3 ..) Z Q4l Qab Z<|wM 1 0 [_,_] Z Q6z Q9Z Z ?_
 obtain ⟨⟨bV,bW,dI⟩,dC,e⟩:=Qy e
 try dsimp only at e
 refine c6 [] [0,1,2,3,4,5,6,7] Z fn_49 dC QcD [7,8,0,5,6] (V8 ..) Z fun bQ bR cA bS bT cB=>wP2 Z<|wP Z<|QH Z Z Z Zq Z QbQ Z fun e1=>wS 0 0 Z Q6z (all':=[_,_]) Z (H':=V11 ..) Z<|wP Z<|nk11 12 11 10 74 73 72 8 7 4 1 0 Z<|Q5<|sq<|wP2 Z<|nk11 86 11 10 74 73 72 8 7 4 1 0 Z ?_
 refine Qs e Z (fun e=>?_) fun e=>?_
 refine k8 74 73 72 8 7 4 1 0 Z<|QQ<|Q7<|Qq<|Qo [4,5,6,7,8,9,10] Z (H':=V7 ..) Z ?_
 refine jM (aO,aP,aQ,aR,a6,aV,aW,aX,aY,aZ,b0,a0,a1,a5) e [74,73,72,8,7,4,1,0] [3,4,5,6,7,8,9,10,11,12,13] Z
 refine k10 11 10 74 73 72 8 7 4 1 0 Z<|kt<|Q5<|kg e fun c5 e=>kg e fun cS e=>?_
 refine wc_cut (σ:=OA×Nat) (fun _=>True) (fun (aG,aH)=>[(74,.int .i64 (bE:Int)),(73,.int .i64 (l7.length:Int)),(72,.slice qp9 l7.length qc10),(8,.slice qp11 l8.length qc12),(7,.pointer (some ⟨g7,0,none⟩)),(4,.pointer (some ⟨g4,0,none⟩)),(1,.int .i64 a12),(0,.pointer (some ⟨bD,0,none⟩))]) (fun (aG,aH)=>[.sli 3 Q14 qp9 qc10 l7,.sli 1 Q3B qp11 qc12 l8,.sli 1 Q1I qp1 qc2 l0,.sli 3 R_V qp3 qc4 l1,.sli 5 Q1p aN.1.1 aN.1.2 aF.args,.sli 7 Qj aN.2.1 aN.2.2 aF.test.kids,.sli 10 QB qp5 qc6 l5,.sli 4 QF qp7 qc8 l6]) (fun (aG,aH)=>[.blk g7 [.slice qp1 l0.length qc2,.slice qp3 l1.length qc4] 100,.blk g4 [.int .u8 (aF.kind),.int .i64 (aF.type),.slice aN.1.1 aF.args.length aN.1.2,.int .u8 (aF.test.kind),.int .u8 (aF.test.value.k),.int .i64 (aF.test.value.n),.string aF.test.value.s,.int .i64 (aF.test.var),.int .u8 (aF.test.op),.slice aN.2.1 aF.test.kids.length aN.2.2] 67,.blk bD [.slice bQ cA bR,.slice bS cB bT,.string a2,.int .i64 a3,.int .i64 a4,.slice qp5 l5.length qc6,.slice qp7 l6.length qc8,.slice qp9 l7.length qc10,.slice aG (((l8.take l8.length)++[bX.id]).length) aH,.int .i64 aR,.func (.func 66) #[] #[.pointer (some ⟨aK,0,none⟩),.pointer (some ⟨aM,0,none⟩)]] 135,.own 4 1 Q1I (.slice bQ cA bR) bV,.own 57 3 R_V (.slice bS cB bT) bW,.own 3 1 Q3B (.slice aG (((l8.take l8.length)++[bX.id]).length) aH) ((l8.take l8.length)++[bX.id]),.blk aK [.func (.func 33) #[] #[.pointer (some ⟨aL,0,none⟩)]] 88,.blk aL [.slice a0 a5 a1] 31,Q23 QZ 41 2 (.slice a0 a5 a1) a6,.blk aM [.int .i64 bO] 3]) ?_ ?_
 ·
  refine QG [0,1,2,3,4,5,6,7,9,10,13,14,16,17] Z Z fun z=>xP2 z 0 Z<|xM z 2 0 0 [_,_] Z Q6z Q9Z Z<|xP2 z 3 Z<|xN z 5 Z Q8s<|xP z 6 Z<|xN z 7 Z Q8s<|xF z 9 Z Q3X<|xD z 10 3 0 Z QV Q13 Z ?_
  refine Qa6 z 8 11 Z Z Z Z Z Z ?_ ?_
  rotate_left
  focus
   refine QR Z Z Z Zq Z Q8s QV tZ_3 Z (zs:=[.int .i64 0]) (by kernel_rfl) Z (out:=[_]) Z fun dJ=>Q2<|wxx 0 [1] Z<|xS z 8 Z<|wl_sliTo3 4 Z Z Z Zq Z Z Z Z Z Z Z Q8s QV c5.1 c5.2 fun dK=>Q2<|wxx 1 [4,1] Z ?_
  rotate_right
  focus
   refine wl_sliTo3 4 Z Z Z Zq Z Z Z Z Z Z Z Q8s QV c5.1 c5.2 fun dK=>Q2<|wxx 1 [3,0] Z<|xS z 11 Z<|QR Z Z Z Zq Z Q8s QV tZ_3 Z (zs:=[.int .i64 0]) (by kernel_rfl) Z (out:=[_]) Z fun dJ=>Q2<|wxx 0 [1] Z ?_
  all_goals
   refine xS z 12 Z<|wl_appendF [bX.id] 0 0 Z Z Z Zq Z Z Z (by simp) Z Z (fun F w hφ=>⟨[.int .i64 (bX.id)],[],Z,Z,⟨(),Z,Q16⟩,Z⟩) (by simp) Q8s tR_3 Z Z (Nat.le_trans cS (by decide)) (Nat.le_trans (Nat.mul_le_mul_right _ cS) (by decide)) fun dL dM=>Q4K 1 Z (H':=V12 ..) Z<|Q2<|wxx 0 [4,1] Z<|xP z 13 Z<|xF z 14 Z Qd6<|xS z 15 Z<|wS 7 0 Z Q6z (all':=V11 ..) Z (H':=V12 ..) Z<|Q2<|wxx 0 [4] Z<|xP z 16 Z<|xF z 17 Z tF_135_3<|xS z 18 Z<|wS 7 8 Z tS_39 (all':=V11 ..) Z (H':=V12 ..) Z<|Q2<|wxx 0 [] Z<|Qu z Z<|Qo [5,6,7,2,3,0,8,9,10,11] Z (H':=V10 ..) Z ?_
   refine Qbo (dL,dM) trivial [74,73,72,8,7,4,1,0] Z (asK [4,5,6,7,8,9,12,13] Z) Z
 rintro ⟨aG,aH⟩ _
 try dsimp only
 refine Qe<|wP2 Z<|wP Z<|kg e fun cY e=>Qi (i64_in cY)<|Q1Z 3 Z fun cC _=>?_
 subst cC
 refine Q6p 3 Z (H':=V9 ..) Z<|Q2q (.sli 1 Q1I bQ bR bV) (fun F w hφ=>Q3g (hφ _ (Q1f (k:=0) Z)))<|Q1Z 3 Z fun cD _=>?_
 subst cD
 refine Q6p 3 Z (H':=V8 ..) Z<|Q2q (.sli 3 R_V bS bT bW) (fun F w hφ=>Q3g (hφ _ (Q1f (k:=0) Z)))<|Q6p 3 Z (H':=V7 ..) Z<|Q2q (.sli 1 Q3B aG aH ((l8.take l8.length)++[bX.id])) (fun F w hφ=>Q3g (hφ _ (Q1f (k:=0) Z))) ?_
 obtain ⟨⟨dD,cN⟩ | _,cE,e⟩:=Qy e
 try dsimp only at e
 refine wC [2,3,4,5,6] [0,1] Z fn_69 Z (sqL (ih bD bQ bR bV bS bT bW a2 a3 a4 qp5 qc6 l5 qp7 qc8 l6 qp9 qc10 l7 aG aH ((l8.take l8.length)++[bX.id]) aR aK aL a0 a5 a1 a6 aM bO (a12+1) _ cE)) (asK [4,2,12,13,6,0] Z) Z (H':=[_,_]) Z ?_
 rintro _ _ _ ⟨cO,cP,cQ,rfl,rfl,rfl⟩
 refine Q2<|Q6<|Qo [5,6,0,1,2,3,4] Z (H':=V7 ..) Z ?_
 refine jM (bV,bW,(l8.take l8.length)++[bX.id],dD,cN,bQ,bR,bS,bT,aG,aH,cO,cP,cQ) e [74,73,72,8,7,4,1,0] [4,13,14,15,16,17,0,1,2,3,5] Z
 try dsimp only at e
 refine Qef [2,3,4,5,6] [0,1] Z Z Z fn_69 Z (sqR (ih bD bQ bR bV bS bT bW a2 a3 a4 qp5 qc6 l5 qp7 qc8 l6 qp9 qc10 l7 aG aH ((l8.take l8.length)++[bX.id]) aR aK aL a0 a5 a1 a6 aM bO (a12+1) _ cE)) (asK [4,2,12,13,6,0] Z) Z (H':=[_,_]) Z<|Q5b<|Q3A<|Q3A<|Q5b<|Q3A<|Q5b ?_
 have j:=(Zi e).symm
 replace j:=Qb hLj_5 j
 replace j:=Qb hLu1 j
 replace j:=Qb hLj_4 j
 subst j
 exact Qeq
 rintro ⟨aS,aT,aU,bN,aB,b7,b8,b9,bA,bB,bC,aC,aD,aE⟩ j
 try dsimp only at j ⊢
 have e:=Qp hLj_5 j
 try dsimp only at e
 refine Qe<|wP Z<|kg e fun cZ e=>Qi (QD (a:=bE) (b:=1) cZ)<|Qx (S':=V8 ..) Z Z Z Z Z<|Q2 ?_
 refine rnd (bE+1,aS,aT,aU,bN,aB,b7,b8,b9,bA,bB,bC,aC,aD,aE) (Qp hLu1 (zs e)) [74,73,72,8,7,4,1,0] [0,1,2,3,4,5,6,7,8,9,10] Z
 refine k3 8 7 0 Z<|QQ<|Q7<|Q7<|Qq<|Qo [0,2,3,4,5,6] Z (H':=V6 ..) Z ?_
 refine jn (aO,aP,aQ,aR,a6,aV,aW,aX,aY,aZ,b0,a0,a1,a5) (Qb hLu1 (zs e)) [8,7,0] [1,2,3,6,7,8,9,0,10] Z
 rintro ⟨b4,b5,b6,bP,aI,bH,bI,bJ,bK,bL,bM,a7,a8,aA⟩ j
 try dsimp only at j ⊢
 have e:=Qp hLj_4 j
 try dsimp only at e
 refine Qe<|wP2 Z<|wM 0 0 [_,_] Z Q6z Q9Z Z<|wP2 Z<|wF Z Qd6<|wS 1 0 Z Q6z (all':=V11 ..) Z (H':=V6 ..) Z<|wP Z<|wF Z tF_135_3<|wS 1 8 Z tS_39 (all':=V11 ..) Z (H':=V6 ..) Z<|Q2<|Q6 ?_
 have j:=(Zi e).symm
 subst j
 refine re0 [1,2,3,4,5] [1,2,5,6,7,0] results69 ⟨a7,a8,aA,Z,Z,Z⟩ Z
theorem Q7P : ∀ (N:Nat),Q9L (Q35 N):=by
 intro N
 induction N with
 | zero=>intro qg0 qp1 qc2 l0 qp3 qc4 l1 a2 a3 a4 qp5 qc6 l5 qp7 qc8 l6 qp9 qc10 l7 qp11 qc12 l8 a9 qg13 qg14 qp15 qn16 qc17 l10 qg18 a11 a12 r_ e;cases e
 | succ N ih=>exact QdM N (Q35 N) ih
theorem w_naive_all_s0 {N qc1 qc3 qc5 aF qn8 qc9:Nat} {qp0 qp2 qp4 qp7:OA} {l0:List Q8} {l1:List Qf} {l2:List QP} {l3:List Ql} (e:Q8Q N l0 l1 l2 l3=some (.inl ())):QY prog 32 [.agg #[.slice qp0 l0.length qc1,.slice qp2 l1.length qc3],.slice qp4 l2.length qc5,.func (.func 33) #[] #[.pointer (some ⟨aF,0,none⟩)]] [.sli 2 Qd qp0 qc1 l0,.sli 5 Qh qp2 qc3 l1,.sli 3 Q14 qp4 qc5 l2] [.blk aF [.slice qp7 qn8 qc9] 31,Q23 QZ 41 2 (.slice qp7 qn8 qc9) l3] (R0 (.int .i64 204) [] []):=by
 unfold Q8Q at e
 refine spec_ofD func32 Z ntmps32 Z (S:=V3 ..) Z fun C=>sq<|wB Z fun g3=>wB Z fun g5=>QH Z Z Z Zq Z tZ_32 Z fun g6=>nk4 6 5 3 1 Z<|sq<|Q26 Z Z Z Zq Z Z<|wl_defer Z Z Z Z<|nk4 6 5 3 1 Z<|sq<|wP Z<|nt<|Q5<|ks e fun aT e hLj_1=>?_
 refine cut (σ:=(List Ql)×OA×Nat×Nat) aT (fun (a7,a8,a9,aA)=>(.inl a7,[(6,.pointer (some ⟨g6,0,none⟩))],[],[.blk g6 [.int .i64 0] 32,.blk aF [.slice a8 aA a9] 31,Q23 QZ 41 2 (.slice a8 aA a9) a7])) ?_ ?_
 refine sq<|wF Z Q5Z<|wD 2 1 Z Q9o Q9C Z<|wN Z Q3e<|wP Z<|nk7 15 14 13 7 6 5 1 Z<|Qk<|wc_pick [0,1,3,4] Z (H':=V4 ..) Z<|lop (σ:=Nat×Int×(List Ql)×OA×Nat×Nat) (Q4S N l1 l2) (fun (aB,aD,a0,a1,a5,a6)=>((aB,aD,a0),[(15,.int .i64 (aB:Int)),(14,.int .i64 (l1.length:Int)),(13,.slice qp2 l1.length qc3),(7,.int .i64 aD),(6,.pointer (some ⟨g6,0,none⟩)),(5,.pointer (some ⟨g5,0,none⟩)),(1,.slice qp4 l2.length qc5)],[.sli 5 Qh qp2 qc3 l1,.sli 3 Q14 qp4 qc5 l2],[.blk g6 [.int .i64 0] 32,.blk g5 [.func (.func 33) #[] #[.pointer (some ⟨aF,0,none⟩)]] 88,.blk aF [.slice a1 a6 a5] 31,Q23 QZ 41 2 (.slice a1 a6 a5) a0])) (0,4096,l3,qp7,qc9,qn8) e [15,14,13,7,6,5,1] [1,2] Z fun s_ b7 b8 e hLu1=>?_
 obtain ⟨aB,aD,a0,a1,a5,a6⟩:=s_
 unfold Q4S at e
 try dsimp only at e ⊢
 refine sq<|wP Z<|Qi (Nlt aB l1.length)<|nt<|Q5 ?_
 refine Qs e Z (fun e=>?_) fun e=>?_
 refine k7 15 14 13 7 6 5 1 Z<|kt<|Q5<|Qk<|sq<|wP Z<|kn e fun aC aU e=>wI 0 aB Z aU Q3e Q2X fun b9 bA b5 b1=>Q1i Q1T 1 Z fun aE aV _=>?_
 subst aV
 refine wLd 2 0 (V5 ..) Z Q2X Q8U Z<|QH Z Z Z Zq Z tZ_3 Z fun g8=>QH Z Z Z Zq Z tZ_52 Z fun g9=>wS 1 0 Z QV (all':=[_]) Z (H':=V6 ..) Z<|wS 0 0 Z Q2X (all':=V5 ..) Z (H':=V6 ..) Z<|nk9 9 8 15 14 13 7 6 5 1 Z<|Q5 ?_
 obtain ⟨⟨aG,aH⟩,aW,e⟩:=Qy e
 try dsimp only at e
 refine QG [0,1,3,4,5,6] Z Z fun z=>xF z 0 Z Qcx<|xD z 1 0 2 Z QV Q13 Z<|xM z 3 0 0 (V5 ..) Z Q2X Q8U Z<|xP2 z 4 Z<|xS z 2 Z<|c6 [] [0,1,2,3,4,5] Z fn_43 aW QdK [] (V6 ..) Z fun aI aJ b2 aK aL b3=>Q2<|wxx 0 [2] Z<|QaN z 6 Z Z Z Zq Z Z tZ_135 tP_135 Z (out:=V11 ..) Z<|xS z 7 Z<|wB Z fun aX=>Q2<|wxx 0 [3,3] Z<|xS z 8 Z<|wP Z<|Q2<|wxx 0 [] Z<|Qu z Z<|Qv<|k8 10 8 15 14 13 6 5 1 Z<|sq<|wP Z<|Q26 Z Z Z Zq Z Z ?_
 refine wP Z<|wF Z tF_135_5<|wS 0 10 Z tS_133 (all':=V11 ..) Z (H':=V9 ..) Z<|nk7 10 15 14 13 6 5 1 Z<|sq<|wP Z<|Q1Z 1 Z fun aM _=>?_
 subst aM
 refine Q6p 1 Z (H':=V8 ..) Z<|Q2q (.sli 1 Q1I aI aJ aG) (fun F w hφ=>Q3g (hφ _ (Q1f (k:=0) Z)))<|Q1Z 1 Z fun aN _=>?_
 subst aN
 refine Q6p 1 Z (H':=V7 ..) Z<|Q2q (.sli 3 R_V aK aL aH) (fun F w hφ=>Q3g (hφ _ (Q1f (k:=0) Z)))<|Q2q (.sli 1 Q3B none 0 ([] : List Int)) (fun _ _ _=>Q2n) ?_
 obtain ⟨⟨b4,aP⟩ | _,aO,e⟩:=Qy e
 try dsimp only at e
 refine wC [0,4,5,6,2] [1,3] Z fn_69 Z (sqL (Q7P N aX aI aJ aG aK aL aH aC.name aC.salience aC.vars aE.1.1 aE.1.2 aC.conds aE.2.1 aE.2.2 aC.acts qp4 qc5 l2 none 0 ([] : List Int) aD g5 aF a1 a6 a5 a0 g8 (aB:Int) 0 _ aO)) (asK [3,1,5,6,10,0] Z) Z (H':=[_,_]) Z ?_
 rintro _ _ _ ⟨aQ,aR,aS,rfl,rfl,rfl⟩
 refine nk7 10 15 14 13 6 5 1 Z<|Qe<|wP2 Z<|wF Z Qe8<|wD 0 9 Z QV Q13 Z<|wP Z<|Q2<|Q6<|Qv<|k7 7 15 14 13 6 5 1 Z<|Qe<|wP Z<|kg e fun aY e=>Qi (QD (a:=aB) (b:=1) aY)<|Qx (S':=V7 ..) Z Z Z Z Z<|Q2<|Qo [6,1,2,3] Z (H':=V4 ..) Z ?_
 refine rnd (aB+1,b4,aP,aQ,aR,aS) (Qp hLu1 (zs e)) [15,14,13,7,6,5,1] [15,4] Z
 try dsimp only at e
 refine Qef [0,4,5,6,2] [1,3] Z Z Z fn_69 Z (sqR (Q7P N aX aI aJ aG aK aL aH aC.name aC.salience aC.vars aE.1.1 aE.1.2 aC.conds aE.2.1 aE.2.2 aC.acts qp4 qc5 l2 none 0 ([] : List Int) aD g5 aF a1 a6 a5 a0 g8 (aB:Int) 0 _ aO)) (asK [3,1,5,6,10,0] Z) Z (H':=[_,_]) Z<|Q3A<|Q5b<|Q3A<|Q3A<|Q5b<|Q3A<|we_recover fn_65 (recovers_65 _) (H':=[_,_]) (fun w hw=>⟨_,⟨hw.blk1 1 Z,Z⟩,hw.store (k:=1) 0 Z (by decide) Z Z⟩) ?_
 have j:=(Zi e).symm
 replace j:=Qb hLu1 j
 replace j:=Qb hLj_1 j
 replace j:=Sum.inl.inj j
 refine Q2p (Hr:=[]) [] results32 (QU 1 Z Z tS_32 tA_32 Z Z) ⟨Z,Z,Z⟩ (asK [] Z) Z Z (.inl Z)
 refine k1 6 Z<|QQ<|Q7<|Q7<|Qq<|Qo [0,2,3] Z (H':=V3 ..) Z ?_
 refine jn (a0,a1,a5,a6) (Qb hLu1 (zs e)) [6] [] Z
 ·
  rintro ⟨a7,a8,a9,aA⟩ j
  try dsimp only at j ⊢
  have e:=Qp hLj_1 j
  refine sq<|wS 0 0 Z tS_32 (all':=[_]) Z (H':=V3 ..) Z<|nr<|we_idle fn_65 (idle_65 _) (.inl Z) ?_
  cases zs e
theorem w_naive_all_s1 {N qc1 qc3 qc5 aD qn8 qc9:Nat} {qp0 qp2 qp4 qp7:OA} {l0:List Q8} {l1:List Qf} {l2:List QP} {l3 o2:List Ql} (e:Q8Q N l0 l1 l2 l3=some (.inr o2)):QY prog 32 [.agg #[.slice qp0 l0.length qc1,.slice qp2 l1.length qc3],.slice qp4 l2.length qc5,.func (.func 33) #[] #[.pointer (some ⟨aD,0,none⟩)]] [.sli 2 Qd qp0 qc1 l0,.sli 5 Qh qp2 qc3 l1,.sli 3 Q14 qp4 qc5 l2] [.blk aD [.slice qp7 qn8 qc9] 31,Q23 QZ 41 2 (.slice qp7 qn8 qc9) l3] (fun v p q=>∃ o0 o1 o3,R0 (.int .i64 0) [] [.blk aD [.slice o0 o3 o1] 31,Q23 QZ 41 2 (.slice o0 o3 o1) o2] v p q):=by
 unfold Q8Q at e
 refine spec_ofD func32 Z ntmps32 Z (S:=V3 ..) Z fun C=>sq<|wB Z fun g3=>wB Z fun g5=>QH Z Z Z Zq Z tZ_32 Z fun g6=>nk4 6 5 3 1 Z<|sq<|Q26 Z Z Z Zq Z Z<|wl_defer Z Z Z Z<|nk4 6 5 3 1 Z<|sq<|wP Z<|nt<|Q5<|ks e fun aT e hLj_1=>?_
 refine cut (σ:=(List Ql)×OA×Nat×Nat) aT (fun (aA,a7,a8,a9)=>(.inl aA,[(6,.pointer (some ⟨g6,0,none⟩))],[],[.blk g6 [.int .i64 0] 32,.blk aD [.slice a7 a9 a8] 31,Q23 QZ 41 2 (.slice a7 a9 a8) aA])) ?_ ?_
 refine sq<|wF Z Q5Z<|wD 2 1 Z Q9o Q9C Z<|wN Z Q3e<|wP Z<|nk7 15 14 13 7 6 5 1 Z<|Qk<|wc_pick [0,1,3,4] Z (H':=V4 ..) Z<|lop (σ:=Nat×Int×(List Ql)×OA×Nat×Nat) (Q4S N l1 l2) (fun (aB,aE,a0,a1,a5,a6)=>((aB,aE,a0),[(15,.int .i64 (aB:Int)),(14,.int .i64 (l1.length:Int)),(13,.slice qp2 l1.length qc3),(7,.int .i64 aE),(6,.pointer (some ⟨g6,0,none⟩)),(5,.pointer (some ⟨g5,0,none⟩)),(1,.slice qp4 l2.length qc5)],[.sli 5 Qh qp2 qc3 l1,.sli 3 Q14 qp4 qc5 l2],[.blk g6 [.int .i64 0] 32,.blk g5 [.func (.func 33) #[] #[.pointer (some ⟨aD,0,none⟩)]] 88,.blk aD [.slice a1 a6 a5] 31,Q23 QZ 41 2 (.slice a1 a6 a5) a0])) (0,4096,l3,qp7,qc9,qn8) e [15,14,13,7,6,5,1] [1,2] Z fun s_ b7 b8 e hLu1=>?_
 obtain ⟨aB,aE,a0,a1,a5,a6⟩:=s_
 unfold Q4S at e
 try dsimp only at e ⊢
 refine sq<|wP Z<|Qi (Nlt aB l1.length)<|nt<|Q5 ?_
 refine Qs e Z (fun e=>?_) fun e=>?_
 refine k7 15 14 13 7 6 5 1 Z<|kt<|Q5<|Qk<|sq<|wP Z<|kn e fun aC aU e=>wI 0 aB Z aU Q3e Q2X fun b9 bA b5 b1=>Q1i Q1T 1 Z fun aF aV _=>?_
 subst aV
 refine wLd 2 0 (V5 ..) Z Q2X Q8U Z<|QH Z Z Z Zq Z tZ_3 Z fun g8=>QH Z Z Z Zq Z tZ_52 Z fun g9=>wS 1 0 Z QV (all':=[_]) Z (H':=V6 ..) Z<|wS 0 0 Z Q2X (all':=V5 ..) Z (H':=V6 ..) Z<|nk9 9 8 15 14 13 7 6 5 1 Z<|Q5 ?_
 obtain ⟨⟨aG,aH⟩,aW,e⟩:=Qy e
 try dsimp only at e
 refine QG [0,1,3,4,5,6] Z Z fun z=>xF z 0 Z Qcx<|xD z 1 0 2 Z QV Q13 Z<|xM z 3 0 0 (V5 ..) Z Q2X Q8U Z<|xP2 z 4 Z<|xS z 2 Z<|c6 [] [0,1,2,3,4,5] Z fn_43 aW QdK [] (V6 ..) Z fun aI aJ b2 aK aL b3=>Q2<|wxx 0 [2] Z<|QaN z 6 Z Z Z Zq Z Z tZ_135 tP_135 Z (out:=V11 ..) Z<|xS z 7 Z<|wB Z fun aX=>Q2<|wxx 0 [3,3] Z<|xS z 8 Z<|wP Z<|Q2<|wxx 0 [] Z<|Qu z Z<|Qv<|k8 10 8 15 14 13 6 5 1 Z<|sq<|wP Z<|Q26 Z Z Z Zq Z Z ?_
 refine wP Z<|wF Z tF_135_5<|wS 0 10 Z tS_133 (all':=V11 ..) Z (H':=V9 ..) Z<|nk7 10 15 14 13 6 5 1 Z<|sq<|wP Z<|Q1Z 1 Z fun aM _=>?_
 subst aM
 refine Q6p 1 Z (H':=V8 ..) Z<|Q2q (.sli 1 Q1I aI aJ aG) (fun F w hφ=>Q3g (hφ _ (Q1f (k:=0) Z)))<|Q1Z 1 Z fun aN _=>?_
 subst aN
 refine Q6p 1 Z (H':=V7 ..) Z<|Q2q (.sli 3 R_V aK aL aH) (fun F w hφ=>Q3g (hφ _ (Q1f (k:=0) Z)))<|Q2q (.sli 1 Q3B none 0 ([] : List Int)) (fun _ _ _=>Q2n) ?_
 obtain ⟨⟨b4,aP⟩ | _,aO,e⟩:=Qy e
 try dsimp only at e
 refine wC [0,4,5,6,2] [1,3] Z fn_69 Z (sqL (Q7P N aX aI aJ aG aK aL aH aC.name aC.salience aC.vars aF.1.1 aF.1.2 aC.conds aF.2.1 aF.2.2 aC.acts qp4 qc5 l2 none 0 ([] : List Int) aE g5 aD a1 a6 a5 a0 g8 (aB:Int) 0 _ aO)) (asK [3,1,5,6,10,0] Z) Z (H':=[_,_]) Z ?_
 rintro _ _ _ ⟨aQ,aR,aS,rfl,rfl,rfl⟩
 refine nk7 10 15 14 13 6 5 1 Z<|Qe<|wP2 Z<|wF Z Qe8<|wD 0 9 Z QV Q13 Z<|wP Z<|Q2<|Q6<|Qv<|k7 7 15 14 13 6 5 1 Z<|Qe<|wP Z<|kg e fun aY e=>Qi (QD (a:=aB) (b:=1) aY)<|Qx (S':=V7 ..) Z Z Z Z Z<|Q2<|Qo [6,1,2,3] Z (H':=V4 ..) Z ?_
 refine rnd (aB+1,b4,aP,aQ,aR,aS) (Qp hLu1 (zs e)) [15,14,13,7,6,5,1] [15,4] Z
 ·
  try dsimp only at e
  refine Qef [0,4,5,6,2] [1,3] Z Z Z fn_69 Z (sqR (Q7P N aX aI aJ aG aK aL aH aC.name aC.salience aC.vars aF.1.1 aF.1.2 aC.conds aF.2.1 aF.2.2 aC.acts qp4 qc5 l2 none 0 ([] : List Int) aE g5 aD a1 a6 a5 a0 g8 (aB:Int) 0 _ aO)) (asK [3,1,5,6,10,0] Z) Z (H':=[_,_]) Z<|Q3A<|Q5b<|Q3A<|Q3A<|Q5b<|Q3A<|we_recover fn_65 (recovers_65 _) (H':=[_,_]) (fun w hw=>⟨_,⟨hw.blk1 1 Z,Z⟩,hw.store (k:=1) 0 Z (by decide) Z Z⟩) ?_
  cases Qb hLj_1 (Qb hLu1 (zs e))
 refine k1 6 Z<|QQ<|Q7<|Q7<|Qq<|Qo [0,2,3] Z (H':=V3 ..) Z ?_
 refine jn (a0,a1,a5,a6) (Qb hLu1 (zs e)) [6] [] Z
 rintro ⟨aA,a7,a8,a9⟩ j
 try dsimp only at j ⊢
 have e:=Qp hLj_1 j
 refine sq<|wS 0 0 Z tS_32 (all':=[_]) Z (H':=V3 ..) Z<|nr<|we_idle fn_65 (idle_65 _) (.inl Z) ?_
 obtain rfl:=(Sum.inr.inj ((Zi e).symm)).symm
 refine Q2p (Hr:=[_,_]) [1,2] results32 (QU 0 Z Z tS_32 tA_32 Z Z) ⟨a7,a8,a9,Z,Z,Z⟩ (asK [] Z) Z Z (.inl Z)
theorem w_naive_Tokens_s {N:Nat} {qp0:OA} {qc1:Nat} {l0:List Q8} {qp2:OA} {qc3:Nat} {l1:List Qf} {qp4:OA} {qc5:Nat} {l2:List QP} {o2:List Ql} {o4:Nat} (e:Q8P N l0 l1 l2=some (o2,o4)):QY prog 12 [.agg #[.slice qp0 l0.length qc1,.slice qp2 l1.length qc3],.slice qp4 l2.length qc5] [.sli 2 Qd qp0 qc1 l0,.sli 5 Qh qp2 qc3 l1,.sli 3 Q14 qp4 qc5 l2] [] (fun v p q=>∃ o0 o1 o3,R0 (.tuple #[.slice o0 o3 o1,.int .i64 (o4:Int)]) [] [Q23 QZ 41 2 (.slice o0 o3 o1) o2] v p q):=by
 unfold Q8P at e
 refine Qt func12 Z ntmps12 Z (S:=[_,_]) Z fun C=>sq<|wB Z fun g2=>wP2 Z<|nk2 2 1 Z<|Q5<|Q5<|kn e fun a7 e hLj_1=>?_
 refine cut (σ:=Bool) a7 (fun z=>(z,[(2,.pointer (some ⟨g2,0,none⟩)),(1,.slice qp4 l2.length qc5),(16,.bool z)],[.sli 2 Qd qp0 qc1 l0,.sli 5 Qh qp2 qc3 l1,.sli 3 Q14 qp4 qc5 l2],[.blk g2 [.slice qp0 l0.length qc1,.slice qp2 l1.length qc3] 25])) ?_ ?_
 refine Qe<|wM 0 0 [_,_] Z Qac Qb0 Z<|kn e fun v9 a9 e=>c0 [] [0] Z fn_30 a9 w_check_Right_s [0,1] [_] Z<|wP2 Z ?_
 refine QE e (fun e=>?_) fun e=>?_
 refine wO4 Z<|wP Z<|Q2 ?_
 refine jM true e [2,1,16] [0,1,2] Z
 refine wM 0 0 [_,_] Z Qac Qb0 Z<|wP Z<|kn e fun aA a8 e=>c0 [] [0] Z fn_31 a8 w_naive_right_s [0,1,2] [_] Z<|wP2 Z<|Q2 ?_
 refine jM (!aA) e [2,1,16] [0,1,2] Z
 rintro z j
 try dsimp only at j ⊢
 have e:=hLj_1
 try rw [j] at e
 refine Qs e Z (fun e=>?_) fun e=>?_
 refine k0 Z<|sq<|wP2 Z<|nr<|Q3 ?_
 have j:=(Zi e).symm
 obtain ⟨rfl,rfl⟩:=Pj j.symm
 refine we_sh [Q23 QZ 41 2 (V1) [],_] (fun _ h=>h.treeNil QZ 41 2) ?_
 refine re2 [0] [] results12 Z ⟨none,0,0,Z,Z,Z⟩ Z
 refine k2 2 1 Z<|kt<|sq<|QH Z Z Z Zq Z tZ_31 Z fun g6=>nt<|Q5<|sq<|wM 1 0 [_,_] Z Qac Qb0 Z<|wP Z<|Q26 Z Z Z Zq Z Z<|wl_sh [Q23 QZ 41 2 (V1) [],_,_] (fun _ h=>h.treeNil QZ 41 2) ?_
 obtain ⟨_ | aD,a0,e⟩:=Qy e
 try dsimp only at e
 refine c0 [1,0] [2] Z fn_32 a0 w_naive_all_s0 [0,1,2] [_] Z<|wP Z<|nk2 7 6 Z<|sq<|wP2 Z<|Qi Z<|nk3 22 7 6 Z<|wc_true Z<|k1 7 Z<|sq<|wP2 Z<|wP Z<|nk2 5 4 Z<|Qm<|Q3 ?_
 have j:=(Zi e).symm
 obtain ⟨rfl,rfl⟩:=Pj j.symm
 refine we_sh [Q23 QZ 41 2 (V1) [],_] (fun _ h=>h.treeNil QZ 41 2) ?_
 refine re2 [0] [] results12 Z ⟨none,0,0,Z,Z,Z⟩ Z
 try dsimp only at e
 refine c3 [1,0] [2] Z fn_32 a0 w_naive_all_s1 [0,1,2] [_] Z fun a1 a5 a6=>wP Z<|nk2 7 6 Z<|sq<|wP2 Z<|Qi Z<|nk3 22 7 6 Z<|Qde Z<|k1 6 Z<|kt<|sq<|wD 0 0 Z tS_31 tA_31 Z<|wP2 Z<|nk2 5 4 Z<|Qm ?_
 have j:=(Zi e).symm
 obtain ⟨rfl,rfl⟩:=Pj j.symm
 refine re2 [1] [] results12 Z ⟨a1,a5,a6,Z,Z,Z⟩ Z
theorem Q85 {N:Nat} {a0:ByteArray} {o0:Bool} (e:Q2f N a0=some o0):QY prog 70 [.string a0] [] [] (R0 (.bool o0) [] []):=by
 unfold Q2f at e
 refine Qt func70 Z ntmps70 Z (S:=[_]) Z fun C=>sq<|wP Z<|nk1 0 Z<|Q5<|ks e fun a7 e hLj_1=>?_
 refine cut (σ:=Unit) a7 (fun _=>(.inl (),[(0,.string a0)],[],[])) ?_ ?_
 refine sq<|wP Z<|nt<|Qk<|lop (σ:=Nat) (Q4a N a0) (fun z=>(z,[(3,.int .i64 (z:Int)),(0,.string a0)],[],[])) 0 e [3,0] [] Z fun z aC aD e hLu1=>?_
 unfold Q4a at e
 try dsimp only at e ⊢
 refine Q5<|sq<|wP2 Z<|Q64 Z Z Z Zq (Qd3 Z Z tT_9)<|wP Z<|Qi (Nlt z a0.size)<|nk3 9 3 0 Z ?_
 refine Qs e Z (fun e=>?_) fun e=>?_
 refine k2 3 0 Z<|kt<|Q5<|Qk<|sq<|wP2 Z<|kn e fun a1 a8 e=>Q64 Z Z Z Zq (rk_strAt z Z Z Z Z a8 tT_9)<|wP Z<|nk3 4 3 0 Z<|Q5<|kn e fun a9 e hLj_2=>?_
 refine cut (σ:=Bool) a9 (fun a6=>(a6,[(4,.int .u8 (a1.toNat:Int)),(3,.int .i64 (z:Int)),(0,.string a0),(5,.bool a6)],[],[])) ?_ ?_
 refine Qe<|wP2 Z<|Qi (Nge a1.toNat 97)<|wP Z ?_
 refine QE e (fun e=>?_) fun e=>?_
 refine wP2 Z<|Qi (Nle a1.toNat 122)<|wP2 Z<|Q2 ?_
 refine jM (decide (a1.toNat≤122)) e [4,3,0,5] [] Z
 refine wO2 Z<|wP2 Z<|Q2 ?_
 refine jM false e [4,3,0,5] [] Z
 rintro a6 j
 try dsimp only at j ⊢
 have e:=hLj_2
 try rw [j] at e
 refine Q5<|kn e fun aA e hLj_3=>?_
 unfold Q5T at e
 refine cut (σ:=Bool) aA (fun a5=>(a5,[(3,.int .i64 (z:Int)),(0,.string a0),(39,.bool a5)],[],[])) ?_ ?_
 refine Qe<|wP2 Z<|wP Z ?_
 refine QE e (fun e=>?_) fun e=>?_
 refine wP2 Z<|Qi (Neq z 0)<|wP Z ?_
 refine QE e (fun e=>?_) fun e=>?_
 refine wO4 Z<|wO4 Z<|wO2 Z<|wO Z<|wP2 Z<|Q2 ?_
 refine jM true e [3,0,39] [] Z
 refine wP2 Z<|Qi (Nge a1.toNat 48)<|wP Z ?_
 refine QE e (fun e=>?_) fun e=>?_
 refine wP2 Z<|Qi (Nle a1.toNat 57)<|wP2 Z ?_
 refine QE e (fun e=>?_) fun e=>?_
 refine wO2 Z<|wP2 Z<|wP2 Z<|Q2 ?_
 refine jM false e [3,0,39] [] Z
 refine wP2 Z<|Qi (Neq a1.toNat 95)<|wP2 Z<|wP2 Z<|Q2 ?_
 refine jM (!(a1.toNat==95)) e [3,0,39] [] Z
 refine wO2 Z<|wP2 Z<|wP2 Z<|Qi (Neq a1.toNat 95)<|wP2 Z<|wP2 Z<|Q2 ?_
 refine jM (!(a1.toNat==95)) e [3,0,39] [] Z
 refine wO4 Z<|wO4 Z<|wO4 Z<|wO2 Z<|wO Z<|wP Z<|Q2 ?_
 refine jM false e [3,0,39] [] Z
 rintro a5 j
 try dsimp only at j ⊢
 have e:=hLj_3
 try rw [j] at e
 refine Qs e Z (fun e=>?_) fun e=>?_
 refine k0 Z<|sq<|wP Z<|nr<|Qg<|Q3<|rb<|Q3 ?_
 obtain rfl:=(Qb hLj_1 (Qb hLu1 (zs e))).symm
 refine re1 [] [] results70 Z ⟨Z,Z,Z⟩ Z
 refine k2 3 0 Z<|QT<|Q6<|Qv<|Qe<|wP2 Z<|kg e fun aB e=>Qi (QD (a:=z) (b:=1) aB)<|Qx (S':=V3 ..) Z Z Z Z Z<|Q2 ?_
 refine rnd (z+1) (Qp hLu1 (zs e)) [3,0] [] Z
 refine k1 0 Z<|QQ<|Q7<|Q7<|Qq ?_
 refine jn () (Qb hLu1 (zs e)) [0] [] Z
 rintro _ j
 try dsimp only at j ⊢
 have e:=Qp hLj_1 j
 try dsimp only at e
 refine sq<|wP Z<|Q64 Z Z Z Zq (Qd3 Z Z tT_9)<|wP Z<|Qi (Nge a0.size 1)<|wP Z ?_
 refine QE e (fun e=>?_) fun e=>?_
 refine wP Z<|Q64 Z Z Z Zq (Qd3 Z Z tT_9)<|wP Z<|Qi (Nle a0.size 24)<|wP2 Z<|nk1 2 Z<|Qm ?_
 obtain rfl:=Zi e
 refine re1 [] [] results70 Z ⟨Z,Z,Z⟩ Z
 refine wO2 Z<|wO Z<|wP2 Z<|nk1 2 Z<|Qm ?_
 obtain rfl:=Zi e
 refine re1 [] [] results70 Z ⟨Z,Z,Z⟩ Z
theorem Q9q {N qc1:Nat} {qp0:OA} {l0:List Q8} {a1 a2:Int} {o0:Bool} (e:Q2H N l0 a1 a2=some o0):QY prog 108 [.slice qp0 l0.length qc1,.int .i64 a1,.int .i64 a2] [.sli 2 Qd qp0 qc1 l0] [] (R0 (.bool o0) [] []):=by
 unfold Q2H at e
 refine Qt func108 Z ntmps108 Z (S:=V3 ..) Z fun C=>sq<|wP Z<|nk3 0 1 2 Z<|sq<|wP2 Z<|wP Z ?_
 refine QE e (fun e=>?_) fun e=>?_
 refine wP2 Z<|wN Z Q3d<|wP2 Z<|wP Z ?_
 refine QE e (fun e=>?_) fun e=>?_
 refine wP2 Z<|kg e fun hn18 e=>kn e fun x18 hx18 e=>Qbv 0 a1.toNat Z Z Z Zq Z Z Z Z (Q2K hn18) hx18 Q3d Q7a fun b18 q18 cs18 hlx18=>Q1i Q1z 1 Z fun r18 er18 _=>?_
 subst er18
 refine wF Z Q9s<|wLd 0 1 [_] Z QV Q13 Z<|wP2 Z<|wP2 Z<|nk1 6 Z<|Qm ?_
 obtain rfl:=Zi e
 refine re1 [] [] results108 Z ⟨Z,Z,Z⟩ Z
 refine wO4 Z<|wO2 Z<|wO Z<|wP2 Z<|nk1 6 Z<|Qm ?_
 obtain rfl:=Zi e
 refine re1 [] [] results108 Z ⟨Z,Z,Z⟩ Z
 refine wO4 Z<|wP2 Z<|wO4 Z<|wO2 Z<|wO Z<|wP2 Z<|nk1 6 Z<|Qm ?_
 obtain rfl:=Zi e
 refine re1 [] [] results108 Z ⟨Z,Z,Z⟩ Z
theorem QdD {N qc1:Nat} {a0 a1 a2 a4 a5:Int} {a3:ByteArray} {qp0:OA} {l6:List Q4} {o0:Bool} (e:Q4C N a0 a1 a2 a3 a4 a5 l6=some o0):QY prog 109 [.agg #[.int .u8 a0,.int .u8 a1,.int .i64 a2,.string a3,.int .i64 a4,.int .u8 a5,.slice qp0 l6.length qc1]] [.sli 7 Qj qp0 qc1 l6] [] (R0 (.bool o0) [] []):=by
 unfold Q4C at e
 refine Qt func109 Z ntmps109 Z (S:=[_]) Z fun C=>sq<|wB Z fun g1=>wP Z<|nk1 1 Z<|sq<|Q1v Z Z Z Zq Z Q1X Q8t Z (out:=V3 ..) Z<|QH Z Z Z Zq Z Q1X Z fun g3=>wS 0 0 Z Qz (all':=V3 ..) Z (H':=[_,_]) Z<|nk2 3 1 Z<|Q5<|kn e fun bj_1 e hLj_1=>?_
 unfold Q7Y at e
 refine cut (σ:=Bool) bj_1 (fun j_1_2=>(j_1_2,[(2,.bool j_1_2)],[],[])) ?_ ?_
 refine Qe<|wF Z Qcz<|wD 1 0 Z tS_61 tA_61 Z<|wP2 Z ?_
 refine QE e (fun e=>?_) fun e=>?_
 refine wF Z Qaw<|wM 1 1 (V3 ..) Z Qz Q17 Z<|wM 0 0 (V3 ..) Z Qz Q17 Z<|Q9g Z Z Z Zq Z Z Z (eqlV _ _ (⟨a1,a2,a3⟩ : V) (⟨0,0,EB⟩ : V))<|wP2 Z ?_
 refine QE e (fun e=>?_) fun e=>?_
 refine wF Z Q7g<|wD 1 4 Z QV Q13 Z<|wP2 Z<|wP Z ?_
 refine QE e (fun e=>?_) fun e=>?_
 refine wF Z Q6S<|wD 1 5 Z Qa2 Qa0 Z<|wP2 Z<|wP Z ?_
 refine QE e (fun e=>?_) fun e=>?_
 refine wF Z Q60<|wD 1 6 Z Q4k Q4M Z<|wN Z Q1g<|wP Z<|Qi (Neq l6.length 0)<|wP2 Z<|Q2<|Qo [] Z (H':=[]) Z ?_
 refine jM (l6.length==0) e [2] [] Z
 refine wO4 Z<|wP2 Z<|Q2<|Qo [] Z (H':=[]) Z ?_
 refine jM false e [2] [] Z
 refine wO2 Z<|wO Z<|wP2 Z<|wO4 Z<|wP2 Z<|Q2<|Qo [] Z (H':=[]) Z ?_
 refine jM false e [2] [] Z
 refine wO2 Z<|wO Z<|wP2 Z<|wO2 Z<|wO Z<|wP2 Z<|wO4 Z<|wP2 Z<|Q2<|Qo [] Z (H':=[]) Z ?_
 refine jM false e [2] [] Z
 refine wO4 Z<|wP2 Z<|wO2 Z<|wO Z<|wP2 Z<|wO2 Z<|wO Z<|wP2 Z<|wO4 Z<|wP2 Z<|Q2<|Qo [] Z (H':=[]) Z ?_
 refine jM false e [2] [] Z
 rintro j_1_2 j
 try dsimp only at j ⊢
 have e:=hLj_1
 try rw [j] at e
 refine Qm ?_
 obtain rfl:=Zi e
 refine re1 [] [] results109 Z ⟨Z,Z,Z⟩ Z
theorem Q4E {N:Nat} {a0 a1:Int} {a2:ByteArray} {o0:Bool} (e:Q1D N a0 a1 a2=some o0):QY prog 72 [.agg #[.int .u8 a0,.int .i64 a1,.string a2]] [] [] (R0 (.bool o0) [] []):=by
 unfold Q1D at e
 refine Qt func72 Z ntmps72 Z (S:=[_]) Z fun C=>sq<|wB Z fun g1=>wP Z<|nk1 1 Z<|Q5<|sq<|wF Z Qdx<|wD 0 0 Z tS_55 tA_55 Z<|wP Z<|nk2 5 1 Z ?_
 refine Qs e Z (fun e=>?_) fun e=>?_
 refine k1 1 Z<|sq<|wF Z tF_57_2<|wD 0 2 Z tS_9 tA_9 Z<|wP2 Z<|nk1 2 Z<|Qm<|Q3 ?_
 obtain rfl:=Zi e
 refine re1 [] [] results72 Z ⟨Z,Z,Z⟩ Z
 refine k1 1 Z<|kt<|sq<|wF Z Qdx<|wD 0 0 Z tS_55 tA_55 Z<|wP2 Z ?_
 refine QE e (fun e=>?_) fun e=>?_
 refine wF Z Q2g<|wD 0 1 Z Q95 Q92 Z<|wP2 Z<|wP Z ?_
 refine QE e (fun e=>?_) fun e=>?_
 refine wF Z tF_57_2<|wD 0 2 Z tS_9 tA_9 Z<|kn e fun v20 hc20 e=>c0 [] [0] Z fn_70 hc20 Q85 [] [_] Z<|wP2 Z<|nk1 2 Z<|Qm ?_
 obtain rfl:=Zi e
 refine re1 [] [] results72 Z ⟨Z,Z,Z⟩ Z
 refine wO2 Z<|wO Z<|wP2 Z<|nk1 2 Z<|Qm ?_
 obtain rfl:=Zi e
 refine re1 [] [] results72 Z ⟨Z,Z,Z⟩ Z
 refine wO2 Z<|wO Z<|wP2 Z<|wO2 Z<|wO Z<|wP2 Z<|nk1 2 Z<|Qm ?_
 obtain rfl:=Zi e
 refine re1 [] [] results72 Z ⟨Z,Z,Z⟩ Z
theorem QdN {N:Nat} {a0 a1 a2 a3 a5 o0:Int} {a4:ByteArray} {a6 o1:Bool} (e:Q6C N a0 a1 a2 a3 a4 a5 a6=some (o0,o1)):QY prog 110 [.agg #[.int .u8 a0,.int .i64 a1,.int .u8 a2,.int .i64 a3,.string a4],.int .i64 a5,.bool a6] [] [] (R0 (.tuple #[.int .i64 o0,.bool o1]) [] []):=by
 unfold Q6C at e
 refine Qt func110 Z ntmps110 Z (S:=V3 ..) Z fun C=>sq<|wB Z fun g3=>wP2 Z<|nk3 3 1 2 Z<|sq<|Q1v Z Z Z Zq Z Q1X Q8t Z (out:=V3 ..) Z<|QH Z Z Z Zq Z Q1X Z fun g8=>wS 0 0 Z Qz (all':=V3 ..) Z (H':=[_,_]) Z<|nk4 8 3 1 2 Z<|Q5<|sq<|wF Z tF_59_0<|wD 1 0 Z tS_54 tA_54 Z<|nk5 11 8 3 1 2 Z<|Qk<|sq<|wP2 Z<|nk6 12 11 8 3 1 2 Z ?_
 refine Qs e Z (fun e=>?_) fun e=>?_
 refine k3 8 3 1 Z<|Q5 ?_
 rcases Q19 e with ⟨a9,e⟩ | ⟨a9,e⟩
 refine QG [0,1,2,3,4,5,6,7,8,9] Z Z fun z=>xP z 0 Z<|xF z 1 Z Q3G<|xD z 2 1 1 Z QV Q13 Z<|xP2 z 3 Z<|QA (QL a9)<|xF z 5 Z Qcy<|xM z 6 1 2 (V3 ..) Z Qz Q17 Z<|xM z 7 0 0 (V3 ..) Z Qz Q17 Z<|Q8l z 8 Z Z Z Zq Z Z Z Z (eqlV _ _ (⟨a2,a3,a4⟩ : V) (⟨0,0,EB⟩ : V))<|xP z 9 Z<|xS z 10 Z<|wP Z<|Q2<|Q3b [] [0,1,1] Z Z<|xS z 11 Z<|wP Z<|Q2<|Q3b [] [] Z Z<|Qu z Z<|Qv<|k2 7 6 Z<|Qm<|Qg ?_
 refine Q3 ?_
 have j:=(Zi e).symm
 obtain ⟨rfl,rfl⟩:=Pj j.symm
 refine re2 [] [] results110 Z ⟨Z,Z,Z⟩ Z
 refine QG [0,1,2,3,4,5,6,7,8,9] Z Z fun z=>xP z 0 Z<|xF z 1 Z Q3G<|xD z 2 1 1 Z QV Q13 Z<|xP2 z 3 Z<|QA (QL a9)<|xO2 z 5 Z<|xO2 z 7 Z<|xP z 9 Z<|xS z 10 Z<|wP Z<|Q2<|Q3b [] [1] Z Z<|xS z 11 Z<|wP Z<|Q2<|Q3b [] [] Z Z<|Qu z Z<|Qv<|k2 7 6 Z<|Qm<|Qg<|Q3 ?_
 have j:=(Zi e).symm
 obtain ⟨rfl,rfl⟩:=Pj j.symm
 refine re2 [] [] results110 Z ⟨Z,Z,Z⟩ Z
 refine k5 11 8 3 1 2 Z<|sq<|wP2 Z<|nk6 24 11 8 3 1 2 Z ?_
 refine Qs e Z (fun e=>?_) fun e=>?_
 refine k4 8 3 1 2 Z<|Q5<|kg e fun aA e=>?_
 rcases Q19 e with ⟨a7,e⟩ | ⟨a7,e⟩
 rcases Q19 e with ⟨aB,e⟩ | ⟨aB,e⟩
 refine QG [0,1,2,3,4,5,6,7,8,9,10,11,12,13,14] Z Z fun z=>xP2 z 0 Z<|QA (i64_in aA)<|xP2 z 2 Z<|QA (QL a7)<|xF z 4 Z Q3G<|xD z 5 1 1 Z QV Q13 Z<|xP2 z 6 Z<|xP2 z 8 Z<|QA (QL aB)<|xF z 10 Z Qcy<|xM z 11 1 2 (V3 ..) Z Qz Q17 Z<|xM z 12 0 0 (V3 ..) Z Qz Q17 Z<|Q8l z 13 Z Z Z Zq Z Z Z Z (eqlV _ _ (⟨a2,a3,a4⟩ : V) (⟨0,0,EB⟩ : V))<|xP z 14 Z<|xS z 15 Z<|wP Z<|Q2<|Q3b [] [0,1,1] Z Z<|xS z 16 Z<|wP Z<|Q2<|Q3b [] [] Z Z<|Qu z Z ?_
 refine Qv<|k2 7 6 Z<|Qm<|Qg<|Q3 ?_
 have j:=(Zi e).symm
 obtain ⟨rfl,rfl⟩:=Pj j.symm
 refine re2 [] [] results110 Z ⟨Z,Z,Z⟩ Z
 refine QG [0,1,2,3,4,5,6,7,8,9,10,11,12,13,14] Z Z fun z=>xP2 z 0 Z<|QA (i64_in aA)<|xP2 z 2 Z<|QA (QL a7)<|xF z 4 Z Q3G<|xD z 5 1 1 Z QV Q13 Z<|xP2 z 6 Z<|xP2 z 8 Z<|QA (QL aB)<|xO2 z 10 Z<|xO2 z 12 Z<|xP z 14 Z<|xS z 15 Z<|wP Z<|Q2<|Q3b [] [1] Z Z<|xS z 16 Z<|wP Z<|Q2<|Q3b [] [] Z Z<|Qu z Z<|Qv<|k2 7 6 Z ?_
 refine Qm<|Qg<|Q3 ?_
 have j:=(Zi e).symm
 obtain ⟨rfl,rfl⟩:=Pj j.symm
 refine re2 [] [] results110 Z ⟨Z,Z,Z⟩ Z
 refine QG [0,1,2,3,4,5,6,7,8,9,10,11,12,13,14] Z Z fun z=>xP2 z 0 Z<|QA (i64_in aA)<|xP2 z 2 Z<|QA (QL a7)<|xO2 z 4 Z<|xO2 z 6 Z<|xP2 z 8 Z<|xO2 z 10 Z<|xO2 z 12 Z<|xP z 14 Z<|xS z 15 Z<|wP Z<|Q2<|Q3b [] [] Z Z<|xS z 16 Z<|wP Z<|Q2<|Q3b [] [] Z Z<|Qu z Z<|Qv<|k2 7 6 Z<|Qm<|Qg ?_
 refine Q3 ?_
 have j:=(Zi e).symm
 obtain ⟨rfl,rfl⟩:=Pj j.symm
 refine re2 [] [] results110 Z ⟨Z,Z,Z⟩ Z
 refine k4 11 8 3 1 Z<|sq<|wP2 Z<|nk4 41 8 3 1 Z ?_
 refine Qs e Z (fun e=>?_) fun e=>?_
 refine k3 8 3 1 Z<|Q5 ?_
 rcases Q19 e with ⟨a8,e⟩ | ⟨a8,e⟩
 rcases Q19 e with ⟨aC,e⟩ | ⟨aC,e⟩
 refine QG [0,1,2,3,4,5,6,7,8,9,10,11,12,13,14,15] Z Z fun z=>xP z 0 Z<|xF z 1 Z Q3G<|xD z 2 1 1 Z QV Q13 Z<|xP2 z 3 Z<|QA (QL a8)<|xF z 5 Z Q3G<|xD z 6 1 1 Z QV Q13 Z<|xP2 z 7 Z<|xP2 z 9 Z<|QA (QL aC)<|xF z 11 Z Qcy<|xM z 12 1 2 (V3 ..) Z Qz Q17 Z<|xM z 13 0 0 (V3 ..) Z Qz Q17 Z<|Q8l z 14 Z Z Z Zq Z Z Z Z (eqlV _ _ (⟨a2,a3,a4⟩ : V) (⟨0,0,EB⟩ : V))<|xP z 15 Z<|xS z 16 Z<|wP Z<|Q2<|Q3b [] [0,1,1,1] Z Z<|xS z 17 Z<|wP Z<|Q2<|Q3b [] [] Z Z ?_
 refine Qu z Z<|Qv<|k2 7 6 Z<|Qm<|Qg<|Q3 ?_
 have j:=(Zi e).symm
 obtain ⟨rfl,rfl⟩:=Pj j.symm
 refine re2 [] [] results110 Z ⟨Z,Z,Z⟩ Z
 refine QG [0,1,2,3,4,5,6,7,8,9,10,11,12,13,14,15] Z Z fun z=>xP z 0 Z<|xF z 1 Z Q3G<|xD z 2 1 1 Z QV Q13 Z<|xP2 z 3 Z<|QA (QL a8)<|xF z 5 Z Q3G<|xD z 6 1 1 Z QV Q13 Z<|xP2 z 7 Z<|xP2 z 9 Z<|QA (QL aC)<|xO2 z 11 Z<|xO2 z 13 Z<|xP z 15 Z<|xS z 16 Z<|wP Z<|Q2<|Q3b [] [1,1] Z Z<|xS z 17 Z<|wP Z<|Q2<|Q3b [] [] Z Z<|Qu z Z<|Qv ?_
 refine k2 7 6 Z<|Qm<|Qg<|Q3 ?_
 have j:=(Zi e).symm
 obtain ⟨rfl,rfl⟩:=Pj j.symm
 refine re2 [] [] results110 Z ⟨Z,Z,Z⟩ Z
 refine QG [0,1,2,3,4,5,6,7,8,9,10,11,12,13,14,15] Z Z fun z=>xP z 0 Z<|xF z 1 Z Q3G<|xD z 2 1 1 Z QV Q13 Z<|xP2 z 3 Z<|QA (QL a8)<|xO2 z 5 Z<|xO2 z 7 Z<|xP2 z 9 Z<|xO2 z 11 Z<|xO2 z 13 Z<|xP z 15 Z<|xS z 16 Z<|wP Z<|Q2<|Q3b [] [1] Z Z<|xS z 17 Z<|wP Z<|Q2<|Q3b [] [] Z Z<|Qu z Z<|Qv<|k2 7 6 Z<|Qm ?_
 refine Qg<|Q3 ?_
 have j:=(Zi e).symm
 obtain ⟨rfl,rfl⟩:=Pj j.symm
 refine re2 [] [] results110 Z ⟨Z,Z,Z⟩ Z
 refine k2 3 1 Z<|QT<|Q6<|Qv<|sq<|wP Z<|wF Z tF_59_0<|wD 1 0 Z tS_54 tA_54 Z<|wP2 Z ?_
 refine QE e (fun e=>?_) fun e=>?_
 refine wF Z Q3G<|wD 1 1 Z QV Q13 Z<|wP2 Z<|wP Z ?_
 refine QE e (fun e=>?_) fun e=>?_
 refine wF Z Qcy<|wM 1 2 (V3 ..) Z Qz Q17 Z<|kn e fun aE aD e=>c0 [] [0,1] Z fn_72 aD Q4E [] [_,_] Z<|wP2 Z<|wP Z<|nk2 7 6 Z<|Qm ?_
 have j:=(Zi e).symm
 obtain ⟨rfl,rfl⟩:=Pj j.symm
 refine re2 [] [] results110 Z ⟨Z,Z,Z⟩ Z
 refine wO2 Z<|wO Z<|wP2 Z<|wP Z<|nk2 7 6 Z<|Qm ?_
 have j:=(Zi e).symm
 obtain ⟨rfl,rfl⟩:=Pj j.symm
 refine re2 [] [] results110 Z ⟨Z,Z,Z⟩ Z
 refine wO2 Z<|wO Z<|wP2 Z<|wO2 Z<|wO Z<|wP2 Z<|wP Z<|nk2 7 6 Z<|Qm ?_
 have j:=(Zi e).symm
 obtain ⟨rfl,rfl⟩:=Pj j.symm
 refine re2 [] [] results110 Z ⟨Z,Z,Z⟩ Z
end Go.Proofs.YtbgodclhmgmcgaaGreatDoor
