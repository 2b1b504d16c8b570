import Derived.Test.YtbgodclhmgmcgaaGreatDoorXW4
namespace Go.Proofs.YtbgodclhmgmcgaaGreatDoor
open Tryz
open Go.RowKit
set_option maxRecDepth 100000
set_option maxHeartbeats 4000000
theorem QcS {N qc1 qc3 qc5 o4:Nat} {qp0 qp2 qp4:OA} {l0:List Q8} {l1:List Qf} {l2:List QP} {o2:List Ql} (e:Q51 N l0 l1 l2=some (o2,o4)):QY prog 13 [.agg #[.slice qp0 l0.length qc1,.slice qp2 l1.length qc3],.slice qp4 l2.length qc5] [.sli 2 Qd qp0 qc1 l0,.sli 5 Qh qp2 qc3 l1,.sli 3 Q14 qp4 qc5 l2] [] (fun v p q=>∃ o0 o1 o3,R0 (.tuple #[.slice o0 o3 o1,.int .i64 (o4:Int)]) [] [.own 41 2 Q34 (.slice o0 o3 o1) o2] v p q):=by
 unfold Q51 at e
 refine Qt func13 Z ntmps13 Z (S:=[_,_]) Z fun C=>sq<|wB Z fun g2=>wP2 Z<|nk2 2 1 Z<|Q5<|Q5<|kn e fun aV e hLj_1=>?_
 refine cut (σ:=Bool) aV (fun aM=>(aM,[(2,.pointer (some ⟨g2,0,none⟩)),(1,.slice qp4 l2.length qc5),(20,.bool aM)],[.sli 2 Qd qp0 qc1 l0,.sli 5 Qh qp2 qc3 l1,.sli 3 Q14 qp4 qc5 l2],[.blk g2 [.slice qp0 l0.length qc1,.slice qp2 l1.length qc3] 25])) ?_ ?_
 refine Qe<|wM 0 0 [_,_] Z Qac Qb0 Z<|kn e fun bG aW e=>c0 [] [0] Z fn_34 aW Qdb [0,1] [_] Z<|wP2 Z ?_
 refine QE e (fun e=>?_) fun e=>?_
 refine wO4 Z<|wP Z<|Q2 ?_
 refine jM true e [2,1,20] [0,1,2] Z
 refine wM 0 0 [_,_] Z Qac Qb0 Z<|wP Z<|kn e fun bA aX e=>c0 [] [0] Z fn_35 aX Qdc [0,1,2] [_] Z<|wP2 Z<|Q2 ?_
 refine jM (!bA) e [2,1,20] [0,1,2] Z
 rintro aM j
 try dsimp only at j ⊢
 have e:=hLj_1
 try rw [j] at e
 refine Qs e Z (fun e=>?_) fun e=>?_
 refine k0 Z<|sq<|wP2 Z<|nr<|Q3 ?_
 have j:=(Zi e).symm
 obtain ⟨rfl,rfl⟩:=Pj j.symm
 refine Q7n 41 2 Q34 ?_
 refine re2 [0] [] results13 Z ⟨none,0,0,Z,Z,Z⟩ Z
 refine k2 2 1 Z<|kt<|sq<|wP Z<|nt<|sq<|wP Z<|nt<|Q5<|ks e fun aY e hLj_2=>?_
 refine cut (σ:=(List Ql)×OA×Nat×Nat) aY (fun (aK,a5,a6,a7)=>(.inl aK,[(6,.slice a5 a7 a6)],[],[.own 41 2 Q34 (.slice a5 a7 a6) aK])) ?_ ?_
 refine sq<|wP Z<|nt<|Qk<|Q97 41 2 Q34<|lop (σ:=Nat×Nat×(List Ql)×OA×Nat×Nat) (Q1M N l1 l2) (fun (z,aG,a8,a9,aA,aB)=>((z,aG,a8),[(8,.int .i64 (z:Int)),(7,.int .i64 (aG:Int)),(6,.slice a9 aB aA),(2,.pointer (some ⟨g2,0,none⟩)),(1,.slice qp4 l2.length qc5)],[.sli 2 Qd qp0 qc1 l0,.sli 5 Qh qp2 qc3 l1,.sli 3 Q14 qp4 qc5 l2],[.own 41 2 Q34 (.slice a9 aB aA) a8,.blk g2 [.slice qp0 l0.length qc1,.slice qp2 l1.length qc3] 25])) (0,0,[],none,0,0) e [8,7,6,2,1] [0,1,2] Z fun s_ bH bI e hLu1=>?_
 obtain ⟨z,aG,a8,a9,aA,aB⟩:=s_
 unfold Q1M at e
 try dsimp only at e ⊢
 refine Q5<|sq<|wP Z<|wF Z Q5Z<|wD 1 1 Z Q9o Q9C Z<|wN Z Q3e<|wP Z<|Qi (Nlt z l1.length)<|nk6 25 8 7 6 2 1 Z ?_
 refine Qs e Z (fun e=>?_) fun e=>?_
 refine k5 8 7 6 2 1 Z<|kt<|Q5<|ks e fun aZ e hLj_3=>?_
 unfold Q5o at e
 refine cut (σ:=Nat×(List Ql)×OA×Nat×Nat) aZ (fun (aN,aC,aD,aE,aF)=>(.inl (aN,aC),[(8,.int .i64 (z:Int)),(7,.int .i64 (aN:Int)),(6,.slice aD aF aE),(2,.pointer (some ⟨g2,0,none⟩)),(1,.slice qp4 l2.length qc5)],[.sli 2 Qd qp0 qc1 l0,.sli 5 Qh qp2 qc3 l1,.sli 3 Q14 qp4 qc5 l2],[.own 41 2 Q34 (.slice aD aF aE) aC,.blk g2 [.slice qp0 l0.length qc1,.slice qp2 l1.length qc3] 25])) ?_ ?_
 refine Qk<|sq<|wF Z Q5Z<|wD 1 1 Z Q9o Q9C Z<|wP Z<|kn e fun bJ b0 e=>wI 1 z Z b0 Q3e Q2X fun bK bL bE bB=>Q1i Q1T 1 Z fun bM b1 _=>?_
 subst b1
 refine wLd 2 0 (V5 ..) Z Q2X Q8U Z<|wP Z ?_
 obtain ⟨⟨aO,aL⟩,b2,e⟩:=Qy e
 try dsimp only at e
 refine c2 [] [0,1] Z fn_36 b2 QdF [0,1,6] [_,_] Z fun aP aQ=>wP2 Z<|wP2 Z<|wP Z<|nk7 10 9 8 7 6 2 1 Z<|sq<|wP2 Z<|wP Z<|kg e fun b3 e=>Qi (QD (a:=aG) (b:=aL) b3)<|Qx (S':=V9 ..) Z Z Z Z Z<|nk6 7 9 8 6 2 1 Z<|Q5<|sq<|wP2 Z<|Qi (Ngt (aG+aL) 4096)<|nk7 42 7 9 8 6 2 1 Z ?_
 refine Qs e Z (fun e=>?_) fun e=>?_
 refine k0 Z<|sq<|wP2 Z<|nr<|rb<|Q3<|rb<|Q3 ?_
 have j:=(Zi e).symm
 replace j:=Qb hLj_3 j
 replace j:=Qb hLu1 j
 replace j:=Qb hLj_2 j
 obtain ⟨rfl,rfl⟩:=Pj j.symm
 refine Q7n 41 2 Q34 ?_
 refine re2 [0] [] results13 Z ⟨none,0,0,Z,Z,Z⟩ Z
 refine k6 7 9 8 6 2 1 Z<|kt<|sq<|wP Z<|nt<|Qk<|lop (σ:=Nat×(List Ql)×OA×Nat×Nat) (Q2A N aO z aG aL) (fun (a1,a0,aH,aI,aJ)=>((a1,a0),[(11,.int .i64 (a1:Int)),(7,.int .i64 ((aG+aL:Nat):Int)),(9,.slice aP aO.length aQ),(8,.int .i64 (z:Int)),(6,.slice aH aJ aI),(2,.pointer (some ⟨g2,0,none⟩)),(1,.slice qp4 l2.length qc5)],[.sli 2 QN aP aQ aO,.sli 2 Qd qp0 qc1 l0,.sli 5 Qh qp2 qc3 l1,.sli 3 Q14 qp4 qc5 l2],[.own 41 2 Q34 (.slice aH aJ aI) a0,.blk g2 [.slice qp0 l0.length qc1,.slice qp2 l1.length qc3] 25])) (0,a8,a9,aA,aB) e [11,7,9,8,6,2,1] [0,5,6,7] Z fun s_ bN bO e hLu2=>?_
 obtain ⟨a1,a0,aH,aI,aJ⟩:=s_
 unfold Q2A at e
 try dsimp only at e ⊢
 refine Q5<|sq<|wP2 Z<|wN Z tE_89<|wP Z<|Qi (Nlt a1 aO.length)<|nk8 46 11 7 9 8 6 2 1 Z ?_
 refine Qs e Z (fun e=>?_) fun e=>?_
 refine k7 11 7 9 8 6 2 1 Z<|kt<|Q5<|Qk<|Qe<|wP2 Z<|wP2 Z<|kn e fun aR b4 e=>wI 0 a1 Z b4 tE_89 tS_93 fun bP bQ bF bC=>Q1i Q8L 1 Z fun aS b5 _=>?_
 subst b5
 refine wF Z tF_93_0<|wLd 2 0 [_] Z tS_39 tA_39 Z<|Q1v Z Z Z Zq Z tZ_41 tP_41 Z (out:=[_,_]) Z<|QR Z Z Z Zq Z tE_31 tS_41 tZ_41 Z (zs:=[.int .i64 0,V1]) (by kernel_rfl) Z (out:=[_,_]) Z fun bR=>kg e fun aU e=>Q1V ([(⟨((z:Int)),aR.ids⟩ : Ql)]) 1 0 Z Z Z Zq Z Z Z Z Z (fun F w hφ=>⟨[.int .i64 (z:Int),.slice aS.1.1 aR.ids.length aS.1.2],[],Z,Z,⟨(aS.1.1,aS.1.2),Z,(Q10 (hφ _ (Q1f (k:=0) Z)) Q16)⟩,Z⟩) tE_31 tR_41 Z Z (Nat.le_trans aU (by decide)) (Nat.le_trans (Nat.mul_le_mul_right _ aU) (by decide)) (H2:=fun b6 b7=>(V3 ..)) (fun _ _=>Z) fun b6 b7=>Q4K 0 Z (H':=[_,_]) Z<|Qx (S':=V16 ..) Z Z Z Z Z<|Q2<|Q6<|Qv<|k7 6 11 7 9 8 2 1 Z<|Qe<|wP2 Z<|kg e fun b8 e=>Qi (QD (a:=a1) (b:=1) b8)<|Qx (S':=V8 ..) Z Z Z Z Z<|Q2 ?_
 refine rnd (a1+1,(a0++([(⟨((z:Int)),aR.ids⟩ : Ql)])),b6,b7,((a0++([(⟨((z:Int)),aR.ids⟩ : Ql)])).length)) (Qp hLu2 (zs e)) [11,7,9,8,6,2,1] [4,5,6,7] Z
 refine k5 7 8 6 2 1 Z<|QQ<|Q7<|Q7<|Qq<|Q6 ?_
 refine jn (aG+aL,a0,aH,aI,aJ) (Qb hLu2 (zs e)) [8,7,6,2,1] [1,2,3] Z
 rintro ⟨aN,aC,aD,aE,aF⟩ j
 try dsimp only at j ⊢
 have e:=Qp hLj_3 j
 try dsimp only at e
 refine Qe<|wP2 Z<|kg e fun b9 e=>Qi (QD (a:=z) (b:=1) b9)<|Qx (S':=V6 ..) Z Z Z Z Z<|Q2 ?_
 refine rnd (z+1,aN,aC,aD,aE,aF) (Qp hLu1 (zs e)) [8,7,6,2,1] [0,1,2] Z
 refine k1 6 Z<|QQ<|Q7<|Q7<|Qq<|Qo [0] Z (H':=[_]) Z ?_
 refine jn (a8,a9,aA,aB) (Qb hLu1 (zs e)) [6] [] Z
 rintro ⟨aK,a5,a6,a7⟩ j
 try dsimp only at j ⊢
 have e:=Qp hLj_2 j
 refine sq<|wP2 Z<|wP Z<|nk2 5 4 Z<|Qm ?_
 have j:=(Zi e).symm
 obtain ⟨rfl,rfl⟩:=Pj j.symm
 refine re2 [0] [] results13 Z ⟨a5,a6,a7,Z,Z,Z⟩ Z
theorem QcP {N qc1 qc3:Nat} {qp0 qp2:OA} {l0 l1:List Int} {o0:Bool} (e:Q4Y N l0 l1=some o0):QY prog 73 [.slice qp0 l0.length qc1,.slice qp2 l1.length qc3] [.sli 1 Q3B qp0 qc1 l0,.sli 1 Q3B qp2 qc3 l1] [] (R0 (.bool o0) [] []):=by
 unfold Q4Y at e
 refine Qt func73 Z ntmps73 Z (S:=[_,_]) Z fun C=>sq<|wP Z<|nk2 0 1 Z<|Q5<|sq<|wP Z<|wN Z Q8s<|wP Z<|wN Z Q8s<|wP Z<|Qi (Nne l0.length l1.length)<|nk3 10 0 1 Z ?_
 refine Qs e Z (fun e=>?_) fun e=>?_
 refine k0 Z<|sq<|wP Z<|nr<|Q3 ?_
 obtain rfl:=Zi e
 refine re1 [] [] results73 Z ⟨Z,Z,Z⟩ Z
 refine k2 0 1 Z<|kt<|Q5<|ks e fun bj_1 e hLj_1=>?_
 refine cut (σ:=Unit) bj_1 (fun _=>(.inl (),[],[],[])) ?_ ?_
 refine sq<|wP Z<|nt<|Qk<|lop (σ:=Nat) (Q3O N l0 l1) (fun u1_5=>(u1_5,[(5,.int .i64 (u1_5:Int)),(0,.slice qp0 l0.length qc1),(1,.slice qp2 l1.length qc3)],[.sli 1 Q3B qp0 qc1 l0,.sli 1 Q3B qp2 qc3 l1],[])) 0 e [5,0,1] [0,1] Z fun u1_5 mu1 bu1 e hLu1=>?_
 unfold Q3O at e
 try dsimp only at e ⊢
 refine Q5<|sq<|wP2 Z<|wN Z Q8s<|wP Z<|Qi (Nlt u1_5 l0.length)<|nk4 14 5 0 1 Z ?_
 refine Qs e Z (fun e=>?_) fun e=>?_
 refine k3 5 0 1 Z<|kt<|Q5<|Qk<|Q5<|QG [0,1,2,3,4,5,6,7,8] Z Z fun z=>xP2 z 0 Z<|kn e fun x19 hx19 e=>xI z 2 0 u1_5 Z hx19 Q8s QV fun b19 q19 cs19 hlx19=>QJ R_i64_opens 1 Z fun r19 er19 _=>?_
 subst er19
 refine xL z 3 0 0 [_] Z QV Q13 Z<|xP2 z 4 Z<|kn e fun x23 hx23 e=>xI z 6 3 u1_5 Z hx23 Q8s QV fun b23 q23 cs23 hlx23=>QJ R_i64_opens 1 Z fun r23 er23 _=>?_
 subst er23
 refine xL z 7 0 0 [_] Z QV Q13 Z<|xP z 8 Z<|Qu z Z<|Qv<|k4 25 5 0 1 Z ?_
 refine Qs e Z (fun e=>?_) fun e=>?_
 refine k0 Z<|sq<|wP Z<|nr<|Qg<|Q3<|rb<|Q3 ?_
 obtain rfl:=(Qb hLj_1 (Qb hLu1 (zs e))).symm
 refine re1 [] [] results73 Z ⟨Z,Z,Z⟩ Z
 refine k3 5 0 1 Z<|QT<|Q6<|Qv<|Qe<|wP2 Z<|kg e fun hg16 e=>Qi (QD (a:=u1_5) (b:=1) hg16)<|Qx (S':=V4 ..) Z Z Z Z Z<|Q2 ?_
 refine rnd (u1_5+1) (Qp hLu1 (zs e)) [5,0,1] [4,5] Z
 refine k0 Z<|QQ<|Q7<|Q7<|Qq ?_
 refine jn () (Qb hLu1 (zs e)) [] [] Z
 rintro _ j
 try dsimp only at j ⊢
 have e:=Qp hLj_1 j
 try dsimp only at e
 refine sq<|wP Z<|nr ?_
 obtain rfl:=Zi e
 refine re1 [] [] results73 Z ⟨Z,Z,Z⟩ Z
theorem Qcf {N qc1 qc3:Nat} {a0 a2:Int} {qp0 qp2:OA} {l1 l3:List Int} {o0:Bool} (e:Q4z N a0 l1 a2 l3=some o0):QY prog 37 [.agg #[.int .i64 a0,.slice qp0 l1.length qc1],.agg #[.int .i64 a2,.slice qp2 l3.length qc3]] [.sli 1 Q3B qp0 qc1 l1,.sli 1 Q3B qp2 qc3 l3] [] (R0 (.bool o0) [] []):=by
 unfold Q4z at e
 refine Qt func37 Z ntmps37 Z (S:=[_,_]) Z fun C=>sq<|wB Z fun g2=>wB Z fun g3=>wP Z<|nk2 3 2 Z<|sq<|wF Z tF_41_0<|wD 1 0 Z QV Q13 Z<|wF Z tF_41_0<|wD 0 0 Z QV Q13 Z<|wP2 Z ?_
 refine QE e (fun e=>?_) fun e=>?_
 refine wF Z tF_41_1<|wD 1 1 Z tS_39 tA_39 Z<|wF Z tF_41_1<|wD 0 1 Z tS_39 tA_39 Z<|kn e fun v15 hc15 e=>c0 [] [0,1] Z fn_73 hc15 QcP [0,1] [_,_] Z<|wP2 Z<|nk1 4 Z<|Qm ?_
 obtain rfl:=Zi e
 refine re1 [] [] results37 Z ⟨Z,Z,Z⟩ Z
 refine wO4 Z<|wO Z<|wP2 Z<|nk1 4 Z<|Qm ?_
 obtain rfl:=Zi e
 refine re1 [] [] results37 Z ⟨Z,Z,Z⟩ Z
theorem Qc0 {N:Nat} {qp0:OA} {qc1:Nat} {l0:List Ql} {qp2:OA} {qc3:Nat} {l1:List Ql} {o0:Bool} (e:Q49 N l0 l1=some o0):QY prog 14 [.slice qp0 l0.length qc1,.slice qp2 l1.length qc3] [.sli 2 Q34 qp0 qc1 l0,.sli 2 Q34 qp2 qc3 l1] [] (R0 (.bool o0) [] []):=by
 unfold Q49 at e
 refine Qt func14 Z ntmps14 Z (S:=[_,_]) Z fun C=>sq<|wP Z<|nk2 0 1 Z<|Q5<|sq<|wP Z<|wN Z tE_31<|wP Z<|wN Z tE_31<|wP Z<|Qi (Nne l0.length l1.length)<|nk3 10 0 1 Z ?_
 refine Qs e Z (fun e=>?_) fun e=>?_
 refine k0 Z<|sq<|wP Z<|nr<|Q3 ?_
 obtain rfl:=Zi e
 refine re1 [] [] results14 Z ⟨Z,Z,Z⟩ Z
 refine k2 0 1 Z<|kt<|Q5<|ks e fun a1 e hLj_1=>?_
 refine cut (σ:=Unit) a1 (fun _=>(.inl (),[],[],[])) ?_ ?_
 refine sq<|wP Z<|nt<|Qk<|lop (σ:=Nat) (Q37 N l0 l1) (fun a0=>(a0,[(5,.int .i64 (a0:Int)),(0,.slice qp0 l0.length qc1),(1,.slice qp2 l1.length qc3)],[.sli 2 Q34 qp0 qc1 l0,.sli 2 Q34 qp2 qc3 l1],[])) 0 e [5,0,1] [0,1] Z fun a0 aF aG e hLu1=>?_
 unfold Q37 at e
 try dsimp only at e ⊢
 refine Q5<|sq<|wP2 Z<|wN Z tE_31<|wP Z<|Qi (Nlt a0 l0.length)<|nk4 14 5 0 1 Z ?_
 refine Qs e Z (fun e=>?_) fun e=>?_
 refine k3 5 0 1 Z<|kt<|Q5<|Qk<|Q5<|QG [0,1,2,3,4,5,6,7,9] Z Z fun z=>xP2 z 0 Z<|kn e fun aH a5 e=>xI z 2 0 a0 Z a5 tE_31 tS_41 fun aI aJ aD aB=>QJ Qby 1 Z fun aK a6 _=>?_
 subst a6
 refine xL z 3 1 0 [_,_] Z tS_41 tA_41 Z<|xP2 z 4 Z<|kn e fun aL a7 e=>xI z 6 4 a0 Z a7 tE_31 tS_41 fun aM aN aE aC=>QJ Qby 1 Z fun aO a8 _=>?_
 subst a8
 refine xL z 7 1 0 [_,_] Z tS_41 tA_41 Z<|xS z 8 Z<|kn e fun aP a9 e=>c0 [] [] Z fn_37 a9 Qcf [3,0] [] Z<|Q2<|wxx 0 [] Z<|xP z 9 Z<|Qu z Z<|Qv<|k4 26 5 0 1 Z ?_
 refine Qs e Z (fun e=>?_) fun e=>?_
 refine k0 Z<|sq<|wP Z<|nr<|Qg<|Q3<|rb<|Q3 ?_
 obtain rfl:=(Qb hLj_1 (Qb hLu1 (zs e))).symm
 refine re1 [] [] results14 Z ⟨Z,Z,Z⟩ Z
 refine k3 5 0 1 Z<|QT<|Q6<|Qv<|Qe<|wP2 Z<|kg e fun aA e=>Qi (QD (a:=a0) (b:=1) aA)<|Qx (S':=V4 ..) Z Z Z Z Z<|Q2 ?_
 refine rnd (a0+1) (Qp hLu1 (zs e)) [5,0,1] [6,7] Z
 refine k0 Z<|QQ<|Q7<|Q7<|Qq ?_
 refine jn () (Qb hLu1 (zs e)) [] [] Z
 rintro _ j
 try dsimp only at j ⊢
 have e:=Qp hLj_1 j
 try dsimp only at e
 refine sq<|wP Z<|nr ?_
 obtain rfl:=Zi e
 refine re1 [] [] results14 Z ⟨Z,Z,Z⟩ Z
theorem Qbm {N qc1 k1 qc3:Nat} {qp0 qp2:OA} {l0 l2:List Q8} {o0:Bool} (e:Q5n N l0 k1 l2=some o0):QY prog 74 [.slice qp0 k1 qc1,.slice qp2 l2.length qc3] [.sli 2 Qd qp0 qc1 l0,.sli 2 Qd qp2 qc3 l2] [] (R0 (.bool o0) [] []):=by
 unfold Q5n at e
 refine Qt func74 Z ntmps74 Z (S:=[_,_]) Z fun C=>sq<|wP Z<|nk2 0 1 Z<|Q5<|sq<|wP Z<|wN Z Q3d<|wP Z<|wN Z Q3d<|wP Z<|Qi (Nne k1 l2.length)<|nk3 10 0 1 Z ?_
 refine Qs e Z (fun e=>?_) fun e=>?_
 refine k0 Z<|sq<|wP Z<|nr<|Q3 ?_
 obtain rfl:=Zi e
 refine re1 [] [] results74 Z ⟨Z,Z,Z⟩ Z
 refine k2 0 1 Z<|kt<|Q5<|ks e fun a5 e hLj_1=>?_
 refine cut (σ:=Unit) a5 (fun _=>(.inl (),[],[],[])) ?_ ?_
 refine sq<|wP Z<|nt<|Qk<|lop (σ:=Nat) (Q6x N k1 l0 l2) (fun a0=>(a0,[(5,.int .i64 (a0:Int)),(0,.slice qp0 k1 qc1),(1,.slice qp2 l2.length qc3)],[.sli 2 Qd qp0 qc1 l0,.sli 2 Qd qp2 qc3 l2],[])) 0 e [5,0,1] [0,1] Z fun a0 aH aI e hLu1=>?_
 unfold Q6x at e
 try dsimp only at e ⊢
 refine Q5<|sq<|wP2 Z<|wN Z Q3d<|wP Z<|Qi (Nlt a0 k1)<|nk4 14 5 0 1 Z ?_
 refine Qs e Z (fun e=>?_) fun e=>?_
 refine k3 5 0 1 Z<|kt<|Q5<|Qk<|Q5<|QG [0,1,2,3,4,5,6,7,8] Z Z fun z=>xP2 z 0 Z<|kg e fun a1 e=>kn e fun a6 a7 e=>Q9J z 2 0 a0 Z Z Z Zq Z Z Z Z Z Z a1 a7 Q3d Q7a fun aJ aK aF aD=>QJ Q1z 1 Z fun aL a8 _=>?_
 subst a8
 refine xL z 3 0 0 [_,_] Z Q7a tA_69 Z<|xP2 z 4 Z<|kn e fun a9 aA e=>xI z 6 3 a0 Z aA Q3d Q7a fun aM aN aG aE=>QJ Q1z 1 Z fun aO aB _=>?_
 subst aB
 refine xL z 7 0 0 [_,_] Z Q7a tA_69 Z<|Q8l z 8 Z Z Z Zq Z Z Z Z (neqT _ _ a6.name a9.name a6.fields a9.fields)<|Qu z Z<|Qv<|k4 25 5 0 1 Z ?_
 refine Qs e Z (fun e=>?_) fun e=>?_
 refine k0 Z<|sq<|wP Z<|nr<|Qg<|Q3<|rb<|Q3 ?_
 obtain rfl:=(Qb hLj_1 (Qb hLu1 (zs e))).symm
 refine re1 [] [] results74 Z ⟨Z,Z,Z⟩ Z
 refine k3 5 0 1 Z<|QT<|Q6<|Qv<|Qe<|wP2 Z<|kg e fun aC e=>Qi (QD (a:=a0) (b:=1) aC)<|Qx (S':=V4 ..) Z Z Z Z Z<|Q2 ?_
 refine rnd (a0+1) (Qp hLu1 (zs e)) [5,0,1] [4,5] Z
 refine k0 Z<|QQ<|Q7<|Q7<|Qq ?_
 refine jn () (Qb hLu1 (zs e)) [] [] Z
 rintro _ j
 try dsimp only at j ⊢
 have e:=Qp hLj_1 j
 try dsimp only at e
 refine sq<|wP Z<|nr ?_
 obtain rfl:=Zi e
 refine re1 [] [] results74 Z ⟨Z,Z,Z⟩ Z
theorem QbZ {N qc1 k1 qc3:Nat} {qp0 qp2:OA} {l0 l2:List Q1n} {o0:Bool} (e:Q48 N l0 k1 l2=some o0):QY prog 191 [.slice qp0 k1 qc1,.slice qp2 l2.length qc3] [.sli 5 Q1p qp0 qc1 l0,.sli 5 Q1p qp2 qc3 l2] [] (R0 (.bool o0) [] []):=by
 unfold Q48 at e
 refine Qt func191 Z ntmps191 Z (S:=[_,_]) Z fun C=>sq<|wP Z<|nk2 0 1 Z<|Q5<|sq<|wP Z<|wN Z Q4O<|wP Z<|wN Z Q4O<|wP Z<|Qi (Nne k1 l2.length)<|nk3 10 0 1 Z ?_
 refine Qs e Z (fun e=>?_) fun e=>?_
 refine k0 Z<|sq<|wP Z<|nr<|Q3 ?_
 obtain rfl:=Zi e
 refine re1 [] [] results191 Z ⟨Z,Z,Z⟩ Z
 refine k2 0 1 Z<|kt<|Q5<|ks e fun a5 e hLj_1=>?_
 refine cut (σ:=Unit) a5 (fun _=>(.inl (),[],[],[])) ?_ ?_
 refine sq<|wP Z<|nt<|Qk<|lop (σ:=Nat) (Q6N N k1 l0 l2) (fun a0=>(a0,[(5,.int .i64 (a0:Int)),(0,.slice qp0 k1 qc1),(1,.slice qp2 l2.length qc3)],[.sli 5 Q1p qp0 qc1 l0,.sli 5 Q1p qp2 qc3 l2],[])) 0 e [5,0,1] [0,1] Z fun a0 aH aI e hLu1=>?_
 unfold Q6N at e
 try dsimp only at e ⊢
 refine Q5<|sq<|wP2 Z<|wN Z Q4O<|wP Z<|Qi (Nlt a0 k1)<|nk4 14 5 0 1 Z ?_
 refine Qs e Z (fun e=>?_) fun e=>?_
 refine k3 5 0 1 Z<|kt<|Q5<|Qk<|Q5<|QG [0,1,2,3,4,5,6,7,8] Z Z fun z=>xP2 z 0 Z<|kg e fun a1 e=>kn e fun aB a6 e=>Q9J z 2 0 a0 Z Z Z Zq Z Z Z Z Z Z a1 a6 Q4O Q7i fun aJ aK aF aC=>QJ Q5P 1 Z fun aL a7 _=>?_
 subst a7
 refine xL z 3 0 0 (V5 ..) Z Q7i tA_59 Z<|xP2 z 4 Z<|kn e fun aD a8 e=>xI z 6 3 a0 Z a8 Q4O Q7i fun aM aN aG aE=>QJ Q5P 1 Z fun aO a9 _=>?_
 subst a9
 refine xL z 7 0 0 (V5 ..) Z Q7i tA_59 Z<|Q8l z 8 Z Z Z Zq Z Z Z Z (neqA _ _ aB aD)<|Qu z Z<|Qv<|k4 25 5 0 1 Z ?_
 refine Qs e Z (fun e=>?_) fun e=>?_
 refine k0 Z<|sq<|wP Z<|nr<|Qg<|Q3<|rb<|Q3 ?_
 obtain rfl:=(Qb hLj_1 (Qb hLu1 (zs e))).symm
 refine re1 [] [] results191 Z ⟨Z,Z,Z⟩ Z
 refine k3 5 0 1 Z<|QT<|Q6<|Qv<|Qe<|wP2 Z<|kg e fun aA e=>Qi (QD (a:=a0) (b:=1) aA)<|Qx (S':=V4 ..) Z Z Z Z Z<|Q2 ?_
 refine rnd (a0+1) (Qp hLu1 (zs e)) [5,0,1] [4,5] Z
 refine k0 Z<|QQ<|Q7<|Q7<|Qq ?_
 refine jn () (Qb hLu1 (zs e)) [] [] Z
 rintro _ j
 try dsimp only at j ⊢
 have e:=Qp hLj_1 j
 try dsimp only at e
 refine sq<|wP Z<|nr ?_
 obtain rfl:=Zi e
 refine re1 [] [] results191 Z ⟨Z,Z,Z⟩ Z
def Q5O (rc:Int→Int→Int→ByteArray→Int→Int→(List Qc)→Nat→Int→Int→Int→ByteArray→Int→Int→(List Q4)→Option (Bool)):Prop:=∀ (a0:Int)(a1:Int)(a2:Int)(a3:ByteArray)(a4:Int)(a5:Int)(qp0:OA)(qc1:Nat)(l6:List Qc)(k7:Nat)(a8:Int)(a9:Int)(a10:Int)(a11:ByteArray)(a12:Int)(a13:Int)(qp2:OA)(qc3:Nat)(l14:List Q4)(o0:Bool),rc a0 a1 a2 a3 a4 a5 l6 k7 a8 a9 a10 a11 a12 a13 l14=some o0→QY prog 192 [.agg #[.int .u8 a0,.int .u8 a1,.int .i64 a2,.string a3,.int .i64 a4,.int .u8 a5,.slice qp0 k7 qc1],.agg #[.int .u8 a8,.int .u8 a9,.int .i64 a10,.string a11,.int .i64 a12,.int .u8 a13,.slice qp2 l14.length qc3]] [.sli 7 QI qp0 qc1 l6,.sli 7 Qj qp2 qc3 l14] [] (R0 (.bool o0) [] [])
theorem Qao (N:Nat)(rc:Int→Int→Int→ByteArray→Int→Int→(List Qc)→Nat→Int→Int→Int→ByteArray→Int→Int→(List Q4)→Option (Bool))(ih:Q5O rc)(a6:OA)(a7:Nat)(l0:List Qc)(k1:Nat)(a8:OA)(a9:Nat)(l2:List Q4)(o0:Bool)(e:Q4f N rc l0 k1 l2=some o0):QY prog 194 [.slice a6 k1 a7,.slice a8 l2.length a9] [.sli 7 QI a6 a7 l0,.sli 7 Qj a8 a9 l2] [] (R0 (.bool o0) [] []):=by
 unfold Q4f at e
 refine Qt func194 Z ntmps194 Z (S:=[_,_]) Z fun C=>sq<|wP Z<|nk2 0 1 Z<|Q5<|sq<|wP Z<|wN Z Q1g<|wP Z<|wN Z Q1g<|wP Z<|Qi (Nne k1 l2.length)<|nk3 10 0 1 Z ?_
 refine Qs e Z (fun e=>?_) fun e=>?_
 refine k0 Z<|sq<|wP Z<|nr<|Q3 ?_
 obtain rfl:=Zi e
 refine re1 [] [] results194 Z ⟨Z,Z,Z⟩ Z
 refine k2 0 1 Z<|kt<|Q5<|ks e fun aC e hLj_1=>?_
 refine cut (σ:=Unit) aC (fun _=>(.inl (),[],[],[])) ?_ ?_
 refine sq<|wP Z<|nt<|Qk<|lop (σ:=Nat) (Q5h N k1 l0 l2 rc) (fun a0=>(a0,[(5,.int .i64 (a0:Int)),(0,.slice a6 k1 a7),(1,.slice a8 l2.length a9)],[.sli 7 QI a6 a7 l0,.sli 7 Qj a8 a9 l2],[])) 0 e [5,0,1] [0,1] Z fun a0 aR aS e hLu1=>?_
 unfold Q5h at e
 try dsimp only at e ⊢
 refine Q5<|sq<|wP2 Z<|wN Z Q1g<|wP Z<|Qi (Nlt a0 k1)<|nk4 14 5 0 1 Z ?_
 refine Qs e Z (fun e=>?_) fun e=>?_
 refine k3 5 0 1 Z<|kt<|Q5<|Qk<|Q5<|QG [0,1,2,3,4,5,6,7,9] Z Z fun z=>xP2 z 0 Z<|kg e fun aB e=>kn e fun a1 aD e=>Q9J z 2 0 a0 Z Z Z Zq Z Z Z Z Z Z aB aD Q1g Q1t fun aT aU aP aM=>QJ Q3h 1 Z fun aE aF _=>?_
 subst aF
 refine xL z 3 1 0 (V7 ..) Z Q1t Q3z Z<|xP2 z 4 Z<|kn e fun a5 aG e=>xI z 6 4 a0 Z aG Q1g Q1t fun aV aW aQ aN=>QJ Q1G 1 Z fun aH aI _=>?_
 subst aI
 refine xL z 7 1 0 (V7 ..) Z Q1t Q3z Z<|xS z 8 Z<|kn e fun aX aJ e=>wC [] [] Z fn_192 Z (ih a1.kind a1.value.k a1.value.n a1.value.s a1.var a1.op aE.1 aE.2 (a1.kids++a1.kidsT) a1.kids.length a5.kind a5.value.k a5.value.n a5.value.s a5.var a5.op aH.1 aH.2 a5.kids _ aJ) (asK [3,0] Z) Z (H':=[]) Z ?_
 rintro _ _ _ ⟨rfl,rfl,rfl⟩
 refine Q2<|wxx 0 [] Z<|xP z 9 Z<|Qu z Z<|Qv<|k4 26 5 0 1 Z ?_
 refine Qs e Z (fun e=>?_) fun e=>?_
 refine k0 Z<|sq<|wP Z<|nr<|Qg<|Q3<|rb<|Q3 ?_
 obtain rfl:=(Qb hLj_1 (Qb hLu1 (zs e))).symm
 refine re1 [] [] results194 Z ⟨Z,Z,Z⟩ Z
 refine k3 5 0 1 Z<|QT<|Q6<|Qv<|Qe<|wP2 Z<|kg e fun aK e=>Qi (QD (a:=a0) (b:=1) aK)<|Qx (S':=V4 ..) Z Z Z Z Z<|Q2 ?_
 refine rnd (a0+1) (Qp hLu1 (zs e)) [5,0,1] [6,7] Z
 refine k0 Z<|QQ<|Q7<|Q7<|Qq ?_
 refine jn () (Qb hLu1 (zs e)) [] [] Z
 rintro _ j
 try dsimp only at j ⊢
 have e:=Qp hLj_1 j
 try dsimp only at e
 refine sq<|wP Z<|nr ?_
 obtain rfl:=Zi e
 refine re1 [] [] results194 Z ⟨Z,Z,Z⟩ Z
theorem QaU (N:Nat)(rc:Int→Int→Int→ByteArray→Int→Int→(List Qc)→Nat→Int→Int→Int→ByteArray→Int→Int→(List Q4)→Option (Bool))(ih:Q5O rc):Q5O (Q3s N rc):=by
 intro a0 a1 a2 a3 a4 a5 qp0 qc1 l6 k7 a8 a9 a10 a11 a12 a13 qp2 qc3 l14 o0 e
 unfold Q3s at e
 refine Qt func192 Z ntmps192 Z (S:=[_,_]) Z fun C=>sq<|wB Z fun g2=>wB Z fun g3=>wP Z<|nk2 3 2 Z<|Q5<|kn e fun bj_1 e hLj_1=>?_
 unfold Q6O at e
 refine cut (σ:=Bool) bj_1 (fun j_1_4=>(j_1_4,[(4,.bool j_1_4)],[],[])) ?_ ?_
 refine Qe<|wF Z Qcz<|wD 1 0 Z tS_61 tA_61 Z<|wF Z Qcz<|wD 0 0 Z tS_61 tA_61 Z<|wP2 Z ?_
 refine QE e (fun e=>?_) fun e=>?_
 refine wF Z Qaw<|wM 1 1 (V3 ..) Z Qz Q17 Z<|wF Z Qaw<|wM 0 1 (V3 ..) Z Qz Q17 Z<|Q9g Z Z Z Zq Z Z Z (eqlV _ _ (⟨a1,a2,a3⟩ : V) (⟨a9,a10,a11⟩ : V))<|wP2 Z ?_
 refine QE e (fun e=>?_) fun e=>?_
 refine wF Z Q7g<|wD 1 4 Z QV Q13 Z<|wF Z Q7g<|wD 0 4 Z QV Q13 Z<|wP2 Z<|wP Z ?_
 refine QE e (fun e=>?_) fun e=>?_
 refine wF Z Q6S<|wD 1 5 Z Qa2 Qa0 Z<|wF Z Q6S<|wD 0 5 Z Qa2 Qa0 Z<|wP2 Z<|wP Z ?_
 refine QE e (fun e=>?_) fun e=>?_
 refine wF Z Q60<|wD 1 6 Z Q4k Q4M Z<|wF Z Q60<|wD 0 6 Z Q4k Q4M Z<|kn e fun v36 hc36 e=>wC [] [0,1] Z fn_194 Z (Qao N rc ih qp0 qc1 l6 k7 qp2 qc3 l14 _ hc36) (asK [0,1] Z) Z (H':=[_,_]) Z ?_
 rintro _ _ _ ⟨rfl,rfl,rfl⟩
 refine wP2 Z<|Q2<|Qo [] Z (H':=[]) Z ?_
 refine jM v36 e [4] [] Z
 refine wO4 Z<|wO Z<|wP2 Z<|Q2<|Qo [] Z (H':=[]) Z ?_
 refine jM false e [4] [] Z
 refine wO4 Z<|wO Z<|wP2 Z<|wO4 Z<|wO Z<|wP2 Z<|Q2<|Qo [] Z (H':=[]) Z ?_
 refine jM false e [4] [] Z
 refine wO4 Z<|wO Z<|wP2 Z<|wO4 Z<|wO Z<|wP2 Z<|wO4 Z<|wO Z<|wP2 Z<|Q2<|Qo [] Z (H':=[]) Z ?_
 refine jM false e [4] [] Z
 refine wO4 Z<|wO Z<|wP2 Z<|wO4 Z<|wO Z<|wP2 Z<|wO4 Z<|wO Z<|wP2 Z<|wO4 Z<|wO Z<|wP2 Z<|Q2<|Qo [] Z (H':=[]) Z ?_
 refine jM false e [4] [] Z
 rintro j_1_4 j
 try dsimp only at j ⊢
 have e:=hLj_1
 try rw [j] at e
 refine Qm ?_
 obtain rfl:=Zi e
 refine re1 [] [] results192 Z ⟨Z,Z,Z⟩ Z
theorem Q1U : ∀ (N:Nat),Q5O (QK N):=by
 intro N
 induction N with
 | zero=>intro a0 a1 a2 a3 a4 a5 qp0 qc1 l6 k7 a8 a9 a10 a11 a12 a13 qp2 qc3 l14 o0 e;cases e
 | succ N ih=>exact QaU N (QK N) ih
theorem Q59 {N qc1 k3 qc3 k11 qc5 qc7:Nat} {a0 a1 a4 a5 a6 a8 a9 a12 a13 a15 a16 a17 a19 a20:Int} {qp0 qp2 qp4 qp6:OA} {l2 l14:List Q1n} {a7 a18:ByteArray} {l10:List Qc} {l21:List Q4} {o0:Bool} (e:Q1j N a0 a1 l2 k3 a4 a5 a6 a7 a8 a9 l10 k11 a12 a13 l14 a15 a16 a17 a18 a19 a20 l21=some o0):QY prog 144 [.agg #[.int .u8 a0,.int .i64 a1,.slice qp0 k3 qc1,.int .u8 a4,.int .u8 a5,.int .i64 a6,.string a7,.int .i64 a8,.int .u8 a9,.slice qp2 k11 qc3],.agg #[.int .u8 a12,.int .i64 a13,.slice qp4 l14.length qc5,.int .u8 a15,.int .u8 a16,.int .i64 a17,.string a18,.int .i64 a19,.int .u8 a20,.slice qp6 l21.length qc7]] [.sli 5 Q1p qp0 qc1 l2,.sli 7 QI qp2 qc3 l10,.sli 5 Q1p qp4 qc5 l14,.sli 7 Qj qp6 qc7 l21] [] (R0 (.bool o0) [] []):=by
 unfold Q1j at e
 refine Qt func144 Z ntmps144 Z (S:=[_,_]) Z fun C=>sq<|wB Z fun g2=>wB Z fun g3=>wP Z<|nk2 3 2 Z<|Q5<|kn e fun bj_1 e hLj_1=>?_
 unfold Q4G at e
 refine cut (σ:=Bool) bj_1 (fun j_1_4=>(j_1_4,[(4,.bool j_1_4)],[],[])) ?_ ?_
 refine Qe<|wF Z Q8H<|wD 1 0 Z QcC Qcw Z<|wF Z Q8H<|wD 0 0 Z QcC Qcw Z<|wP2 Z ?_
 refine QE e (fun e=>?_) fun e=>?_
 refine wF Z QcA<|wD 1 1 Z QV Q13 Z<|wF Z QcA<|wD 0 1 Z QV Q13 Z<|wP2 Z<|wP Z ?_
 refine QE e (fun e=>?_) fun e=>?_
 refine wF Z Q7h<|wD 1 2 Z Qad QaD Z<|wF Z Q7h<|wD 0 2 Z Qad QaD Z<|kn e fun v22 hc22 e=>c0 [] [0,1] Z fn_191 hc22 QbZ [0,2] [_,_] Z<|wP2 Z ?_
 refine QE e (fun e=>?_) fun e=>?_
 refine wF Z Q8I<|wM 1 3 (V7 ..) Z Q1t Q3z Z<|wF Z Q8I<|wM 0 3 (V7 ..) Z Q1t Q3z Z<|kn e fun v29 hc29 e=>wC [] [0,1] Z fn_192 Z (Q1U N a4 a5 a6 a7 a8 a9 qp2 qc3 l10 k11 a15 a16 a17 a18 a19 a20 qp6 qc7 l21 _ hc29) (asK [1,3] Z) Z (H':=[_,_]) Z ?_
 rintro _ _ _ ⟨rfl,rfl,rfl⟩
 refine wP2 Z<|Q2<|Qo [] Z (H':=[]) Z ?_
 refine jM v29 e [4] [] Z
 refine wO4 Z<|wO Z<|wP2 Z<|Q2<|Qo [] Z (H':=[]) Z ?_
 refine jM false e [4] [] Z
 refine wO4 Z<|wO Z<|wP2 Z<|wO4 Z<|wO Z<|wP2 Z<|Q2<|Qo [] Z (H':=[]) Z ?_
 refine jM false e [4] [] Z
 refine wO4 Z<|wO Z<|wP2 Z<|wO4 Z<|wO Z<|wP2 Z<|wO4 Z<|wO Z<|wP2 Z<|Q2<|Qo [] Z (H':=[]) Z ?_
 refine jM false e [4] [] Z
 rintro j_1_4 j
 try dsimp only at j ⊢
 have e:=hLj_1
 try rw [j] at e
 refine Qm ?_
 obtain rfl:=Zi e
 refine re1 [] [] results144 Z ⟨Z,Z,Z⟩ Z
theorem Qbj {N qc1 k1 qc3:Nat} {qp0 qp2:OA} {l0:List QM} {l2:List Qn} {o0:Bool} (e:Q3M N l0 k1 l2=some o0):QY prog 115 [.slice qp0 k1 qc1,.slice qp2 l2.length qc3] [.sli 10 Q1J qp0 qc1 l0,.sli 10 QB qp2 qc3 l2] [] (R0 (.bool o0) [] []):=by
 unfold Q3M at e
 refine Qt func115 Z ntmps115 Z (S:=[_,_]) Z fun C=>sq<|wP Z<|nk2 0 1 Z<|Q5<|sq<|wP Z<|wN Z Q4d<|wP Z<|wN Z Q4d<|wP Z<|Qi (Nne k1 l2.length)<|nk3 10 0 1 Z ?_
 refine Qs e Z (fun e=>?_) fun e=>?_
 refine k0 Z<|sq<|wP Z<|nr<|Q3 ?_
 obtain rfl:=Zi e
 refine re1 [] [] results115 Z ⟨Z,Z,Z⟩ Z
 refine k2 0 1 Z<|kt<|Q5<|ks e fun a5 e hLj_1=>?_
 refine cut (σ:=Unit) a5 (fun _=>(.inl (),[],[],[])) ?_ ?_
 refine sq<|wP Z<|nt<|Qk<|lop (σ:=Nat) (Q6v N k1 l0 l2) (fun a0=>(a0,[(5,.int .i64 (a0:Int)),(0,.slice qp0 k1 qc1),(1,.slice qp2 l2.length qc3)],[.sli 10 Q1J qp0 qc1 l0,.sli 10 QB qp2 qc3 l2],[])) 0 e [5,0,1] [0,1] Z fun a0 aG aH e hLu1=>?_
 unfold Q6v at e
 try dsimp only at e ⊢
 refine Q5<|sq<|wP2 Z<|wN Z Q4d<|wP Z<|Qi (Nlt a0 k1)<|nk4 14 5 0 1 Z ?_
 refine Qs e Z (fun e=>?_) fun e=>?_
 refine k3 5 0 1 Z<|kt<|Q5<|Qk<|Q5<|QG [0,1,2,3,4,5,6,7,9] Z Z fun z=>xP2 z 0 Z<|kg e fun a1 e=>kn e fun aI a6 e=>Q9J z 2 0 a0 Z Z Z Zq Z Z Z Z Z Z a1 a6 Q4d Q3Q fun aJ aK aE aC=>QJ Q8d 1 Z fun aL a7 _=>?_
 subst a7
 refine xL z 3 2 0 (V10 ..) Z Q3Q Q9b Z<|xP2 z 4 Z<|kn e fun aM a8 e=>xI z 6 5 a0 Z a8 Q4d Q3Q fun aN aO aF aD=>QJ Q33 1 Z fun aP a9 _=>?_
 subst a9
 refine xL z 7 2 0 (V10 ..) Z Q3Q Q9b Z<|xS z 8 Z<|kn e fun aQ aA e=>c0 [] [] Z fn_144 aA Q59 [4,5,0,1] [] Z<|Q2<|wxx 0 [] Z<|xP z 9 Z<|Qu z Z<|Qv<|k4 26 5 0 1 Z ?_
 refine Qs e Z (fun e=>?_) fun e=>?_
 refine k0 Z<|sq<|wP Z<|nr<|Qg<|Q3<|rb<|Q3 ?_
 obtain rfl:=(Qb hLj_1 (Qb hLu1 (zs e))).symm
 refine re1 [] [] results115 Z ⟨Z,Z,Z⟩ Z
 refine k3 5 0 1 Z<|QT<|Q6<|Qv<|Qe<|wP2 Z<|kg e fun aB e=>Qi (QD (a:=a0) (b:=1) aB)<|Qx (S':=V4 ..) Z Z Z Z Z<|Q2 ?_
 refine rnd (a0+1) (Qp hLu1 (zs e)) [5,0,1] [8,9] Z
 refine k0 Z<|QQ<|Q7<|Q7<|Qq ?_
 refine jn () (Qb hLu1 (zs e)) [] [] Z
 rintro _ j
 try dsimp only at j ⊢
 have e:=Qp hLj_1 j
 try dsimp only at e
 refine sq<|wP Z<|nr ?_
 obtain rfl:=Zi e
 refine re1 [] [] results115 Z ⟨Z,Z,Z⟩ Z
theorem Qbk {N qc1 k1 qc3:Nat} {qp0 qp2:OA} {l0:List Qc} {l2:List Q4} {o0:Bool} (e:Q3N N l0 k1 l2=some o0):QY prog 194 [.slice qp0 k1 qc1,.slice qp2 l2.length qc3] [.sli 7 QI qp0 qc1 l0,.sli 7 Qj qp2 qc3 l2] [] (R0 (.bool o0) [] []):=by
 unfold Q3N at e
 refine Qt func194 Z ntmps194 Z (S:=[_,_]) Z fun C=>sq<|wP Z<|nk2 0 1 Z<|Q5<|sq<|wP Z<|wN Z Q1g<|wP Z<|wN Z Q1g<|wP Z<|Qi (Nne k1 l2.length)<|nk3 10 0 1 Z ?_
 refine Qs e Z (fun e=>?_) fun e=>?_
 refine k0 Z<|sq<|wP Z<|nr<|Q3 ?_
 obtain rfl:=Zi e
 refine re1 [] [] results194 Z ⟨Z,Z,Z⟩ Z
 refine k2 0 1 Z<|kt<|Q5<|ks e fun a7 e hLj_1=>?_
 refine cut (σ:=Unit) a7 (fun _=>(.inl (),[],[],[])) ?_ ?_
 refine sq<|wP Z<|nt<|Qk<|lop (σ:=Nat) (Q6w N k1 l0 l2) (fun a0=>(a0,[(5,.int .i64 (a0:Int)),(0,.slice qp0 k1 qc1),(1,.slice qp2 l2.length qc3)],[.sli 7 QI qp0 qc1 l0,.sli 7 Qj qp2 qc3 l2],[])) 0 e [5,0,1] [0,1] Z fun a0 aK aL e hLu1=>?_
 unfold Q6w at e
 try dsimp only at e ⊢
 refine Q5<|sq<|wP2 Z<|wN Z Q1g<|wP Z<|Qi (Nlt a0 k1)<|nk4 14 5 0 1 Z ?_
 refine Qs e Z (fun e=>?_) fun e=>?_
 refine k3 5 0 1 Z<|kt<|Q5<|Qk<|Q5<|QG [0,1,2,3,4,5,6,7,9] Z Z fun z=>xP2 z 0 Z<|kg e fun a6 e=>kn e fun a1 a8 e=>Q9J z 2 0 a0 Z Z Z Zq Z Z Z Z Z Z a6 a8 Q1g Q1t fun aM aN aI aG=>QJ Q3h 1 Z fun a9 aA _=>?_
 subst aA
 refine xL z 3 1 0 (V7 ..) Z Q1t Q3z Z<|xP2 z 4 Z<|kn e fun a5 aB e=>xI z 6 4 a0 Z aB Q1g Q1t fun aO aP aJ aH=>QJ Q1G 1 Z fun aC aD _=>?_
 subst aD
 refine xL z 7 1 0 (V7 ..) Z Q1t Q3z Z<|xS z 8 Z<|kn e fun aQ aE e=>wC [] [] Z fn_192 Z (Q1U N a1.kind a1.value.k a1.value.n a1.value.s a1.var a1.op a9.1 a9.2 (a1.kids++a1.kidsT) a1.kids.length a5.kind a5.value.k a5.value.n a5.value.s a5.var a5.op aC.1 aC.2 a5.kids _ aE) (asK [3,0] Z) Z (H':=[]) Z ?_
 rintro _ _ _ ⟨rfl,rfl,rfl⟩
 refine Q2<|wxx 0 [] Z<|xP z 9 Z<|Qu z Z<|Qv<|k4 26 5 0 1 Z ?_
 refine Qs e Z (fun e=>?_) fun e=>?_
 refine k0 Z<|sq<|wP Z<|nr<|Qg<|Q3<|rb<|Q3 ?_
 obtain rfl:=(Qb hLj_1 (Qb hLu1 (zs e))).symm
 refine re1 [] [] results194 Z ⟨Z,Z,Z⟩ Z
 refine k3 5 0 1 Z<|QT<|Q6<|Qv<|Qe<|wP2 Z<|kg e fun aF e=>Qi (QD (a:=a0) (b:=1) aF)<|Qx (S':=V4 ..) Z Z Z Z Z<|Q2 ?_
 refine rnd (a0+1) (Qp hLu1 (zs e)) [5,0,1] [6,7] Z
 refine k0 Z<|QQ<|Q7<|Q7<|Qq ?_
 refine jn () (Qb hLu1 (zs e)) [] [] Z
 rintro _ j
 try dsimp only at j ⊢
 have e:=Qp hLj_1 j
 try dsimp only at e
 refine sq<|wP Z<|nr ?_
 obtain rfl:=Zi e
 refine re1 [] [] results194 Z ⟨Z,Z,Z⟩ Z
theorem Q5q {N qc1 k4 qc3:Nat} {a0 a1 a2 a5 a6 a7:Int} {qp0 qp2:OA} {l3:List Qc} {l8:List Q4} {o0:Bool} (e:Q1s N a0 a1 a2 l3 k4 a5 a6 a7 l8=some o0):QY prog 146 [.agg #[.int .u8 a0,.int .i64 a1,.int .i64 a2,.slice qp0 k4 qc1],.agg #[.int .u8 a5,.int .i64 a6,.int .i64 a7,.slice qp2 l8.length qc3]] [.sli 7 QI qp0 qc1 l3,.sli 7 Qj qp2 qc3 l8] [] (R0 (.bool o0) [] []):=by
 unfold Q1s at e
 refine Qt func146 Z ntmps146 Z (S:=[_,_]) Z fun C=>sq<|wB Z fun g2=>wB Z fun g3=>wP Z<|nk2 3 2 Z<|Q5<|kn e fun bj_1 e hLj_1=>?_
 unfold Q4X at e
 refine cut (σ:=Bool) bj_1 (fun j_1_4=>(j_1_4,[(4,.bool j_1_4)],[],[])) ?_ ?_
 refine Qe<|wF Z tF_81_0<|wD 1 0 Z tS_79 tA_79 Z<|wF Z tF_81_0<|wD 0 0 Z tS_79 tA_79 Z<|wP2 Z ?_
 refine QE e (fun e=>?_) fun e=>?_
 refine wF Z Q93<|wD 1 1 Z QV Q13 Z<|wF Z Q93<|wD 0 1 Z QV Q13 Z<|wP2 Z<|wP Z ?_
 refine QE e (fun e=>?_) fun e=>?_
 refine wF Z Q94<|wD 1 2 Z QV Q13 Z<|wF Z Q94<|wD 0 2 Z QV Q13 Z<|wP2 Z<|wP Z ?_
 refine QE e (fun e=>?_) fun e=>?_
 refine wF Z Q61<|wD 1 3 Z Q4k Q4M Z<|wF Z Q61<|wD 0 3 Z Q4k Q4M Z<|kn e fun v29 hc29 e=>c0 [] [0,1] Z fn_194 hc29 Qbk [0,1] [_,_] Z<|wP2 Z<|Q2<|Qo [] Z (H':=[]) Z ?_
 refine jM v29 e [4] [] Z
 refine wO4 Z<|wO Z<|wP2 Z<|Q2<|Qo [] Z (H':=[]) Z ?_
 refine jM false e [4] [] Z
 refine wO4 Z<|wO Z<|wP2 Z<|wO4 Z<|wO Z<|wP2 Z<|Q2<|Qo [] Z (H':=[]) Z ?_
 refine jM false e [4] [] Z
 refine wO4 Z<|wO Z<|wP2 Z<|wO4 Z<|wO Z<|wP2 Z<|wO4 Z<|wO Z<|wP2 Z<|Q2<|Qo [] Z (H':=[]) Z ?_
 refine jM false e [4] [] Z
 rintro j_1_4 j
 try dsimp only at j ⊢
 have e:=hLj_1
 try rw [j] at e
 refine Qm ?_
 obtain rfl:=Zi e
 refine re1 [] [] results146 Z ⟨Z,Z,Z⟩ Z
theorem QbY {N qc1 k1 qc3:Nat} {qp0 qp2:OA} {l0:List QS} {l2:List QO} {o0:Bool} (e:Q47 N l0 k1 l2=some o0):QY prog 116 [.slice qp0 k1 qc1,.slice qp2 l2.length qc3] [.sli 4 Q1W qp0 qc1 l0,.sli 4 QF qp2 qc3 l2] [] (R0 (.bool o0) [] []):=by
 unfold Q47 at e
 refine Qt func116 Z ntmps116 Z (S:=[_,_]) Z fun C=>sq<|wP Z<|nk2 0 1 Z<|Q5<|sq<|wP Z<|wN Z Q5e<|wP Z<|wN Z Q5e<|wP Z<|Qi (Nne k1 l2.length)<|nk3 10 0 1 Z ?_
 refine Qs e Z (fun e=>?_) fun e=>?_
 refine k0 Z<|sq<|wP Z<|nr<|Q3 ?_
 obtain rfl:=Zi e
 refine re1 [] [] results116 Z ⟨Z,Z,Z⟩ Z
 refine k2 0 1 Z<|kt<|Q5<|ks e fun a5 e hLj_1=>?_
 refine cut (σ:=Unit) a5 (fun _=>(.inl (),[],[],[])) ?_ ?_
 refine sq<|wP Z<|nt<|Qk<|lop (σ:=Nat) (Q6M N k1 l0 l2) (fun a0=>(a0,[(5,.int .i64 (a0:Int)),(0,.slice qp0 k1 qc1),(1,.slice qp2 l2.length qc3)],[.sli 4 Q1W qp0 qc1 l0,.sli 4 QF qp2 qc3 l2],[])) 0 e [5,0,1] [0,1] Z fun a0 aG aH e hLu1=>?_
 unfold Q6M at e
 try dsimp only at e ⊢
 refine Q5<|sq<|wP2 Z<|wN Z Q5e<|wP Z<|Qi (Nlt a0 k1)<|nk4 14 5 0 1 Z ?_
 refine Qs e Z (fun e=>?_) fun e=>?_
 refine k3 5 0 1 Z<|kt<|Q5<|Qk<|Q5<|QG [0,1,2,3,4,5,6,7,9] Z Z fun z=>xP2 z 0 Z<|kg e fun a1 e=>kn e fun aI a6 e=>Q9J z 2 0 a0 Z Z Z Zq Z Z Z Z Z Z a1 a6 Q5e Q6o fun aJ aK aE aC=>QJ Q8C 1 Z fun aL a7 _=>?_
 subst a7
 refine xL z 3 1 0 (V4 ..) Z Q6o Qb1 Z<|xP2 z 4 Z<|kn e fun aM a8 e=>xI z 6 4 a0 Z a8 Q5e Q6o fun aN aO aF aD=>QJ Q6Y 1 Z fun aP a9 _=>?_
 subst a9
 refine xL z 7 1 0 (V4 ..) Z Q6o Qb1 Z<|xS z 8 Z<|kn e fun aQ aA e=>c0 [] [] Z fn_146 aA Q5q [3,0] [] Z<|Q2<|wxx 0 [] Z<|xP z 9 Z<|Qu z Z<|Qv<|k4 26 5 0 1 Z ?_
 refine Qs e Z (fun e=>?_) fun e=>?_
 refine k0 Z<|sq<|wP Z<|nr<|Qg<|Q3<|rb<|Q3 ?_
 obtain rfl:=(Qb hLj_1 (Qb hLu1 (zs e))).symm
 refine re1 [] [] results116 Z ⟨Z,Z,Z⟩ Z
 refine k3 5 0 1 Z<|QT<|Q6<|Qv<|Qe<|wP2 Z<|kg e fun aB e=>Qi (QD (a:=a0) (b:=1) aB)<|Qx (S':=V4 ..) Z Z Z Z Z<|Q2 ?_
 refine rnd (a0+1) (Qp hLu1 (zs e)) [5,0,1] [6,7] Z
 refine k0 Z<|QQ<|Q7<|Q7<|Qq ?_
 refine jn () (Qb hLu1 (zs e)) [] [] Z
 rintro _ j
 try dsimp only at j ⊢
 have e:=Qp hLj_1 j
 try dsimp only at e
 refine sq<|wP Z<|nr ?_
 obtain rfl:=Zi e
 refine re1 [] [] results116 Z ⟨Z,Z,Z⟩ Z
theorem Q5a {N qc1 k4 qc3 k6 qc5 qc7:Nat} {a0 a7:ByteArray} {a1 a2 a8 a9:Int} {qp0 qp2 qp4 qp6:OA} {l3:List QM} {l5:List QS} {l10:List Qn} {l11:List QO} {o0:Bool} (e:Q1k N a0 a1 a2 l3 k4 l5 k6 a7 a8 a9 l10 l11=some o0):QY prog 77 [.agg #[.string a0,.int .i64 a1,.int .i64 a2,.slice qp0 k4 qc1,.slice qp2 k6 qc3],.agg #[.string a7,.int .i64 a8,.int .i64 a9,.slice qp4 l10.length qc5,.slice qp6 l11.length qc7]] [.sli 10 Q1J qp0 qc1 l3,.sli 4 Q1W qp2 qc3 l5,.sli 10 QB qp4 qc5 l10,.sli 4 QF qp6 qc7 l11] [] (R0 (.bool o0) [] []):=by
 unfold Q1k at e
 refine Qt func77 Z ntmps77 Z (S:=[_,_]) Z fun C=>sq<|wB Z fun g2=>wB Z fun g3=>wP Z<|nk2 3 2 Z<|Q5<|kn e fun bj_1 e hLj_1=>?_
 unfold Q4I at e
 refine cut (σ:=Bool) bj_1 (fun j_1_4=>(j_1_4,[(4,.bool j_1_4)],[],[])) ?_ ?_
 refine Qe<|wF Z Qba<|wD 1 0 Z tS_9 tA_9 Z<|wF Z Qba<|wD 0 0 Z tS_9 tA_9 Z<|wP2 Z ?_
 refine QE e (fun e=>?_) fun e=>?_
 refine wF Z tF_52_1<|wD 1 1 Z QV Q13 Z<|wF Z tF_52_1<|wD 0 1 Z QV Q13 Z<|wP2 Z<|wP Z ?_
 refine QE e (fun e=>?_) fun e=>?_
 refine wF Z Qcx<|wD 1 2 Z QV Q13 Z<|wF Z Qcx<|wD 0 2 Z QV Q13 Z<|wP2 Z<|wP Z ?_
 refine QE e (fun e=>?_) fun e=>?_
 refine wF Z Q6R<|wD 1 3 Z Qa1 Qaa Z<|wF Z Q6R<|wD 0 3 Z Qa1 Qaa Z<|kn e fun v29 hc29 e=>c0 [] [0,1] Z fn_115 hc29 Qbj [0,2] [_,_] Z<|wP2 Z ?_
 refine QE e (fun e=>?_) fun e=>?_
 refine wF Z Q8G<|wD 1 4 Z QcB tA_50 Z<|wF Z Q8G<|wD 0 4 Z QcB tA_50 Z<|kn e fun v36 hc36 e=>c0 [] [0,1] Z fn_116 hc36 QbY [1,3] [_,_] Z<|wP2 Z<|Q2<|Qo [] Z (H':=[]) Z ?_
 refine jM v36 e [4] [] Z
 refine wO4 Z<|wO Z<|wP2 Z<|Q2<|Qo [] Z (H':=[]) Z ?_
 refine jM false e [4] [] Z
 refine wO4 Z<|wO Z<|wP2 Z<|wO4 Z<|wO Z<|wP2 Z<|Q2<|Qo [] Z (H':=[]) Z ?_
 refine jM false e [4] [] Z
 refine wO4 Z<|wO Z<|wP2 Z<|wO4 Z<|wO Z<|wP2 Z<|wO4 Z<|wO Z<|wP2 Z<|Q2<|Qo [] Z (H':=[]) Z ?_
 refine jM false e [4] [] Z
 refine wO4 Z<|wO Z<|wP2 Z<|wO4 Z<|wO Z<|wP2 Z<|wO4 Z<|wO Z<|wP2 Z<|wO4 Z<|wO Z<|wP2 Z<|Q2<|Qo [] Z (H':=[]) Z ?_
 refine jM false e [4] [] Z
 rintro j_1_4 j
 try dsimp only at j ⊢
 have e:=hLj_1
 try rw [j] at e
 refine Qm ?_
 obtain rfl:=Zi e
 refine re1 [] [] results77 Z ⟨Z,Z,Z⟩ Z
theorem QaK {N qc1 k1 qc3:Nat} {qp0 qp2:OA} {l0:List Q11} {l2:List Qf} {o0:Bool} (e:Q4H N l0 k1 l2=some o0):QY prog 75 [.slice qp0 k1 qc1,.slice qp2 l2.length qc3] [.sli 5 Q25 qp0 qc1 l0,.sli 5 Qh qp2 qc3 l2] [] (R0 (.bool o0) [] []):=by
 unfold Q4H at e
 refine Qt func75 Z ntmps75 Z (S:=[_,_]) Z fun C=>sq<|wP Z<|nk2 0 1 Z<|Q5<|sq<|wP Z<|wN Z Q3e<|wP Z<|wN Z Q3e<|wP Z<|Qi (Nne k1 l2.length)<|nk3 10 0 1 Z ?_
 refine Qs e Z (fun e=>?_) fun e=>?_
 refine k0 Z<|sq<|wP Z<|nr<|Q3 ?_
 obtain rfl:=Zi e
 refine re1 [] [] results75 Z ⟨Z,Z,Z⟩ Z
 refine k2 0 1 Z<|kt<|Q5<|ks e fun a5 e hLj_1=>?_
 refine cut (σ:=Unit) a5 (fun _=>(.inl (),[],[],[])) ?_ ?_
 refine sq<|wP Z<|nt<|Qk<|lop (σ:=Nat) (Q5F N k1 l0 l2) (fun a0=>(a0,[(5,.int .i64 (a0:Int)),(0,.slice qp0 k1 qc1),(1,.slice qp2 l2.length qc3)],[.sli 5 Q25 qp0 qc1 l0,.sli 5 Qh qp2 qc3 l2],[])) 0 e [5,0,1] [0,1] Z fun a0 aG aH e hLu1=>?_
 unfold Q5F at e
 try dsimp only at e ⊢
 refine Q5<|sq<|wP2 Z<|wN Z Q3e<|wP Z<|Qi (Nlt a0 k1)<|nk4 14 5 0 1 Z ?_
 refine Qs e Z (fun e=>?_) fun e=>?_
 refine k3 5 0 1 Z<|kt<|Q5<|Qk<|Q5<|QG [0,1,2,3,4,5,6,7,9] Z Z fun z=>xP2 z 0 Z<|kg e fun a1 e=>kn e fun aI a6 e=>Q9J z 2 0 a0 Z Z Z Zq Z Z Z Z Z Z a1 a6 Q3e Q2X fun aJ aK aE aC=>QJ Q8e 1 Z fun aL a7 _=>?_
 subst a7
 refine xL z 3 2 0 (V5 ..) Z Q2X Q8U Z<|xP2 z 4 Z<|kn e fun aM a8 e=>xI z 6 5 a0 Z a8 Q3e Q2X fun aN aO aF aD=>QJ Q1T 1 Z fun aP a9 _=>?_
 subst a9
 refine xL z 7 2 0 (V5 ..) Z Q2X Q8U Z<|xS z 8 Z<|kn e fun aQ aA e=>c0 [] [] Z fn_77 aA Q5a [4,5,0,1] [] Z<|Q2<|wxx 0 [] Z<|xP z 9 Z<|Qu z Z<|Qv<|k4 26 5 0 1 Z ?_
 refine Qs e Z (fun e=>?_) fun e=>?_
 refine k0 Z<|sq<|wP Z<|nr<|Qg<|Q3<|rb<|Q3 ?_
 obtain rfl:=(Qb hLj_1 (Qb hLu1 (zs e))).symm
 refine re1 [] [] results75 Z ⟨Z,Z,Z⟩ Z
 refine k3 5 0 1 Z<|QT<|Q6<|Qv<|Qe<|wP2 Z<|kg e fun aB e=>Qi (QD (a:=a0) (b:=1) aB)<|Qx (S':=V4 ..) Z Z Z Z Z<|Q2 ?_
 refine rnd (a0+1) (Qp hLu1 (zs e)) [5,0,1] [8,9] Z
 refine k0 Z<|QQ<|Q7<|Q7<|Qq ?_
 refine jn () (Qb hLu1 (zs e)) [] [] Z
 rintro _ j
 try dsimp only at j ⊢
 have e:=Qp hLj_1 j
 try dsimp only at e
 refine sq<|wP Z<|nr ?_
 obtain rfl:=Zi e
 refine re1 [] [] results75 Z ⟨Z,Z,Z⟩ Z
theorem Qbl {N qc1 k1 qc3 k3 qc5 qc7:Nat} {qp0 qp2 qp4 qp6:OA} {l0 l4:List Q8} {l2:List Q11} {l5:List Qf} {o0:Bool} (e:Q5m N l0 k1 l2 k3 l4 l5=some o0):QY prog 38 [.agg #[.slice qp0 k1 qc1,.slice qp2 k3 qc3],.agg #[.slice qp4 l4.length qc5,.slice qp6 l5.length qc7]] [.sli 2 Qd qp0 qc1 l0,.sli 5 Q25 qp2 qc3 l2,.sli 2 Qd qp4 qc5 l4,.sli 5 Qh qp6 qc7 l5] [] (R0 (.bool o0) [] []):=by
 unfold Q5m at e
 refine Qt func38 Z ntmps38 Z (S:=[_,_]) Z fun C=>sq<|wB Z fun g2=>wB Z fun g3=>wP Z<|nk2 3 2 Z<|sq<|wF Z Q4h<|wD 1 0 Z Q8u Q8F Z<|wF Z Q4h<|wD 0 0 Z Q8u Q8F Z<|kn e fun v9 hc9 e=>c0 [] [0,1] Z fn_74 hc9 Qbm [0,2] [_,_] Z<|wP Z ?_
 refine QE e (fun e=>?_) fun e=>?_
 refine wF Z Q5Z<|wD 1 1 Z Q9o Q9C Z<|wF Z Q5Z<|wD 0 1 Z Q9o Q9C Z<|kn e fun v15 hc15 e=>c0 [] [0,1] Z fn_75 hc15 QaK [1,3] [_,_] Z<|wP2 Z<|nk1 4 Z<|Qm ?_
 obtain rfl:=Zi e
 refine re1 [] [] results38 Z ⟨Z,Z,Z⟩ Z
 refine wO4 Z<|wO Z<|wP2 Z<|nk1 4 Z<|Qm ?_
 obtain rfl:=Zi e
 refine re1 [] [] results38 Z ⟨Z,Z,Z⟩ Z
theorem Qbh {N qc1 k1 qc3:Nat} {qp0 qp2:OA} {l0 l2:List Q8} {o0:Bool} (e:Q5l N l0 k1 l2=some o0):QY prog 39 [.slice qp0 k1 qc1,.slice qp2 l2.length qc3] [.sli 2 Qd qp0 qc1 l0,.sli 2 Qd qp2 qc3 l2] [] (R0 (.bool o0) [] []):=by
 unfold Q5l at e
 refine Qt func39 Z ntmps39 Z (S:=[_,_]) Z fun C=>sq<|wP Z<|nk2 0 1 Z<|Q5<|sq<|wP Z<|wN Z Q3d<|wP Z<|wN Z Q3d<|wP Z<|Qi (Nne k1 l2.length)<|nk3 11 0 1 Z ?_
 refine Qs e Z (fun e=>?_) fun e=>?_
 refine k0 Z<|sq<|wP Z<|nr<|Q3 ?_
 obtain rfl:=Zi e
 refine re1 [] [] results39 Z ⟨Z,Z,Z⟩ Z
 refine k2 0 1 Z<|kt<|sq<|wP2 Z<|wN Z Q3d<|wP Z<|kg e fun aC e=>Qi (QD (a:=l2.length) (b:=12) aC)<|kg e fun aD e=>Q98 0 Z Z Z Zq Z Z Z Z Z Q3d Q7a aD fun aA=>wP Z<|nk2 5 1 Z<|Q5<|ks e fun aE e hLj_1=>?_
 refine cut (σ:=Unit) aE (fun _=>(.inl (),[],[],[])) ?_ ?_
 refine sq<|wP Z<|nt<|Qk<|lop (σ:=Nat) (Q6u N l0 l2) (fun a0=>(a0,[(6,.int .i64 (a0:Int)),(5,.slice aA ((l0.take (l2.length+12)).length) qc1),(1,.slice qp2 l2.length qc3)],[.sli 2 Qd aA qc1 (l0.take (l2.length+12)),.sli 2 Qd qp2 qc3 l2],[])) 0 e [6,5,1] [0,2] Z fun a0 aV aW e hLu1=>?_
 unfold Q6u at e
 try dsimp only at e ⊢
 refine Q5<|sq<|wP2 Z<|wN Z Q3d<|wP Z<|Qi (Nlt a0 ((l0.take (l2.length+12)).length))<|nk4 20 6 5 1 Z ?_
 refine Qs e Z (fun e=>?_) fun e=>?_
 refine k3 6 5 1 Z<|kt<|Q5<|Qk<|Q5<|kn e fun aF e hLj_2=>?_
 unfold Q8q at e
 refine cut (σ:=Bool) aF (fun a1=>(a1,[(6,.int .i64 (a0:Int)),(5,.slice aA ((l0.take (l2.length+12)).length) qc1),(1,.slice qp2 l2.length qc3),(57,.bool a1)],[.sli 2 Qd aA qc1 (l0.take (l2.length+12)),.sli 2 Qd qp2 qc3 l2],[])) ?_ ?_
 refine QG [0,1,2,3,4,5,6,7,8,9,10,11,12,13,14,15,16,17,18,19,20,21,22,23,24,25,26,27,28,29,31,32,33,34] Z Z fun z=>xP2 z 0 Z<|xN z 2 Z Q3d<|xP z 3 Z<|QA (Nlt a0 l2.length)<|xP z 4 Z ?_
 refine Q5M e (fun e=>?_) fun e=>?_
 refine xP2 z 5 Z<|kn e fun aG aH e=>xI z 7 0 a0 Z aH Q3d Q7a fun aX aY aT aO=>QJ Q1z 1 Z fun aZ aI _=>?_
 subst aI
 refine xL z 8 0 0 [_,_] Z Q7a tA_69 Z<|xP2 z 9 Z<|kn e fun aJ aK e=>xI z 11 3 a0 Z aK Q3d Q7a fun b0 b1 aU aP=>QJ Q1z 1 Z fun b2 aL _=>?_
 subst aL
 refine xL z 12 0 0 [_,_] Z Q7a tA_69 Z<|Q8l z 13 Z Z Z Zq Z Z Z Z (eqlT _ _ aG.name aJ.name aG.fields aJ.fields)<|xP2 z 14 Z<|xP z 16 Z ?_
 refine Q5M e (fun e=>?_) fun e=>?_
 refine xO2 z 17 Z<|xO2 z 19 Z<|xO2 z 21 Z<|xO2 z 23 Z<|xO2 z 25 Z<|xO2 z 27 Z<|xO z 29 Z<|xS z 30 Z<|wO Z<|Q2<|wxx 0 [] Z<|xO2 z 31 Z<|xO z 33 Z<|xP z 34 Z<|Qu z Z ?_
 refine jM true e [6,5,1,57] [4,5] Z
 refine xP2 z 17 Z<|xN z 19 Z Q3d<|xP z 20 Z<|QA (Nge a0 l2.length)<|xP z 21 Z ?_
 refine Q5M e (fun e=>?_) fun e=>?_
 refine xP2 z 22 Z<|kn e fun a5 a6 e=>xI z 24 4 a0 Z a6 Q3d Q7a fun aQ aR aM aB=>QJ Q1z 1 Z fun aS a7 _=>?_
 subst a7
 refine xL z 25 0 0 [_,_] Z Q7a tA_69 Z<|xP2 z 26 Z<|xN z 28 Z Q3d<|xP z 29 Z<|kg e fun a8 e=>QA (i64_in a8)<|xS z 30 Z<|kn e fun _ a9 e=>?_
 try dsimp only at e
 refine c0 [] [] Z fn_53 a9 Q7K [] [] Z<|Q2<|wxx 0 [] Z<|Q8l z 31 Z Z Z Zq Z Z Z Z (eqlT _ _ a5.name EB a5.fields (MK 1 ((a0:Int) - (l2.length:Int))))<|xP2 z 32 Z<|xP z 34 Z<|Qu z Z ?_
 refine jM (!((a5.name.toList==EB.toList) && (a5.fields==(MK 1 ((a0:Int) - (l2.length:Int)))))) e [6,5,1,57] [6,7] Z
 refine xO2 z 22 Z<|xO2 z 24 Z<|xO2 z 26 Z<|xO2 z 28 Z<|xS z 30 Z<|wO Z<|Q2<|wxx 0 [] Z<|xO2 z 31 Z<|xP2 z 33 Z<|Qu z Z ?_
 refine jM false e [6,5,1,57] [4,5] Z
 refine xO2 z 5 Z<|xO2 z 7 Z<|xO2 z 9 Z<|xO2 z 11 Z<|xO2 z 13 Z<|xP2 z 15 Z<|xP2 z 17 Z<|xN z 19 Z Q3d<|xP z 20 Z<|QA (Nge a0 l2.length)<|xP z 21 Z ?_
 refine Q5M e (fun e=>?_) fun e=>?_
 refine xP2 z 22 Z<|kn e fun a5 a6 e=>xI z 24 0 a0 Z a6 Q3d Q7a fun aQ aR aM aB=>QJ Q1z 1 Z fun aS a7 _=>?_
 subst a7
 refine xL z 25 0 0 [_,_] Z Q7a tA_69 Z<|xP2 z 26 Z<|xN z 28 Z Q3d<|xP z 29 Z<|kg e fun a8 e=>QA (i64_in a8)<|xS z 30 Z<|kn e fun _ a9 e=>?_
 try dsimp only at e
 refine c0 [] [] Z fn_53 a9 Q7K [] [] Z<|Q2<|wxx 0 [] Z<|Q8l z 31 Z Z Z Zq Z Z Z Z (eqlT _ _ a5.name EB a5.fields (MK 1 ((a0:Int) - (l2.length:Int))))<|xP2 z 32 Z<|xP z 34 Z<|Qu z Z ?_
 refine jM (!((a5.name.toList==EB.toList) && (a5.fields==(MK 1 ((a0:Int) - (l2.length:Int)))))) e [6,5,1,57] [2,3] Z
 refine xO2 z 22 Z<|xO2 z 24 Z<|xO2 z 26 Z<|xO2 z 28 Z<|xS z 30 Z<|wO Z<|Q2<|wxx 0 [] Z<|xO2 z 31 Z<|xP2 z 33 Z<|Qu z Z ?_
 refine jM false e [6,5,1,57] [0,1] Z
 rintro a1 j
 try dsimp only at j ⊢
 have e:=hLj_2
 try rw [j] at e
 refine Qs e Z (fun e=>?_) fun e=>?_
 refine k0 Z<|sq<|wP Z<|nr<|Qg<|Q3<|rb<|Q3 ?_
 obtain rfl:=(Qb hLj_1 (Qb hLu1 (zs e))).symm
 refine re1 [] [] results39 Z ⟨Z,Z,Z⟩ Z
 refine k3 6 5 1 Z<|QT<|Q6<|Qv<|Qe<|wP2 Z<|kg e fun aN e=>Qi (QD (a:=a0) (b:=1) aN)<|Qx (S':=V4 ..) Z Z Z Z Z<|Q2 ?_
 refine rnd (a0+1) (Qp hLu1 (zs e)) [6,5,1] [0,1] Z
 refine k0 Z<|QQ<|Q7<|Q7<|Qq ?_
 refine jn () (Qb hLu1 (zs e)) [] [] Z
 rintro _ j
 try dsimp only at j ⊢
 have e:=Qp hLj_1 j
 try dsimp only at e
 refine sq<|wP Z<|nr ?_
 obtain rfl:=Zi e
 refine re1 [] [] results39 Z ⟨Z,Z,Z⟩ Z
theorem QbS {N qc1 k1 qc3:Nat} {qp0 qp2:OA} {l0 l2:List Q1n} {o0:Bool} (e:Q5S N l0 k1 l2=some o0):QY prog 189 [.slice qp0 k1 qc1,.slice qp2 l2.length qc3] [.sli 5 Q1p qp0 qc1 l0,.sli 5 Q1p qp2 qc3 l2] [] (R0 (.bool o0) [] []):=by
 unfold Q5S at e
 refine Qt func189 Z ntmps189 Z (S:=[_,_]) Z fun C=>sq<|wP Z<|nk2 0 1 Z<|Q5<|sq<|wP Z<|wN Z Q4O<|wP Z<|wN Z Q4O<|wP Z<|Qi (Nne k1 l2.length)<|nk3 11 0 1 Z ?_
 refine Qs e Z (fun e=>?_) fun e=>?_
 refine k0 Z<|sq<|wP Z<|nr<|Q3 ?_
 obtain rfl:=Zi e
 refine re1 [] [] results189 Z ⟨Z,Z,Z⟩ Z
 refine k2 0 1 Z<|kt<|sq<|wP2 Z<|wN Z Q4O<|wP Z<|kg e fun aC e=>Qi (QD (a:=l2.length) (b:=12) aC)<|kg e fun aD e=>Q98 0 Z Z Z Zq Z Z Z Z Z Q4O Q7i aD fun aA=>wP Z<|nk2 5 1 Z<|Q5<|ks e fun aE e hLj_1=>?_
 refine cut (σ:=Unit) aE (fun _=>(.inl (),[],[],[])) ?_ ?_
 refine sq<|wP Z<|nt<|Qk<|lop (σ:=Nat) (Q6I N l0 l2) (fun a0=>(a0,[(6,.int .i64 (a0:Int)),(5,.slice aA ((l0.take (l2.length+12)).length) qc1),(1,.slice qp2 l2.length qc3)],[.sli 5 Q1p aA qc1 (l0.take (l2.length+12)),.sli 5 Q1p qp2 qc3 l2],[])) 0 e [6,5,1] [0,2] Z fun a0 aV aW e hLu1=>?_
 unfold Q6I at e
 try dsimp only at e ⊢
 refine Q5<|sq<|wP2 Z<|wN Z Q4O<|wP Z<|Qi (Nlt a0 ((l0.take (l2.length+12)).length))<|nk4 20 6 5 1 Z ?_
 refine Qs e Z (fun e=>?_) fun e=>?_
 refine k3 6 5 1 Z<|kt<|Q5<|Qk<|Q5<|kn e fun aF e hLj_2=>?_
 unfold Q8E at e
 refine cut (σ:=Bool) aF (fun a1=>(a1,[(6,.int .i64 (a0:Int)),(5,.slice aA ((l0.take (l2.length+12)).length) qc1),(1,.slice qp2 l2.length qc3),(57,.bool a1)],[.sli 5 Q1p aA qc1 (l0.take (l2.length+12)),.sli 5 Q1p qp2 qc3 l2],[])) ?_ ?_
 refine QG [0,1,2,3,4,5,6,7,8,9,10,11,12,13,14,15,16,17,18,19,20,21,22,23,24,25,26,27,28,29,31,32,33,34] Z Z fun z=>xP2 z 0 Z<|xN z 2 Z Q4O<|xP z 3 Z<|QA (Nlt a0 l2.length)<|xP z 4 Z ?_
 refine Q5M e (fun e=>?_) fun e=>?_
 refine xP2 z 5 Z<|kn e fun aM aG e=>xI z 7 0 a0 Z aG Q4O Q7i fun aX aY aT aN=>QJ Q5P 1 Z fun aZ aH _=>?_
 subst aH
 refine xL z 8 0 0 (V5 ..) Z Q7i tA_59 Z<|xP2 z 9 Z<|kn e fun aO aI e=>xI z 11 3 a0 Z aI Q4O Q7i fun b0 b1 aU aP=>QJ Q5P 1 Z fun b2 aJ _=>?_
 subst aJ
 refine xL z 12 0 0 (V5 ..) Z Q7i tA_59 Z<|Q8l z 13 Z Z Z Zq Z Z Z Z (eqlA _ _ aM aO)<|xP2 z 14 Z<|xP z 16 Z ?_
 refine Q5M e (fun e=>?_) fun e=>?_
 refine xO2 z 17 Z<|xO2 z 19 Z<|xO2 z 21 Z<|xO2 z 23 Z<|xO2 z 25 Z<|xO2 z 27 Z<|xO z 29 Z<|xS z 30 Z<|wO Z<|Q2<|wxx 0 [] Z<|xO2 z 31 Z<|xO z 33 Z<|xP z 34 Z<|Qu z Z ?_
 refine jM true e [6,5,1,57] [4,5] Z
 refine xP2 z 17 Z<|xN z 19 Z Q4O<|xP z 20 Z<|QA (Nge a0 l2.length)<|xP z 21 Z ?_
 refine Q5M e (fun e=>?_) fun e=>?_
 refine xP2 z 22 Z<|kn e fun a5 a6 e=>xI z 24 4 a0 Z a6 Q4O Q7i fun aQ aR aK aB=>QJ Q5P 1 Z fun aS a7 _=>?_
 subst a7
 refine xL z 25 0 0 (V5 ..) Z Q7i tA_59 Z<|xP2 z 26 Z<|xN z 28 Z Q4O<|xP z 29 Z<|kg e fun a8 e=>QA (i64_in a8)<|xS z 30 Z<|kn e fun _ a9 e=>?_
 try dsimp only at e
 refine c0 [] [] Z fn_212 a9 Q84 [] [] Z<|Q2<|wxx 0 [] Z<|Q8l z 31 Z Z Z Zq Z Z Z Z (eqlA _ _ a5 (⟨0,MK 1 ((a0:Int) - (l2.length:Int)),(⟨0,0,EB⟩ : V)⟩ : Q1n))<|xP2 z 32 Z<|xP z 34 Z<|Qu z Z ?_
 refine jM (!(decide (a5=(⟨0,MK 1 ((a0:Int) - (l2.length:Int)),(⟨0,0,EB⟩ : V)⟩ : Q1n)))) e [6,5,1,57] [6,7] Z
 refine xO2 z 22 Z<|xO2 z 24 Z<|xO2 z 26 Z<|xO2 z 28 Z<|xS z 30 Z<|wO Z<|Q2<|wxx 0 [] Z<|xO2 z 31 Z<|xP2 z 33 Z<|Qu z Z ?_
 refine jM false e [6,5,1,57] [4,5] Z
 refine xO2 z 5 Z<|xO2 z 7 Z<|xO2 z 9 Z<|xO2 z 11 Z<|xO2 z 13 Z<|xP2 z 15 Z<|xP2 z 17 Z<|xN z 19 Z Q4O<|xP z 20 Z<|QA (Nge a0 l2.length)<|xP z 21 Z ?_
 refine Q5M e (fun e=>?_) fun e=>?_
 refine xP2 z 22 Z<|kn e fun a5 a6 e=>xI z 24 0 a0 Z a6 Q4O Q7i fun aQ aR aK aB=>QJ Q5P 1 Z fun aS a7 _=>?_
 subst a7
 refine xL z 25 0 0 (V5 ..) Z Q7i tA_59 Z<|xP2 z 26 Z<|xN z 28 Z Q4O<|xP z 29 Z<|kg e fun a8 e=>QA (i64_in a8)<|xS z 30 Z<|kn e fun _ a9 e=>?_
 try dsimp only at e
 refine c0 [] [] Z fn_212 a9 Q84 [] [] Z<|Q2<|wxx 0 [] Z<|Q8l z 31 Z Z Z Zq Z Z Z Z (eqlA _ _ a5 (⟨0,MK 1 ((a0:Int) - (l2.length:Int)),(⟨0,0,EB⟩ : V)⟩ : Q1n))<|xP2 z 32 Z<|xP z 34 Z<|Qu z Z ?_
 refine jM (!(decide (a5=(⟨0,MK 1 ((a0:Int) - (l2.length:Int)),(⟨0,0,EB⟩ : V)⟩ : Q1n)))) e [6,5,1,57] [2,3] Z
 refine xO2 z 22 Z<|xO2 z 24 Z<|xO2 z 26 Z<|xO2 z 28 Z<|xS z 30 Z<|wO Z<|Q2<|wxx 0 [] Z<|xO2 z 31 Z<|xP2 z 33 Z<|Qu z Z ?_
 refine jM false e [6,5,1,57] [0,1] Z
 rintro a1 j
 try dsimp only at j ⊢
 have e:=hLj_2
 try rw [j] at e
 refine Qs e Z (fun e=>?_) fun e=>?_
 refine k0 Z<|sq<|wP Z<|nr<|Qg<|Q3<|rb<|Q3 ?_
 obtain rfl:=(Qb hLj_1 (Qb hLu1 (zs e))).symm
 refine re1 [] [] results189 Z ⟨Z,Z,Z⟩ Z
 refine k3 6 5 1 Z<|QT<|Q6<|Qv<|Qe<|wP2 Z<|kg e fun aL e=>Qi (QD (a:=a0) (b:=1) aL)<|Qx (S':=V4 ..) Z Z Z Z Z<|Q2 ?_
 refine rnd (a0+1) (Qp hLu1 (zs e)) [6,5,1] [0,1] Z
 refine k0 Z<|QQ<|Q7<|Q7<|Qq ?_
 refine jn () (Qb hLu1 (zs e)) [] [] Z
 rintro _ j
 try dsimp only at j ⊢
 have e:=Qp hLj_1 j
 try dsimp only at e
 refine sq<|wP Z<|nr ?_
 obtain rfl:=Zi e
 refine re1 [] [] results189 Z ⟨Z,Z,Z⟩ Z
def Q5N (rc:Int→Int→Int→ByteArray→Int→Int→(List Qc)→Nat→Int→Int→Int→ByteArray→Int→Int→(List Q4)→Option (Bool)):Prop:=∀ (a0:Int)(a1:Int)(a2:Int)(a3:ByteArray)(a4:Int)(a5:Int)(qp0:OA)(qc1:Nat)(l6:List Qc)(k7:Nat)(a8:Int)(a9:Int)(a10:Int)(a11:ByteArray)(a12:Int)(a13:Int)(qp2:OA)(qc3:Nat)(l14:List Q4)(o0:Bool),rc a0 a1 a2 a3 a4 a5 l6 k7 a8 a9 a10 a11 a12 a13 l14=some o0→QY prog 190 [.agg #[.int .u8 a0,.int .u8 a1,.int .i64 a2,.string a3,.int .i64 a4,.int .u8 a5,.slice qp0 k7 qc1],.agg #[.int .u8 a8,.int .u8 a9,.int .i64 a10,.string a11,.int .i64 a12,.int .u8 a13,.slice qp2 l14.length qc3]] [.sli 7 QI qp0 qc1 l6,.sli 7 Qj qp2 qc3 l14] [] (R0 (.bool o0) [] [])
theorem Qan (N:Nat)(rc:Int→Int→Int→ByteArray→Int→Int→(List Qc)→Nat→Int→Int→Int→ByteArray→Int→Int→(List Q4)→Option (Bool))(ih:Q5N rc)(aM:OA)(a9:Nat)(l0:List Qc)(k1:Nat)(aA:OA)(aB:Nat)(l2:List Q4)(o0:Bool)(e:Q4e N rc l0 k1 l2=some o0):QY prog 193 [.slice aM k1 a9,.slice aA l2.length aB] [.sli 7 QI aM a9 l0,.sli 7 Qj aA aB l2] [] (R0 (.bool o0) [] []):=by
 unfold Q4e at e
 refine Qt func193 Z ntmps193 Z (S:=[_,_]) Z fun C=>sq<|wP Z<|nk2 0 1 Z<|Q5<|sq<|wP Z<|wN Z Q1g<|wP Z<|wN Z Q1g<|wP Z<|Qi (Nne k1 l2.length)<|nk3 11 0 1 Z ?_
 refine Qs e Z (fun e=>?_) fun e=>?_
 refine k0 Z<|sq<|wP Z<|nr<|Q3 ?_
 obtain rfl:=Zi e
 refine re1 [] [] results193 Z ⟨Z,Z,Z⟩ Z
 refine k2 0 1 Z<|kt<|sq<|wP2 Z<|wN Z Q1g<|wP Z<|kg e fun aN e=>Qi (QD (a:=l2.length) (b:=12) aN)<|kg e fun aO e=>Q98 0 Z Z Z Zq Z Z Z Z Z Q1g Q1t aO fun aI=>wP Z<|nk2 5 1 Z<|Q5<|ks e fun aP e hLj_1=>?_
 refine cut (σ:=Unit) aP (fun _=>(.inl (),[],[],[])) ?_ ?_
 refine sq<|wP Z<|nt<|Qk<|lop (σ:=Nat) (Q5g N l0 l2 rc) (fun a0=>(a0,[(6,.int .i64 (a0:Int)),(5,.slice aI ((l0.take (l2.length+12)).length) a9),(1,.slice aA l2.length aB)],[.sli 7 QI aI a9 (l0.take (l2.length+12)),.sli 7 Qj aA aB l2],[])) 0 e [6,5,1] [0,2] Z fun a0 b7 b8 e hLu1=>?_
 unfold Q5g at e
 try dsimp only at e ⊢
 refine Q5<|sq<|wP2 Z<|wN Z Q1g<|wP Z<|Qi (Nlt a0 ((l0.take (l2.length+12)).length))<|nk4 20 6 5 1 Z ?_
 refine Qs e Z (fun e=>?_) fun e=>?_
 refine k3 6 5 1 Z<|kt<|Q5<|Qk<|Q5<|kn e fun aQ e hLj_2=>?_
 unfold Q7N at e
 refine cut (σ:=Bool) aQ (fun a6=>(a6,[(6,.int .i64 (a0:Int)),(5,.slice aI ((l0.take (l2.length+12)).length) a9),(1,.slice aA l2.length aB),(57,.bool a6)],[.sli 7 QI aI a9 (l0.take (l2.length+12)),.sli 7 Qj aA aB l2],[])) ?_ ?_
 refine QG [0,1,2,3,4,5,6,7,8,9,10,11,12,14,15,16,17,18,19,20,21,22,23,24,25,26,27,28,29,32,33,34] Z Z fun z=>xP2 z 0 Z<|xN z 2 Z Q1g<|xP z 3 Z<|QA (Nlt a0 l2.length)<|xP z 4 Z ?_
 refine Q5M e (fun e=>?_) fun e=>?_
 refine xP2 z 5 Z<|kn e fun a7 aR e=>xI z 7 0 a0 Z aR Q1g Q1t fun b9 bA b5 b0=>QJ Q3h 1 Z fun aS aT _=>?_
 subst aT
 refine xL z 8 1 0 (V7 ..) Z Q1t Q3z Z<|xP2 z 9 Z<|kn e fun a8 aU e=>xI z 11 4 a0 Z aU Q1g Q1t fun bB bC b6 b1=>QJ Q1G 1 Z fun aV aW _=>?_
 subst aW
 refine xL z 12 1 0 (V7 ..) Z Q1t Q3z Z<|xS z 13 Z<|kn e fun bD aX e=>wC [] [] Z fn_190 Z (ih a7.kind a7.value.k a7.value.n a7.value.s a7.var a7.op aS.1 aS.2 (a7.kids++a7.kidsT) a7.kids.length a8.kind a8.value.k a8.value.n a8.value.s a8.var a8.op aV.1 aV.2 a8.kids _ aX) (asK [3,0] Z) Z (H':=[]) Z ?_
 rintro _ _ _ ⟨rfl,rfl,rfl⟩
 refine Q2<|wxx 0 [] Z<|xP2 z 14 Z<|xP z 16 Z ?_
 refine Q5M e (fun e=>?_) fun e=>?_
 refine xO2 z 17 Z<|xO2 z 19 Z<|xO2 z 21 Z<|xO2 z 23 Z<|xO2 z 25 Z<|xO2 z 27 Z<|xO z 29 Z<|xS z 30 Z<|wO Z<|Q2<|wxx 0 [] Z<|xS z 31 Z<|wO Z<|Q2<|wxx 0 [] Z<|xO2 z 32 Z<|xP z 34 Z<|Qu z Z ?_
 refine jM true e [6,5,1,57] [6,7] Z
 refine xP2 z 17 Z<|xN z 19 Z Q1g<|xP z 20 Z<|QA (Nge a0 l2.length)<|xP z 21 Z ?_
 refine Q5M e (fun e=>?_) fun e=>?_
 refine xP2 z 22 Z<|kn e fun a1 aC e=>xI z 24 6 a0 Z aC Q1g Q1t fun b2 b3 aY aK=>QJ Q3h 1 Z fun aD aE _=>?_
 subst aE
 refine xL z 25 1 0 (V7 ..) Z Q1t Q3z Z<|xP2 z 26 Z<|xN z 28 Z Q1g<|xP z 29 Z<|kg e fun aF e=>QA (i64_in aF)<|xS z 30 Z<|kn e fun _ aG e=>?_
 try dsimp only at e
 refine c0 [] [] Z fn_213 aG Q2V [] [] Z<|Q2<|wxx 0 [] Z<|xS z 31 Z<|Q2q (.sli 7 Qj none 0 ([] : List Q4)) (fun _ _ _=>Q2n)<|kn e fun aL aH e=>wC [] [] Z fn_192 Z (Q1U N a1.kind a1.value.k a1.value.n a1.value.s a1.var a1.op aD.1 aD.2 (a1.kids++a1.kidsT) a1.kids.length 0 0 0 EB (MK 1 ((a0:Int) - (l2.length:Int))) 0 none 0 ([] : List Q4) _ aH) (asK [1,0] Z) Z (H':=[]) Z ?_
 rintro _ _ _ ⟨rfl,rfl,rfl⟩
 refine Q2<|wxx 1 [] Z<|xP2 z 32 Z<|xP z 34 Z<|Qu z Z ?_
 refine jM (!aL) e [6,5,1,57] [10,11] Z
 refine xO2 z 22 Z<|xO2 z 24 Z<|xO2 z 26 Z<|xO2 z 28 Z<|xS z 30 Z<|wO Z<|Q2<|wxx 0 [] Z<|xS z 31 Z<|wO Z<|Q2<|wxx 0 [] Z<|xO z 32 Z<|xP2 z 33 Z<|Qu z Z ?_
 refine jM false e [6,5,1,57] [6,7] Z
 refine xO2 z 5 Z<|xO2 z 7 Z<|xO2 z 9 Z<|xO2 z 11 Z<|xS z 13 Z<|wO Z<|Q2<|wxx 0 [] Z<|xO z 14 Z<|xP2 z 15 Z<|xP2 z 17 Z<|xN z 19 Z Q1g<|xP z 20 Z<|QA (Nge a0 l2.length)<|xP z 21 Z ?_
 refine Q5M e (fun e=>?_) fun e=>?_
 refine xP2 z 22 Z<|kn e fun a1 aC e=>xI z 24 0 a0 Z aC Q1g Q1t fun b2 b3 aY aK=>QJ Q3h 1 Z fun aD aE _=>?_
 subst aE
 refine xL z 25 1 0 (V7 ..) Z Q1t Q3z Z<|xP2 z 26 Z<|xN z 28 Z Q1g<|xP z 29 Z<|kg e fun aF e=>QA (i64_in aF)<|xS z 30 Z<|kn e fun _ aG e=>?_
 try dsimp only at e
 refine c0 [] [] Z fn_213 aG Q2V [] [] Z<|Q2<|wxx 0 [] Z<|xS z 31 Z<|Q2q (.sli 7 Qj none 0 ([] : List Q4)) (fun _ _ _=>Q2n)<|kn e fun aL aH e=>wC [] [] Z fn_192 Z (Q1U N a1.kind a1.value.k a1.value.n a1.value.s a1.var a1.op aD.1 aD.2 (a1.kids++a1.kidsT) a1.kids.length 0 0 0 EB (MK 1 ((a0:Int) - (l2.length:Int))) 0 none 0 ([] : List Q4) _ aH) (asK [1,0] Z) Z (H':=[]) Z ?_
 rintro _ _ _ ⟨rfl,rfl,rfl⟩
 refine Q2<|wxx 1 [] Z<|xP2 z 32 Z<|xP z 34 Z<|Qu z Z ?_
 refine jM (!aL) e [6,5,1,57] [4,5] Z
 refine xO2 z 22 Z<|xO2 z 24 Z<|xO2 z 26 Z<|xO2 z 28 Z<|xS z 30 Z<|wO Z<|Q2<|wxx 0 [] Z<|xS z 31 Z<|wO Z<|Q2<|wxx 0 [] Z<|xO z 32 Z<|xP2 z 33 Z<|Qu z Z ?_
 refine jM false e [6,5,1,57] [0,1] Z
 rintro a6 j
 try dsimp only at j ⊢
 have e:=hLj_2
 try rw [j] at e
 refine Qs e Z (fun e=>?_) fun e=>?_
 refine k0 Z<|sq<|wP Z<|nr<|Qg<|Q3<|rb<|Q3 ?_
 obtain rfl:=(Qb hLj_1 (Qb hLu1 (zs e))).symm
 refine re1 [] [] results193 Z ⟨Z,Z,Z⟩ Z
 refine k3 6 5 1 Z<|QT<|Q6<|Qv<|Qe<|wP2 Z<|kg e fun aZ e=>Qi (QD (a:=a0) (b:=1) aZ)<|Qx (S':=V4 ..) Z Z Z Z Z<|Q2 ?_
 refine rnd (a0+1) (Qp hLu1 (zs e)) [6,5,1] [0,1] Z
 refine k0 Z<|QQ<|Q7<|Q7<|Qq ?_
 refine jn () (Qb hLu1 (zs e)) [] [] Z
 rintro _ j
 try dsimp only at j ⊢
 have e:=Qp hLj_1 j
 try dsimp only at e
 refine sq<|wP Z<|nr ?_
 obtain rfl:=Zi e
 refine re1 [] [] results193 Z ⟨Z,Z,Z⟩ Z
theorem QaR (N:Nat)(rc:Int→Int→Int→ByteArray→Int→Int→(List Qc)→Nat→Int→Int→Int→ByteArray→Int→Int→(List Q4)→Option (Bool))(ih:Q5N rc):Q5N (Q3k N rc):=by
 intro a0 a1 a2 a3 a4 a5 qp0 qc1 l6 k7 a8 a9 a10 a11 a12 a13 qp2 qc3 l14 o0 e
 unfold Q3k at e
 refine Qt func190 Z ntmps190 Z (S:=[_,_]) Z fun C=>sq<|wB Z fun g2=>wB Z fun g3=>wP Z<|nk2 3 2 Z<|sq<|wM 1 0 (V7 ..) Z Q1t Q3z Z<|wM 0 0 (V7 ..) Z Q1t Q3z Z<|kn e fun v7 hc7 e=>wC [] [0,1] Z fn_192 Z (Q1U N a0 a1 a2 a3 a4 a5 qp0 qc1 l6 k7 a8 a9 a10 a11 a12 a13 qp2 qc3 l14 _ hc7) (asK [0,1] Z) Z (H':=[_,_]) Z ?_
 rintro _ _ _ ⟨rfl,rfl,rfl⟩
 refine wP Z ?_
 refine QE e (fun e=>?_) fun e=>?_
 refine wF Z Q60<|wD 1 6 Z Q4k Q4M Z<|wF Z Q60<|wD 0 6 Z Q4k Q4M Z<|kn e fun v13 hc13 e=>wC [] [0,1] Z fn_193 Z (Qan N rc ih qp0 qc1 l6 k7 qp2 qc3 l14 _ hc13) (asK [0,1] Z) Z (H':=[_,_]) Z ?_
 rintro _ _ _ ⟨rfl,rfl,rfl⟩
 refine wP2 Z<|nk1 4 Z<|Qm ?_
 obtain rfl:=Zi e
 refine re1 [] [] results190 Z ⟨Z,Z,Z⟩ Z
 refine wO4 Z<|wO Z<|wP2 Z<|nk1 4 Z<|Qm ?_
 obtain rfl:=Zi e
 refine re1 [] [] results190 Z ⟨Z,Z,Z⟩ Z
theorem Q8W : ∀ (N:Nat),Q5N (Q1y N):=by
 intro N
 induction N with
 | zero=>intro a0 a1 a2 a3 a4 a5 qp0 qc1 l6 k7 a8 a9 a10 a11 a12 a13 qp2 qc3 l14 o0 e;cases e
 | succ N ih=>exact QaR N (Q1y N) ih
theorem QbT {N qc1 k3 qc3 k11 qc5 qc7:Nat} {a0 a1 a4 a5 a6 a8 a9 a12 a13 a15 a16 a17 a19 a20:Int} {qp0 qp2 qp4 qp6:OA} {l2 l14:List Q1n} {a7 a18:ByteArray} {l10:List Qc} {l21:List Q4} {o0:Bool} (e:Q43 N a0 a1 l2 k3 a4 a5 a6 a7 a8 a9 l10 k11 a12 a13 l14 a15 a16 a17 a18 a19 a20 l21=some o0):QY prog 143 [.agg #[.int .u8 a0,.int .i64 a1,.slice qp0 k3 qc1,.int .u8 a4,.int .u8 a5,.int .i64 a6,.string a7,.int .i64 a8,.int .u8 a9,.slice qp2 k11 qc3],.agg #[.int .u8 a12,.int .i64 a13,.slice qp4 l14.length qc5,.int .u8 a15,.int .u8 a16,.int .i64 a17,.string a18,.int .i64 a19,.int .u8 a20,.slice qp6 l21.length qc7]] [.sli 5 Q1p qp0 qc1 l2,.sli 7 QI qp2 qc3 l10,.sli 5 Q1p qp4 qc5 l14,.sli 7 Qj qp6 qc7 l21] [] (R0 (.bool o0) [] []):=by
 unfold Q43 at e
 refine Qt func143 Z ntmps143 Z (S:=[_,_]) Z fun C=>sq<|wB Z fun g2=>wB Z fun g3=>wP Z<|nk2 3 2 Z<|sq<|wM 1 0 (V10 ..) Z Q3Q Q9b Z<|wM 0 0 (V10 ..) Z Q3Q Q9b Z<|kn e fun v7 hc7 e=>c0 [] [0,1] Z fn_144 hc7 Q59 [0,1,2,3] [_,_] Z<|wP Z ?_
 refine QE e (fun e=>?_) fun e=>?_
 refine wF Z Q7h<|wD 1 2 Z Qad QaD Z<|wF Z Q7h<|wD 0 2 Z Qad QaD Z<|kn e fun v13 hc13 e=>c0 [] [0,1] Z fn_189 hc13 QbS [0,2] [_,_] Z<|wP2 Z ?_
 refine QE e (fun e=>?_) fun e=>?_
 refine wF Z Q8I<|wM 1 3 (V7 ..) Z Q1t Q3z Z<|wF Z Q8I<|wM 0 3 (V7 ..) Z Q1t Q3z Z<|kn e fun v20 hc20 e=>wC [] [0,1] Z fn_190 Z (Q8W N a4 a5 a6 a7 a8 a9 qp2 qc3 l10 k11 a15 a16 a17 a18 a19 a20 qp6 qc7 l21 _ hc20) (asK [1,3] Z) Z (H':=[_,_]) Z ?_
 rintro _ _ _ ⟨rfl,rfl,rfl⟩
 refine wP2 Z<|nk1 4 Z<|Qm ?_
 obtain rfl:=Zi e
 refine re1 [] [] results143 Z ⟨Z,Z,Z⟩ Z
 refine wO4 Z<|wO Z<|wP2 Z<|nk1 4 Z<|Qm ?_
 obtain rfl:=Zi e
 refine re1 [] [] results143 Z ⟨Z,Z,Z⟩ Z
 refine wO4 Z<|wO Z<|wP2 Z<|wO4 Z<|wO Z<|wP2 Z<|nk1 4 Z<|Qm ?_
 obtain rfl:=Zi e
 refine re1 [] [] results143 Z ⟨Z,Z,Z⟩ Z
theorem Qbd {N qc1 k1 qc3:Nat} {qp0 qp2:OA} {l0:List QM} {l2:List Qn} {o0:Bool} (e:Q5i N l0 k1 l2=some o0):QY prog 113 [.slice qp0 k1 qc1,.slice qp2 l2.length qc3] [.sli 10 Q1J qp0 qc1 l0,.sli 10 QB qp2 qc3 l2] [] (R0 (.bool o0) [] []):=by
 unfold Q5i at e
 refine Qt func113 Z ntmps113 Z (S:=[_,_]) Z fun C=>sq<|wP Z<|nk2 0 1 Z<|Q5<|sq<|wP Z<|wN Z Q4d<|wP Z<|wN Z Q4d<|wP Z<|Qi (Nne k1 l2.length)<|nk3 11 0 1 Z ?_
 refine Qs e Z (fun e=>?_) fun e=>?_
 refine k0 Z<|sq<|wP Z<|nr<|Q3 ?_
 obtain rfl:=Zi e
 refine re1 [] [] results113 Z ⟨Z,Z,Z⟩ Z
 refine k2 0 1 Z<|kt<|sq<|wP2 Z<|wN Z Q4d<|wP Z<|kg e fun aD e=>Qi (QD (a:=l2.length) (b:=12) aD)<|kg e fun aE e=>Q98 0 Z Z Z Zq Z Z Z Z Z Q4d Q3Q aE fun aA=>wP Z<|nk2 5 1 Z<|Q5<|ks e fun aF e hLj_1=>?_
 refine cut (σ:=Unit) aF (fun _=>(.inl (),[],[],[])) ?_ ?_
 refine sq<|wP Z<|nt<|Qk<|lop (σ:=Nat) (Q6r N l0 l2) (fun a0=>(a0,[(6,.int .i64 (a0:Int)),(5,.slice aA ((l0.take (l2.length+12)).length) qc1),(1,.slice qp2 l2.length qc3)],[.sli 10 Q1J aA qc1 (l0.take (l2.length+12)),.sli 10 QB qp2 qc3 l2],[])) 0 e [6,5,1] [0,2] Z fun a0 aW aX e hLu1=>?_
 unfold Q6r at e
 try dsimp only at e ⊢
 refine Q5<|sq<|wP2 Z<|wN Z Q4d<|wP Z<|Qi (Nlt a0 ((l0.take (l2.length+12)).length))<|nk4 20 6 5 1 Z ?_
 refine Qs e Z (fun e=>?_) fun e=>?_
 refine k3 6 5 1 Z<|kt<|Q5<|Qk<|Q5<|kn e fun aG e hLj_2=>?_
 unfold Q8n at e
 refine cut (σ:=Bool) aG (fun a1=>(a1,[(6,.int .i64 (a0:Int)),(5,.slice aA ((l0.take (l2.length+12)).length) qc1),(1,.slice qp2 l2.length qc3),(57,.bool a1)],[.sli 10 Q1J aA qc1 (l0.take (l2.length+12)),.sli 10 QB qp2 qc3 l2],[])) ?_ ?_
 refine QG [0,1,2,3,4,5,6,7,8,9,10,11,12,14,15,16,17,18,19,20,21,22,23,24,25,26,27,28,29,32,33,34] Z Z fun z=>xP2 z 0 Z<|xN z 2 Z Q4d<|xP z 3 Z<|QA (Nlt a0 l2.length)<|xP z 4 Z ?_
 refine Q5M e (fun e=>?_) fun e=>?_
 refine xP2 z 5 Z<|kn e fun aY aH e=>xI z 7 0 a0 Z aH Q4d Q3Q fun aZ b0 aU aO=>QJ Q8d 1 Z fun b1 aI _=>?_
 subst aI
 refine xL z 8 2 0 (V10 ..) Z Q3Q Q9b Z<|xP2 z 9 Z<|kn e fun b2 aJ e=>xI z 11 5 a0 Z aJ Q4d Q3Q fun b3 b4 aV aP=>QJ Q33 1 Z fun b5 aK _=>?_
 subst aK
 refine xL z 12 2 0 (V10 ..) Z Q3Q Q9b Z<|xS z 13 Z<|kn e fun b6 aL e=>c0 [] [] Z fn_143 aL QbT [4,5,0,1] [] Z<|Q2<|wxx 0 [] Z<|xP2 z 14 Z<|xP z 16 Z ?_
 refine Q5M e (fun e=>?_) fun e=>?_
 refine xO2 z 17 Z<|xO2 z 19 Z<|xO2 z 21 Z<|xO2 z 23 Z<|xO2 z 25 Z<|xO2 z 27 Z<|xO z 29 Z<|xS z 30 Z<|wO Z<|Q2<|wxx 0 [] Z<|xS z 31 Z<|wO Z<|Q2<|wxx 0 [] Z<|xO2 z 32 Z<|xP z 34 Z<|Qu z Z ?_
 refine jM true e [6,5,1,57] [8,9] Z
 refine xP2 z 17 Z<|xN z 19 Z Q4d<|xP z 20 Z<|QA (Nge a0 l2.length)<|xP z 21 Z ?_
 refine Q5M e (fun e=>?_) fun e=>?_
 refine xP2 z 22 Z<|kn e fun aQ a5 e=>xI z 24 8 a0 Z a5 Q4d Q3Q fun aR aS aM aB=>QJ Q8d 1 Z fun aT a6 _=>?_
 subst a6
 refine xL z 25 2 0 (V10 ..) Z Q3Q Q9b Z<|xP2 z 26 Z<|xN z 28 Z Q4d<|xP z 29 Z<|kg e fun a7 e=>QA (i64_in a7)<|xS z 30 Z<|kn e fun _ a8 e=>?_
 try dsimp only at e
 refine c0 [] [] Z fn_132 a8 Q7H [] [] Z<|Q2<|wxx 0 [] Z<|xS z 31 Z<|Q2q (.sli 5 Q1p none 0 ([] : List Q1n)) (fun _ _ _=>Q2n)<|Q2q (.sli 7 Qj none 0 ([] : List Q4)) (fun _ _ _=>Q2n)<|kn e fun aC a9 e=>c0 [] [] Z fn_144 a9 Q59 [2,3,1,0] [] Z<|Q2<|wxx 2 [] Z<|xP2 z 32 Z<|xP z 34 Z<|Qu z Z ?_
 refine jM (!aC) e [6,5,1,57] [14,15] Z
 refine xO2 z 22 Z<|xO2 z 24 Z<|xO2 z 26 Z<|xO2 z 28 Z<|xS z 30 Z<|wO Z<|Q2<|wxx 0 [] Z<|xS z 31 Z<|wO Z<|Q2<|wxx 0 [] Z<|xO z 32 Z<|xP2 z 33 Z<|Qu z Z ?_
 refine jM false e [6,5,1,57] [8,9] Z
 refine xO2 z 5 Z<|xO2 z 7 Z<|xO2 z 9 Z<|xO2 z 11 Z<|xS z 13 Z<|wO Z<|Q2<|wxx 0 [] Z<|xO z 14 Z<|xP2 z 15 Z<|xP2 z 17 Z<|xN z 19 Z Q4d<|xP z 20 Z<|QA (Nge a0 l2.length)<|xP z 21 Z ?_
 refine Q5M e (fun e=>?_) fun e=>?_
 refine xP2 z 22 Z<|kn e fun aQ a5 e=>xI z 24 0 a0 Z a5 Q4d Q3Q fun aR aS aM aB=>QJ Q8d 1 Z fun aT a6 _=>?_
 subst a6
 refine xL z 25 2 0 (V10 ..) Z Q3Q Q9b Z<|xP2 z 26 Z<|xN z 28 Z Q4d<|xP z 29 Z<|kg e fun a7 e=>QA (i64_in a7)<|xS z 30 Z<|kn e fun _ a8 e=>?_
 try dsimp only at e
 refine c0 [] [] Z fn_132 a8 Q7H [] [] Z<|Q2<|wxx 0 [] Z<|xS z 31 Z<|Q2q (.sli 5 Q1p none 0 ([] : List Q1n)) (fun _ _ _=>Q2n)<|Q2q (.sli 7 Qj none 0 ([] : List Q4)) (fun _ _ _=>Q2n)<|kn e fun aC a9 e=>c0 [] [] Z fn_144 a9 Q59 [2,3,1,0] [] Z<|Q2<|wxx 2 [] Z<|xP2 z 32 Z<|xP z 34 Z<|Qu z Z ?_
 refine jM (!aC) e [6,5,1,57] [6,7] Z
 refine xO2 z 22 Z<|xO2 z 24 Z<|xO2 z 26 Z<|xO2 z 28 Z<|xS z 30 Z<|wO Z<|Q2<|wxx 0 [] Z<|xS z 31 Z<|wO Z<|Q2<|wxx 0 [] Z<|xO z 32 Z<|xP2 z 33 Z<|Qu z Z ?_
 refine jM false e [6,5,1,57] [0,1] Z
 rintro a1 j
 try dsimp only at j ⊢
 have e:=hLj_2
 try rw [j] at e
 refine Qs e Z (fun e=>?_) fun e=>?_
 refine k0 Z<|sq<|wP Z<|nr<|Qg<|Q3<|rb<|Q3 ?_
 obtain rfl:=(Qb hLj_1 (Qb hLu1 (zs e))).symm
 refine re1 [] [] results113 Z ⟨Z,Z,Z⟩ Z
 refine k3 6 5 1 Z<|QT<|Q6<|Qv<|Qe<|wP2 Z<|kg e fun aN e=>Qi (QD (a:=a0) (b:=1) aN)<|Qx (S':=V4 ..) Z Z Z Z Z<|Q2 ?_
 refine rnd (a0+1) (Qp hLu1 (zs e)) [6,5,1] [0,1] Z
 refine k0 Z<|QQ<|Q7<|Q7<|Qq ?_
 refine jn () (Qb hLu1 (zs e)) [] [] Z
 rintro _ j
 try dsimp only at j ⊢
 have e:=Qp hLj_1 j
 try dsimp only at e
 refine sq<|wP Z<|nr ?_
 obtain rfl:=Zi e
 refine re1 [] [] results113 Z ⟨Z,Z,Z⟩ Z
theorem Qbe {N qc1 k1 qc3:Nat} {qp0 qp2:OA} {l0:List Qc} {l2:List Q4} {o0:Bool} (e:Q5j N l0 k1 l2=some o0):QY prog 193 [.slice qp0 k1 qc1,.slice qp2 l2.length qc3] [.sli 7 QI qp0 qc1 l0,.sli 7 Qj qp2 qc3 l2] [] (R0 (.bool o0) [] []):=by
 unfold Q5j at e
 refine Qt func193 Z ntmps193 Z (S:=[_,_]) Z fun C=>sq<|wP Z<|nk2 0 1 Z<|Q5<|sq<|wP Z<|wN Z Q1g<|wP Z<|wN Z Q1g<|wP Z<|Qi (Nne k1 l2.length)<|nk3 11 0 1 Z ?_
 refine Qs e Z (fun e=>?_) fun e=>?_
 refine k0 Z<|sq<|wP Z<|nr<|Q3 ?_
 obtain rfl:=Zi e
 refine re1 [] [] results193 Z ⟨Z,Z,Z⟩ Z
 refine k2 0 1 Z<|kt<|sq<|wP2 Z<|wN Z Q1g<|wP Z<|kg e fun aH e=>Qi (QD (a:=l2.length) (b:=12) aH)<|kg e fun aI e=>Q98 0 Z Z Z Zq Z Z Z Z Z Q1g Q1t aI fun aE=>wP Z<|nk2 5 1 Z<|Q5<|ks e fun aJ e hLj_1=>?_
 refine cut (σ:=Unit) aJ (fun _=>(.inl (),[],[],[])) ?_ ?_
 refine sq<|wP Z<|nt<|Qk<|lop (σ:=Nat) (Q6s N l0 l2) (fun a0=>(a0,[(6,.int .i64 (a0:Int)),(5,.slice aE ((l0.take (l2.length+12)).length) qc1),(1,.slice qp2 l2.length qc3)],[.sli 7 QI aE qc1 (l0.take (l2.length+12)),.sli 7 Qj qp2 qc3 l2],[])) 0 e [6,5,1] [0,2] Z fun a0 b0 b1 e hLu1=>?_
 unfold Q6s at e
 try dsimp only at e ⊢
 refine Q5<|sq<|wP2 Z<|wN Z Q1g<|wP Z<|Qi (Nlt a0 ((l0.take (l2.length+12)).length))<|nk4 20 6 5 1 Z ?_
 refine Qs e Z (fun e=>?_) fun e=>?_
 refine k3 6 5 1 Z<|kt<|Q5<|Qk<|Q5<|kn e fun aK e hLj_2=>?_
 unfold Q8o at e
 refine cut (σ:=Bool) aK (fun a5=>(a5,[(6,.int .i64 (a0:Int)),(5,.slice aE ((l0.take (l2.length+12)).length) qc1),(1,.slice qp2 l2.length qc3),(57,.bool a5)],[.sli 7 QI aE qc1 (l0.take (l2.length+12)),.sli 7 Qj qp2 qc3 l2],[])) ?_ ?_
 refine QG [0,1,2,3,4,5,6,7,8,9,10,11,12,14,15,16,17,18,19,20,21,22,23,24,25,26,27,28,29,32,33,34] Z Z fun z=>xP2 z 0 Z<|xN z 2 Z Q1g<|xP z 3 Z<|QA (Nlt a0 l2.length)<|xP z 4 Z ?_
 refine Q5M e (fun e=>?_) fun e=>?_
 refine xP2 z 5 Z<|kn e fun a6 aL e=>xI z 7 0 a0 Z aL Q1g Q1t fun b2 b3 aY aU=>QJ Q3h 1 Z fun aM aN _=>?_
 subst aN
 refine xL z 8 1 0 (V7 ..) Z Q1t Q3z Z<|xP2 z 9 Z<|kn e fun a7 aO e=>xI z 11 4 a0 Z aO Q1g Q1t fun b4 b5 aZ aV=>QJ Q1G 1 Z fun aP aQ _=>?_
 subst aQ
 refine xL z 12 1 0 (V7 ..) Z Q1t Q3z Z<|xS z 13 Z<|kn e fun b6 aR e=>wC [] [] Z fn_190 Z (Q8W N a6.kind a6.value.k a6.value.n a6.value.s a6.var a6.op aM.1 aM.2 (a6.kids++a6.kidsT) a6.kids.length a7.kind a7.value.k a7.value.n a7.value.s a7.var a7.op aP.1 aP.2 a7.kids _ aR) (asK [3,0] Z) Z (H':=[]) Z ?_
 rintro _ _ _ ⟨rfl,rfl,rfl⟩
 refine Q2<|wxx 0 [] Z<|xP2 z 14 Z<|xP z 16 Z ?_
 refine Q5M e (fun e=>?_) fun e=>?_
 refine xO2 z 17 Z<|xO2 z 19 Z<|xO2 z 21 Z<|xO2 z 23 Z<|xO2 z 25 Z<|xO2 z 27 Z<|xO z 29 Z<|xS z 30 Z<|wO Z<|Q2<|wxx 0 [] Z<|xS z 31 Z<|wO Z<|Q2<|wxx 0 [] Z<|xO2 z 32 Z<|xP z 34 Z<|Qu z Z ?_
 refine jM true e [6,5,1,57] [6,7] Z
 refine xP2 z 17 Z<|xN z 19 Z Q1g<|xP z 20 Z<|QA (Nge a0 l2.length)<|xP z 21 Z ?_
 refine Q5M e (fun e=>?_) fun e=>?_
 refine xP2 z 22 Z<|kn e fun a1 a8 e=>xI z 24 6 a0 Z a8 Q1g Q1t fun aW aX aS aF=>QJ Q3h 1 Z fun a9 aA _=>?_
 subst aA
 refine xL z 25 1 0 (V7 ..) Z Q1t Q3z Z<|xP2 z 26 Z<|xN z 28 Z Q1g<|xP z 29 Z<|kg e fun aB e=>QA (i64_in aB)<|xS z 30 Z<|kn e fun _ aC e=>?_
 try dsimp only at e
 refine c0 [] [] Z fn_213 aC Q2V [] [] Z<|Q2<|wxx 0 [] Z<|xS z 31 Z<|Q2q (.sli 7 Qj none 0 ([] : List Q4)) (fun _ _ _=>Q2n)<|kn e fun aG aD e=>wC [] [] Z fn_192 Z (Q1U N a1.kind a1.value.k a1.value.n a1.value.s a1.var a1.op a9.1 a9.2 (a1.kids++a1.kidsT) a1.kids.length 0 0 0 EB (MK 1 ((a0:Int) - (l2.length:Int))) 0 none 0 ([] : List Q4) _ aD) (asK [1,0] Z) Z (H':=[]) Z ?_
 rintro _ _ _ ⟨rfl,rfl,rfl⟩
 refine Q2<|wxx 1 [] Z<|xP2 z 32 Z<|xP z 34 Z<|Qu z Z ?_
 refine jM (!aG) e [6,5,1,57] [10,11] Z
 refine xO2 z 22 Z<|xO2 z 24 Z<|xO2 z 26 Z<|xO2 z 28 Z<|xS z 30 Z<|wO Z<|Q2<|wxx 0 [] Z<|xS z 31 Z<|wO Z<|Q2<|wxx 0 [] Z<|xO z 32 Z<|xP2 z 33 Z<|Qu z Z ?_
 refine jM false e [6,5,1,57] [6,7] Z
 refine xO2 z 5 Z<|xO2 z 7 Z<|xO2 z 9 Z<|xO2 z 11 Z<|xS z 13 Z<|wO Z<|Q2<|wxx 0 [] Z<|xO z 14 Z<|xP2 z 15 Z<|xP2 z 17 Z<|xN z 19 Z Q1g<|xP z 20 Z<|QA (Nge a0 l2.length)<|xP z 21 Z ?_
 refine Q5M e (fun e=>?_) fun e=>?_
 refine xP2 z 22 Z<|kn e fun a1 a8 e=>xI z 24 0 a0 Z a8 Q1g Q1t fun aW aX aS aF=>QJ Q3h 1 Z fun a9 aA _=>?_
 subst aA
 refine xL z 25 1 0 (V7 ..) Z Q1t Q3z Z<|xP2 z 26 Z<|xN z 28 Z Q1g<|xP z 29 Z<|kg e fun aB e=>QA (i64_in aB)<|xS z 30 Z<|kn e fun _ aC e=>?_
 try dsimp only at e
 refine c0 [] [] Z fn_213 aC Q2V [] [] Z<|Q2<|wxx 0 [] Z<|xS z 31 Z<|Q2q (.sli 7 Qj none 0 ([] : List Q4)) (fun _ _ _=>Q2n)<|kn e fun aG aD e=>wC [] [] Z fn_192 Z (Q1U N a1.kind a1.value.k a1.value.n a1.value.s a1.var a1.op a9.1 a9.2 (a1.kids++a1.kidsT) a1.kids.length 0 0 0 EB (MK 1 ((a0:Int) - (l2.length:Int))) 0 none 0 ([] : List Q4) _ aD) (asK [1,0] Z) Z (H':=[]) Z ?_
 rintro _ _ _ ⟨rfl,rfl,rfl⟩
 refine Q2<|wxx 1 [] Z<|xP2 z 32 Z<|xP z 34 Z<|Qu z Z ?_
 refine jM (!aG) e [6,5,1,57] [4,5] Z
 refine xO2 z 22 Z<|xO2 z 24 Z<|xO2 z 26 Z<|xO2 z 28 Z<|xS z 30 Z<|wO Z<|Q2<|wxx 0 [] Z<|xS z 31 Z<|wO Z<|Q2<|wxx 0 [] Z<|xO z 32 Z<|xP2 z 33 Z<|Qu z Z ?_
 refine jM false e [6,5,1,57] [0,1] Z
 rintro a5 j
 try dsimp only at j ⊢
 have e:=hLj_2
 try rw [j] at e
 refine Qs e Z (fun e=>?_) fun e=>?_
 refine k0 Z<|sq<|wP Z<|nr<|Qg<|Q3<|rb<|Q3 ?_
 obtain rfl:=(Qb hLj_1 (Qb hLu1 (zs e))).symm
 refine re1 [] [] results193 Z ⟨Z,Z,Z⟩ Z
 refine k3 6 5 1 Z<|QT<|Q6<|Qv<|Qe<|wP2 Z<|kg e fun aT e=>Qi (QD (a:=a0) (b:=1) aT)<|Qx (S':=V4 ..) Z Z Z Z Z<|Q2 ?_
 refine rnd (a0+1) (Qp hLu1 (zs e)) [6,5,1] [0,1] Z
 refine k0 Z<|QQ<|Q7<|Q7<|Qq ?_
 refine jn () (Qb hLu1 (zs e)) [] [] Z
 rintro _ j
 try dsimp only at j ⊢
 have e:=Qp hLj_1 j
 try dsimp only at e
 refine sq<|wP Z<|nr ?_
 obtain rfl:=Zi e
 refine re1 [] [] results193 Z ⟨Z,Z,Z⟩ Z
theorem Qc9 {N qc1 k4 qc3:Nat} {a0 a1 a2 a5 a6 a7:Int} {qp0 qp2:OA} {l3:List Qc} {l8:List Q4} {o0:Bool} (e:Q4t N a0 a1 a2 l3 k4 a5 a6 a7 l8=some o0):QY prog 145 [.agg #[.int .u8 a0,.int .i64 a1,.int .i64 a2,.slice qp0 k4 qc1],.agg #[.int .u8 a5,.int .i64 a6,.int .i64 a7,.slice qp2 l8.length qc3]] [.sli 7 QI qp0 qc1 l3,.sli 7 Qj qp2 qc3 l8] [] (R0 (.bool o0) [] []):=by
 unfold Q4t at e
 refine Qt func145 Z ntmps145 Z (S:=[_,_]) Z fun C=>sq<|wB Z fun g2=>wB Z fun g3=>wP Z<|nk2 3 2 Z<|sq<|wM 1 0 (V4 ..) Z Q6o Qb1 Z<|wM 0 0 (V4 ..) Z Q6o Qb1 Z<|kn e fun v7 hc7 e=>c0 [] [0,1] Z fn_146 hc7 Q5q [0,1] [_,_] Z<|wP Z ?_
 refine QE e (fun e=>?_) fun e=>?_
 refine wF Z Q61<|wD 1 3 Z Q4k Q4M Z<|wF Z Q61<|wD 0 3 Z Q4k Q4M Z<|kn e fun v13 hc13 e=>c0 [] [0,1] Z fn_193 hc13 Qbe [0,1] [_,_] Z<|wP2 Z<|nk1 4 Z<|Qm ?_
 obtain rfl:=Zi e
 refine re1 [] [] results145 Z ⟨Z,Z,Z⟩ Z
 refine wO4 Z<|wO Z<|wP2 Z<|nk1 4 Z<|Qm ?_
 obtain rfl:=Zi e
 refine re1 [] [] results145 Z ⟨Z,Z,Z⟩ Z
theorem QbR {N qc1 k1 qc3:Nat} {qp0 qp2:OA} {l0:List QS} {l2:List QO} {o0:Bool} (e:Q5R N l0 k1 l2=some o0):QY prog 114 [.slice qp0 k1 qc1,.slice qp2 l2.length qc3] [.sli 4 Q1W qp0 qc1 l0,.sli 4 QF qp2 qc3 l2] [] (R0 (.bool o0) [] []):=by
 unfold Q5R at e
 refine Qt func114 Z ntmps114 Z (S:=[_,_]) Z fun C=>sq<|wP Z<|nk2 0 1 Z<|Q5<|sq<|wP Z<|wN Z Q5e<|wP Z<|wN Z Q5e<|wP Z<|Qi (Nne k1 l2.length)<|nk3 11 0 1 Z ?_
 refine Qs e Z (fun e=>?_) fun e=>?_
 refine k0 Z<|sq<|wP Z<|nr<|Q3 ?_
 obtain rfl:=Zi e
 refine re1 [] [] results114 Z ⟨Z,Z,Z⟩ Z
 refine k2 0 1 Z<|kt<|sq<|wP2 Z<|wN Z Q5e<|wP Z<|kg e fun aD e=>Qi (QD (a:=l2.length) (b:=12) aD)<|kg e fun aE e=>Q98 0 Z Z Z Zq Z Z Z Z Z Q5e Q6o aE fun aA=>wP Z<|nk2 5 1 Z<|Q5<|ks e fun aF e hLj_1=>?_
 refine cut (σ:=Unit) aF (fun _=>(.inl (),[],[],[])) ?_ ?_
 refine sq<|wP Z<|nt<|Qk<|lop (σ:=Nat) (Q6H N l0 l2) (fun a0=>(a0,[(6,.int .i64 (a0:Int)),(5,.slice aA ((l0.take (l2.length+12)).length) qc1),(1,.slice qp2 l2.length qc3)],[.sli 4 Q1W aA qc1 (l0.take (l2.length+12)),.sli 4 QF qp2 qc3 l2],[])) 0 e [6,5,1] [0,2] Z fun a0 aW aX e hLu1=>?_
 unfold Q6H at e
 try dsimp only at e ⊢
 refine Q5<|sq<|wP2 Z<|wN Z Q5e<|wP Z<|Qi (Nlt a0 ((l0.take (l2.length+12)).length))<|nk4 20 6 5 1 Z ?_
 refine Qs e Z (fun e=>?_) fun e=>?_
 refine k3 6 5 1 Z<|kt<|Q5<|Qk<|Q5<|kn e fun aG e hLj_2=>?_
 unfold Q8D at e
 refine cut (σ:=Bool) aG (fun a1=>(a1,[(6,.int .i64 (a0:Int)),(5,.slice aA ((l0.take (l2.length+12)).length) qc1),(1,.slice qp2 l2.length qc3),(57,.bool a1)],[.sli 4 Q1W aA qc1 (l0.take (l2.length+12)),.sli 4 QF qp2 qc3 l2],[])) ?_ ?_
 refine QG [0,1,2,3,4,5,6,7,8,9,10,11,12,14,15,16,17,18,19,20,21,22,23,24,25,26,27,28,29,32,33,34] Z Z fun z=>xP2 z 0 Z<|xN z 2 Z Q5e<|xP z 3 Z<|QA (Nlt a0 l2.length)<|xP z 4 Z ?_
 refine Q5M e (fun e=>?_) fun e=>?_
 refine xP2 z 5 Z<|kn e fun aY aH e=>xI z 7 0 a0 Z aH Q5e Q6o fun aZ b0 aU aO=>QJ Q8C 1 Z fun b1 aI _=>?_
 subst aI
 refine xL z 8 1 0 (V4 ..) Z Q6o Qb1 Z<|xP2 z 9 Z<|kn e fun b2 aJ e=>xI z 11 4 a0 Z aJ Q5e Q6o fun b3 b4 aV aP=>QJ Q6Y 1 Z fun b5 aK _=>?_
 subst aK
 refine xL z 12 1 0 (V4 ..) Z Q6o Qb1 Z<|xS z 13 Z<|kn e fun b6 aL e=>c0 [] [] Z fn_145 aL Qc9 [3,0] [] Z<|Q2<|wxx 0 [] Z<|xP2 z 14 Z<|xP z 16 Z ?_
 refine Q5M e (fun e=>?_) fun e=>?_
 refine xO2 z 17 Z<|xO2 z 19 Z<|xO2 z 21 Z<|xO2 z 23 Z<|xO2 z 25 Z<|xO2 z 27 Z<|xO z 29 Z<|xS z 30 Z<|wO Z<|Q2<|wxx 0 [] Z<|xS z 31 Z<|wO Z<|Q2<|wxx 0 [] Z<|xO2 z 32 Z<|xP z 34 Z<|Qu z Z ?_
 refine jM true e [6,5,1,57] [6,7] Z
 refine xP2 z 17 Z<|xN z 19 Z Q5e<|xP z 20 Z<|QA (Nge a0 l2.length)<|xP z 21 Z ?_
 refine Q5M e (fun e=>?_) fun e=>?_
 refine xP2 z 22 Z<|kn e fun aQ a5 e=>xI z 24 6 a0 Z a5 Q5e Q6o fun aR aS aM aB=>QJ Q8C 1 Z fun aT a6 _=>?_
 subst a6
 refine xL z 25 1 0 (V4 ..) Z Q6o Qb1 Z<|xP2 z 26 Z<|xN z 28 Z Q5e<|xP z 29 Z<|kg e fun a7 e=>QA (i64_in a7)<|xS z 30 Z<|kn e fun _ a8 e=>?_
 try dsimp only at e
 refine c0 [] [] Z fn_134 a8 Q83 [] [] Z<|Q2<|wxx 0 [] Z<|xS z 31 Z<|Q2q (.sli 7 Qj none 0 ([] : List Q4)) (fun _ _ _=>Q2n)<|kn e fun aC a9 e=>c0 [] [] Z fn_146 a9 Q5q [1,0] [] Z<|Q2<|wxx 1 [] Z<|xP2 z 32 Z<|xP z 34 Z<|Qu z Z ?_
 refine jM (!aC) e [6,5,1,57] [10,11] Z
 refine xO2 z 22 Z<|xO2 z 24 Z<|xO2 z 26 Z<|xO2 z 28 Z<|xS z 30 Z<|wO Z<|Q2<|wxx 0 [] Z<|xS z 31 Z<|wO Z<|Q2<|wxx 0 [] Z<|xO z 32 Z<|xP2 z 33 Z<|Qu z Z ?_
 refine jM false e [6,5,1,57] [6,7] Z
 refine xO2 z 5 Z<|xO2 z 7 Z<|xO2 z 9 Z<|xO2 z 11 Z<|xS z 13 Z<|wO Z<|Q2<|wxx 0 [] Z<|xO z 14 Z<|xP2 z 15 Z<|xP2 z 17 Z<|xN z 19 Z Q5e<|xP z 20 Z<|QA (Nge a0 l2.length)<|xP z 21 Z ?_
 refine Q5M e (fun e=>?_) fun e=>?_
 refine xP2 z 22 Z<|kn e fun aQ a5 e=>xI z 24 0 a0 Z a5 Q5e Q6o fun aR aS aM aB=>QJ Q8C 1 Z fun aT a6 _=>?_
 subst a6
 refine xL z 25 1 0 (V4 ..) Z Q6o Qb1 Z<|xP2 z 26 Z<|xN z 28 Z Q5e<|xP z 29 Z<|kg e fun a7 e=>QA (i64_in a7)<|xS z 30 Z<|kn e fun _ a8 e=>?_
 try dsimp only at e
 refine c0 [] [] Z fn_134 a8 Q83 [] [] Z<|Q2<|wxx 0 [] Z<|xS z 31 Z<|Q2q (.sli 7 Qj none 0 ([] : List Q4)) (fun _ _ _=>Q2n)<|kn e fun aC a9 e=>c0 [] [] Z fn_146 a9 Q5q [1,0] [] Z<|Q2<|wxx 1 [] Z<|xP2 z 32 Z<|xP z 34 Z<|Qu z Z ?_
 refine jM (!aC) e [6,5,1,57] [4,5] Z
 refine xO2 z 22 Z<|xO2 z 24 Z<|xO2 z 26 Z<|xO2 z 28 Z<|xS z 30 Z<|wO Z<|Q2<|wxx 0 [] Z<|xS z 31 Z<|wO Z<|Q2<|wxx 0 [] Z<|xO z 32 Z<|xP2 z 33 Z<|Qu z Z ?_
 refine jM false e [6,5,1,57] [0,1] Z
 rintro a1 j
 try dsimp only at j ⊢
 have e:=hLj_2
 try rw [j] at e
 refine Qs e Z (fun e=>?_) fun e=>?_
 refine k0 Z<|sq<|wP Z<|nr<|Qg<|Q3<|rb<|Q3 ?_
 obtain rfl:=(Qb hLj_1 (Qb hLu1 (zs e))).symm
 refine re1 [] [] results114 Z ⟨Z,Z,Z⟩ Z
 refine k3 6 5 1 Z<|QT<|Q6<|Qv<|Qe<|wP2 Z<|kg e fun aN e=>Qi (QD (a:=a0) (b:=1) aN)<|Qx (S':=V4 ..) Z Z Z Z Z<|Q2 ?_
 refine rnd (a0+1) (Qp hLu1 (zs e)) [6,5,1] [0,1] Z
 refine k0 Z<|QQ<|Q7<|Q7<|Qq ?_
 refine jn () (Qb hLu1 (zs e)) [] [] Z
 rintro _ j
 try dsimp only at j ⊢
 have e:=Qp hLj_1 j
 try dsimp only at e
 refine sq<|wP Z<|nr ?_
 obtain rfl:=Zi e
 refine re1 [] [] results114 Z ⟨Z,Z,Z⟩ Z
theorem QbV {N qc1 k4 qc3 k6 qc5 qc7:Nat} {a0 a7:ByteArray} {a1 a2 a8 a9:Int} {qp0 qp2 qp4 qp6:OA} {l3:List QM} {l5:List QS} {l10:List Qn} {l11:List QO} {o0:Bool} (e:Q44 N a0 a1 a2 l3 k4 l5 k6 a7 a8 a9 l10 l11=some o0):QY prog 76 [.agg #[.string a0,.int .i64 a1,.int .i64 a2,.slice qp0 k4 qc1,.slice qp2 k6 qc3],.agg #[.string a7,.int .i64 a8,.int .i64 a9,.slice qp4 l10.length qc5,.slice qp6 l11.length qc7]] [.sli 10 Q1J qp0 qc1 l3,.sli 4 Q1W qp2 qc3 l5,.sli 10 QB qp4 qc5 l10,.sli 4 QF qp6 qc7 l11] [] (R0 (.bool o0) [] []):=by
 unfold Q44 at e
 refine Qt func76 Z ntmps76 Z (S:=[_,_]) Z fun C=>sq<|wB Z fun g2=>wB Z fun g3=>wP Z<|nk2 3 2 Z<|sq<|wM 1 0 (V5 ..) Z Q2X Q8U Z<|wM 0 0 (V5 ..) Z Q2X Q8U Z<|kn e fun v7 hc7 e=>c0 [] [0,1] Z fn_77 hc7 Q5a [0,1,2,3] [_,_] Z<|wP Z ?_
 refine QE e (fun e=>?_) fun e=>?_
 refine wF Z Q6R<|wD 1 3 Z Qa1 Qaa Z<|wF Z Q6R<|wD 0 3 Z Qa1 Qaa Z<|kn e fun v13 hc13 e=>c0 [] [0,1] Z fn_113 hc13 Qbd [0,2] [_,_] Z<|wP2 Z ?_
 refine QE e (fun e=>?_) fun e=>?_
 refine wF Z Q8G<|wD 1 4 Z QcB tA_50 Z<|wF Z Q8G<|wD 0 4 Z QcB tA_50 Z<|kn e fun v20 hc20 e=>c0 [] [0,1] Z fn_114 hc20 QbR [1,3] [_,_] Z<|wP2 Z<|nk1 4 Z<|Qm ?_
 obtain rfl:=Zi e
 refine re1 [] [] results76 Z ⟨Z,Z,Z⟩ Z
 refine wO4 Z<|wO Z<|wP2 Z<|nk1 4 Z<|Qm ?_
 obtain rfl:=Zi e
 refine re1 [] [] results76 Z ⟨Z,Z,Z⟩ Z
 refine wO4 Z<|wO Z<|wP2 Z<|wO4 Z<|wO Z<|wP2 Z<|nk1 4 Z<|Qm ?_
 obtain rfl:=Zi e
 refine re1 [] [] results76 Z ⟨Z,Z,Z⟩ Z
theorem QaJ {N qc1 k1 qc3:Nat} {qp0 qp2:OA} {l0:List Q11} {l2:List Qf} {o0:Bool} (e:Q4F N l0 k1 l2=some o0):QY prog 40 [.slice qp0 k1 qc1,.slice qp2 l2.length qc3] [.sli 5 Q25 qp0 qc1 l0,.sli 5 Qh qp2 qc3 l2] [] (R0 (.bool o0) [] []):=by
 unfold Q4F at e
 refine Qt func40 Z ntmps40 Z (S:=[_,_]) Z fun C=>sq<|wP Z<|nk2 0 1 Z<|Q5<|sq<|wP Z<|wN Z Q3e<|wP Z<|wN Z Q3e<|wP Z<|Qi (Nne k1 l2.length)<|nk3 11 0 1 Z ?_
 refine Qs e Z (fun e=>?_) fun e=>?_
 refine k0 Z<|sq<|wP Z<|nr<|Q3 ?_
 obtain rfl:=Zi e
 refine re1 [] [] results40 Z ⟨Z,Z,Z⟩ Z
 refine k2 0 1 Z<|kt<|sq<|wP2 Z<|wN Z Q3e<|wP Z<|kg e fun aD e=>Qi (QD (a:=l2.length) (b:=12) aD)<|kg e fun aE e=>Q98 0 Z Z Z Zq Z Z Z Z Z Q3e Q2X aE fun aA=>wP Z<|nk2 5 1 Z<|Q5<|ks e fun aF e hLj_1=>?_
 refine cut (σ:=Unit) aF (fun _=>(.inl (),[],[],[])) ?_ ?_
 refine sq<|wP Z<|nt<|Qk<|lop (σ:=Nat) (Q5E N l0 l2) (fun a0=>(a0,[(6,.int .i64 (a0:Int)),(5,.slice aA ((l0.take (l2.length+12)).length) qc1),(1,.slice qp2 l2.length qc3)],[.sli 5 Q25 aA qc1 (l0.take (l2.length+12)),.sli 5 Qh qp2 qc3 l2],[])) 0 e [6,5,1] [0,2] Z fun a0 aW aX e hLu1=>?_
 unfold Q5E at e
 try dsimp only at e ⊢
 refine Q5<|sq<|wP2 Z<|wN Z Q3e<|wP Z<|Qi (Nlt a0 ((l0.take (l2.length+12)).length))<|nk4 20 6 5 1 Z ?_
 refine Qs e Z (fun e=>?_) fun e=>?_
 refine k3 6 5 1 Z<|kt<|Q5<|Qk<|Q5<|kn e fun aG e hLj_2=>?_
 unfold Q7U at e
 refine cut (σ:=Bool) aG (fun a1=>(a1,[(6,.int .i64 (a0:Int)),(5,.slice aA ((l0.take (l2.length+12)).length) qc1),(1,.slice qp2 l2.length qc3),(57,.bool a1)],[.sli 5 Q25 aA qc1 (l0.take (l2.length+12)),.sli 5 Qh qp2 qc3 l2],[])) ?_ ?_
 refine QG [0,1,2,3,4,5,6,7,8,9,10,11,12,14,15,16,17,18,19,20,21,22,23,24,25,26,27,28,29,32,33,34] Z Z fun z=>xP2 z 0 Z<|xN z 2 Z Q3e<|xP z 3 Z<|QA (Nlt a0 l2.length)<|xP z 4 Z ?_
 refine Q5M e (fun e=>?_) fun e=>?_
 refine xP2 z 5 Z<|kn e fun aY aH e=>xI z 7 0 a0 Z aH Q3e Q2X fun aZ b0 aU aO=>QJ Q8e 1 Z fun b1 aI _=>?_
 subst aI
 refine xL z 8 2 0 (V5 ..) Z Q2X Q8U Z<|xP2 z 9 Z<|kn e fun b2 aJ e=>xI z 11 5 a0 Z aJ Q3e Q2X fun b3 b4 aV aP=>QJ Q1T 1 Z fun b5 aK _=>?_
 subst aK
 refine xL z 12 2 0 (V5 ..) Z Q2X Q8U Z<|xS z 13 Z<|kn e fun b6 aL e=>c0 [] [] Z fn_76 aL QbV [4,5,0,1] [] Z<|Q2<|wxx 0 [] Z<|xP2 z 14 Z<|xP z 16 Z ?_
 refine Q5M e (fun e=>?_) fun e=>?_
 refine xO2 z 17 Z<|xO2 z 19 Z<|xO2 z 21 Z<|xO2 z 23 Z<|xO2 z 25 Z<|xO2 z 27 Z<|xO z 29 Z<|xS z 30 Z<|wO Z<|Q2<|wxx 0 [] Z<|xS z 31 Z<|wO Z<|Q2<|wxx 0 [] Z<|xO2 z 32 Z<|xP z 34 Z<|Qu z Z ?_
 refine jM true e [6,5,1,57] [8,9] Z
 refine xP2 z 17 Z<|xN z 19 Z Q3e<|xP z 20 Z<|QA (Nge a0 l2.length)<|xP z 21 Z ?_
 refine Q5M e (fun e=>?_) fun e=>?_
 refine xP2 z 22 Z<|kn e fun aQ a5 e=>xI z 24 8 a0 Z a5 Q3e Q2X fun aR aS aM aB=>QJ Q8e 1 Z fun aT a6 _=>?_
 subst a6
 refine xL z 25 2 0 (V5 ..) Z Q2X Q8U Z<|xP2 z 26 Z<|xN z 28 Z Q3e<|xP z 29 Z<|kg e fun a7 e=>QA (i64_in a7)<|xS z 30 Z<|kn e fun _ a8 e=>?_
 try dsimp only at e
 refine c0 [] [] Z fn_55 a8 Q7J [] [] Z<|Q2<|wxx 0 [] Z<|xS z 31 Z<|Q2q (.sli 10 QB none 0 ([] : List Qn)) (fun _ _ _=>Q2n)<|Q2q (.sli 4 QF none 0 ([] : List QO)) (fun _ _ _=>Q2n)<|kn e fun aC a9 e=>c0 [] [] Z fn_77 a9 Q5a [2,3,1,0] [] Z<|Q2<|wxx 2 [] Z<|xP2 z 32 Z<|xP z 34 Z<|Qu z Z ?_
 refine jM (!aC) e [6,5,1,57] [14,15] Z
 refine xO2 z 22 Z<|xO2 z 24 Z<|xO2 z 26 Z<|xO2 z 28 Z<|xS z 30 Z<|wO Z<|Q2<|wxx 0 [] Z<|xS z 31 Z<|wO Z<|Q2<|wxx 0 [] Z<|xO z 32 Z<|xP2 z 33 Z<|Qu z Z ?_
 refine jM false e [6,5,1,57] [8,9] Z
 refine xO2 z 5 Z<|xO2 z 7 Z<|xO2 z 9 Z<|xO2 z 11 Z<|xS z 13 Z<|wO Z<|Q2<|wxx 0 [] Z<|xO z 14 Z<|xP2 z 15 Z<|xP2 z 17 Z<|xN z 19 Z Q3e<|xP z 20 Z<|QA (Nge a0 l2.length)<|xP z 21 Z ?_
 refine Q5M e (fun e=>?_) fun e=>?_
 refine xP2 z 22 Z<|kn e fun aQ a5 e=>xI z 24 0 a0 Z a5 Q3e Q2X fun aR aS aM aB=>QJ Q8e 1 Z fun aT a6 _=>?_
 subst a6
 refine xL z 25 2 0 (V5 ..) Z Q2X Q8U Z<|xP2 z 26 Z<|xN z 28 Z Q3e<|xP z 29 Z<|kg e fun a7 e=>QA (i64_in a7)<|xS z 30 Z<|kn e fun _ a8 e=>?_
 try dsimp only at e
 refine c0 [] [] Z fn_55 a8 Q7J [] [] Z<|Q2<|wxx 0 [] Z<|xS z 31 Z<|Q2q (.sli 10 QB none 0 ([] : List Qn)) (fun _ _ _=>Q2n)<|Q2q (.sli 4 QF none 0 ([] : List QO)) (fun _ _ _=>Q2n)<|kn e fun aC a9 e=>c0 [] [] Z fn_77 a9 Q5a [2,3,1,0] [] Z<|Q2<|wxx 2 [] Z<|xP2 z 32 Z<|xP z 34 Z<|Qu z Z ?_
 refine jM (!aC) e [6,5,1,57] [6,7] Z
 refine xO2 z 22 Z<|xO2 z 24 Z<|xO2 z 26 Z<|xO2 z 28 Z<|xS z 30 Z<|wO Z<|Q2<|wxx 0 [] Z<|xS z 31 Z<|wO Z<|Q2<|wxx 0 [] Z<|xO z 32 Z<|xP2 z 33 Z<|Qu z Z ?_
 refine jM false e [6,5,1,57] [0,1] Z
 rintro a1 j
 try dsimp only at j ⊢
 have e:=hLj_2
 try rw [j] at e
 refine Qs e Z (fun e=>?_) fun e=>?_
 refine k0 Z<|sq<|wP Z<|nr<|Qg<|Q3<|rb<|Q3 ?_
 obtain rfl:=(Qb hLj_1 (Qb hLu1 (zs e))).symm
 refine re1 [] [] results40 Z ⟨Z,Z,Z⟩ Z
 refine k3 6 5 1 Z<|QT<|Q6<|Qv<|Qe<|wP2 Z<|kg e fun aN e=>Qi (QD (a:=a0) (b:=1) aN)<|Qx (S':=V4 ..) Z Z Z Z Z<|Q2 ?_
 refine rnd (a0+1) (Qp hLu1 (zs e)) [6,5,1] [0,1] Z
 refine k0 Z<|QQ<|Q7<|Q7<|Qq ?_
 refine jn () (Qb hLu1 (zs e)) [] [] Z
 rintro _ j
 try dsimp only at j ⊢
 have e:=Qp hLj_1 j
 try dsimp only at e
 refine sq<|wP Z<|nr ?_
 obtain rfl:=Zi e
 refine re1 [] [] results40 Z ⟨Z,Z,Z⟩ Z
theorem Qbg {N:Nat} {qp0:OA} {qc1:Nat} {l0:List Q8} {k1:Nat} {qp2:OA} {qc3:Nat} {l2:List Q11} {k3:Nat} {qp4:OA} {qc5:Nat} {l4:List Q8} {qp6:OA} {qc7:Nat} {l5:List Qf} {o0:Bool} (e:Q3H N l0 k1 l2 k3 l4 l5=some o0):QY prog 15 [.agg #[.slice qp0 k1 qc1,.slice qp2 k3 qc3],.agg #[.slice qp4 l4.length qc5,.slice qp6 l5.length qc7]] [.sli 2 Qd qp0 qc1 l0,.sli 5 Q25 qp2 qc3 l2,.sli 2 Qd qp4 qc5 l4,.sli 5 Qh qp6 qc7 l5] [] (R0 (.bool o0) [] []):=by
 unfold Q3H at e
 refine Qt func15 Z ntmps15 Z (S:=[_,_]) Z fun C=>sq<|wB Z fun g2=>wB Z fun g3=>wP Z<|nk2 3 2 Z<|sq<|wM 1 0 [_,_] Z Qac Qb0 Z<|wM 0 0 [_,_] Z Qac Qb0 Z<|kn e fun v7 hc7 e=>c0 [] [0,1] Z fn_38 hc7 Qbl [0,1,2,3] [_,_] Z<|wP Z ?_
 refine QE e (fun e=>?_) fun e=>?_
 refine wF Z Q4h<|wD 1 0 Z Q8u Q8F Z<|wF Z Q4h<|wD 0 0 Z Q8u Q8F Z<|kn e fun v13 hc13 e=>c0 [] [0,1] Z fn_39 hc13 Qbh [0,2] [_,_] Z<|wP2 Z ?_
 refine QE e (fun e=>?_) fun e=>?_
 refine wF Z Q5Z<|wD 1 1 Z Q9o Q9C Z<|wF Z Q5Z<|wD 0 1 Z Q9o Q9C Z<|kn e fun v20 hc20 e=>c0 [] [0,1] Z fn_40 hc20 QaJ [1,3] [_,_] Z<|wP2 Z<|nk1 4 Z<|Qm ?_
 obtain rfl:=Zi e
 refine re1 [] [] results15 Z ⟨Z,Z,Z⟩ Z
 refine wO4 Z<|wO Z<|wP2 Z<|nk1 4 Z<|Qm ?_
 obtain rfl:=Zi e
 refine re1 [] [] results15 Z ⟨Z,Z,Z⟩ Z
 refine wO4 Z<|wO Z<|wP2 Z<|wO4 Z<|wO Z<|wP2 Z<|nk1 4 Z<|Qm ?_
 obtain rfl:=Zi e
 refine re1 [] [] results15 Z ⟨Z,Z,Z⟩ Z
theorem QaV {N qc1 k1 qc3:Nat} {qp0 qp2:OA} {l0 l2:List V} {o0:Bool} (e:Q3t N l0 k1 l2=some o0):QY prog 20 [.slice qp0 k1 qc1,.slice qp2 l2.length qc3] [.sli 3 R_V qp0 qc1 l0,.sli 3 R_V qp2 qc3 l2] [] (R0 (.bool o0) [] []):=by
 unfold Q3t at e
 refine Qt func20 Z ntmps20 Z (S:=[_,_]) Z fun C=>sq<|wP Z<|nk2 0 1 Z<|Q5<|sq<|wP Z<|wN Z Q1F<|wP Z<|wN Z Q1F<|wP Z<|Qi (Nne k1 l2.length)<|nk3 10 0 1 Z ?_
 refine Qs e Z (fun e=>?_) fun e=>?_
 refine k0 Z<|sq<|wP Z<|nr<|Q3 ?_
 obtain rfl:=Zi e
 refine re1 [] [] results20 Z ⟨Z,Z,Z⟩ Z
 refine k2 0 1 Z<|kt<|Q5<|ks e fun bj_1 e hLj_1=>?_
 refine cut (σ:=Unit) bj_1 (fun _=>(.inl (),[],[],[])) ?_ ?_
 refine sq<|wP Z<|nt<|Qk<|lop (σ:=Nat) (Q68 N k1 l0 l2) (fun u1_5=>(u1_5,[(5,.int .i64 (u1_5:Int)),(0,.slice qp0 k1 qc1),(1,.slice qp2 l2.length qc3)],[.sli 3 R_V qp0 qc1 l0,.sli 3 R_V qp2 qc3 l2],[])) 0 e [5,0,1] [0,1] Z fun u1_5 mu1 bu1 e hLu1=>?_
 unfold Q68 at e
 try dsimp only at e ⊢
 refine Q5<|sq<|wP2 Z<|wN Z Q1F<|wP Z<|Qi (Nlt u1_5 k1)<|nk4 14 5 0 1 Z ?_
 refine Qs e Z (fun e=>?_) fun e=>?_
 refine k3 5 0 1 Z<|kt<|Q5<|Qk<|Q5<|QG [0,1,2,3,4,5,6,7,8] Z Z fun z=>xP2 z 0 Z<|kg e fun hqx19 e=>kn e fun x19 hx19 e=>Q9J z 2 0 u1_5 Z Z Z Zq Z Z Z Z Z Z hqx19 hx19 Q1F Qz fun b19 q19 cs19 hlx19=>QJ Q24 1 Z fun r19 er19 _=>?_
 subst er19
 refine xL z 3 0 0 (V3 ..) Z Qz Q17 Z<|xP2 z 4 Z<|kn e fun x23 hx23 e=>xI z 6 3 u1_5 Z hx23 Q1F Qz fun b23 q23 cs23 hlx23=>QJ Q24 1 Z fun r23 er23 _=>?_
 subst er23
 refine xL z 7 0 0 (V3 ..) Z Qz Q17 Z<|Q8l z 8 Z Z Z Zq Z Z Z Z (neqV _ _ x19 x23)<|Qu z Z<|Qv<|k4 25 5 0 1 Z ?_
 refine Qs e Z (fun e=>?_) fun e=>?_
 refine k0 Z<|sq<|wP Z<|nr<|Qg<|Q3<|rb<|Q3 ?_
 obtain rfl:=(Qb hLj_1 (Qb hLu1 (zs e))).symm
 refine re1 [] [] results20 Z ⟨Z,Z,Z⟩ Z
 refine k3 5 0 1 Z<|QT<|Q6<|Qv<|Qe<|wP2 Z<|kg e fun hg16 e=>Qi (QD (a:=u1_5) (b:=1) hg16)<|Qx (S':=V4 ..) Z Z Z Z Z<|Q2 ?_
 refine rnd (u1_5+1) (Qp hLu1 (zs e)) [5,0,1] [4,5] Z
 refine k0 Z<|QQ<|Q7<|Q7<|Qq ?_
 refine jn () (Qb hLu1 (zs e)) [] [] Z
 rintro _ j
 try dsimp only at j ⊢
 have e:=Qp hLj_1 j
 try dsimp only at e
 refine sq<|wP Z<|nr ?_
 obtain rfl:=Zi e
 refine re1 [] [] results20 Z ⟨Z,Z,Z⟩ Z
theorem Q7b {N qc1 k3 qc3:Nat} {a0 a1 a4 a5:Int} {qp0 qp2:OA} {l2 l6:List V} {o0:Bool} (e:Q1R N a0 a1 l2 k3 a4 a5 l6=some o0):QY prog 42 [.agg #[.int .i64 a0,.int .i64 a1,.slice qp0 k3 qc1],.agg #[.int .i64 a4,.int .i64 a5,.slice qp2 l6.length qc3]] [.sli 3 R_V qp0 qc1 l2,.sli 3 R_V qp2 qc3 l6] [] (R0 (.bool o0) [] []):=by
 unfold Q1R at e
 refine Qt func42 Z ntmps42 Z (S:=[_,_]) Z fun C=>sq<|wB Z fun g2=>wB Z fun g3=>wP Z<|nk2 3 2 Z<|sq<|wF Z Q3X<|wD 1 0 Z QV Q13 Z<|wF Z Q3X<|wD 0 0 Z QV Q13 Z<|wP2 Z ?_
 refine QE e (fun e=>?_) fun e=>?_
 refine wF Z Q6T<|wD 1 1 Z QV Q13 Z<|wF Z Q6T<|wD 0 1 Z QV Q13 Z<|wP2 Z<|wP Z ?_
 refine QE e (fun e=>?_) fun e=>?_
 refine wF Z Q6m<|wD 1 2 Z Q6n Q6E Z<|wF Z Q6m<|wD 0 2 Z Q6n Q6E Z<|kn e fun v22 hc22 e=>c0 [] [0,1] Z fn_20 hc22 QaV [0,1] [_,_] Z<|wP2 Z<|nk1 4 Z<|Qm ?_
 obtain rfl:=Zi e
 refine re1 [] [] results42 Z ⟨Z,Z,Z⟩ Z
 refine wO4 Z<|wO Z<|wP2 Z<|nk1 4 Z<|Qm ?_
 obtain rfl:=Zi e
 refine re1 [] [] results42 Z ⟨Z,Z,Z⟩ Z
 refine wO4 Z<|wO Z<|wP2 Z<|wO4 Z<|wO Z<|wP2 Z<|nk1 4 Z<|Qm ?_
 obtain rfl:=Zi e
 refine re1 [] [] results42 Z ⟨Z,Z,Z⟩ Z
theorem QaS {N qc1 k1 qc3:Nat} {qp0 qp2:OA} {l0 l2:List V} {o0:Bool} (e:Q4T N l0 k1 l2=some o0):QY prog 78 [.slice qp0 k1 qc1,.slice qp2 l2.length qc3] [.sli 3 R_V qp0 qc1 l0,.sli 3 R_V qp2 qc3 l2] [] (R0 (.bool o0) [] []):=by
 unfold Q4T at e
 refine Qt func78 Z ntmps78 Z (S:=[_,_]) Z fun C=>sq<|wP Z<|nk2 0 1 Z<|Q5<|sq<|wP Z<|wN Z Q1F<|wP Z<|wN Z Q1F<|wP Z<|Qi (Nne k1 l2.length)<|nk3 11 0 1 Z ?_
 refine Qs e Z (fun e=>?_) fun e=>?_
 refine k0 Z<|sq<|wP Z<|nr<|Q3 ?_
 obtain rfl:=Zi e
 refine re1 [] [] results78 Z ⟨Z,Z,Z⟩ Z
 refine k2 0 1 Z<|kt<|sq<|wP2 Z<|wN Z Q1F<|wP Z<|kg e fun aC e=>Qi (QD (a:=l2.length) (b:=12) aC)<|kg e fun aD e=>Q98 0 Z Z Z Zq Z Z Z Z Z Q1F Qz aD fun aA=>wP Z<|nk2 5 1 Z<|Q5<|ks e fun aE e hLj_1=>?_
 refine cut (σ:=Unit) aE (fun _=>(.inl (),[],[],[])) ?_ ?_
 refine sq<|wP Z<|nt<|Qk<|lop (σ:=Nat) (Q67 N l0 l2) (fun a0=>(a0,[(6,.int .i64 (a0:Int)),(5,.slice aA ((l0.take (l2.length+12)).length) qc1),(1,.slice qp2 l2.length qc3)],[.sli 3 R_V aA qc1 (l0.take (l2.length+12)),.sli 3 R_V qp2 qc3 l2],[])) 0 e [6,5,1] [0,2] Z fun a0 aV aW e hLu1=>?_
 unfold Q67 at e
 try dsimp only at e ⊢
 refine Q5<|sq<|wP2 Z<|wN Z Q1F<|wP Z<|Qi (Nlt a0 ((l0.take (l2.length+12)).length))<|nk4 20 6 5 1 Z ?_
 refine Qs e Z (fun e=>?_) fun e=>?_
 refine k3 6 5 1 Z<|kt<|Q5<|Qk<|Q5<|kn e fun aF e hLj_2=>?_
 unfold Q88 at e
 refine cut (σ:=Bool) aF (fun a1=>(a1,[(6,.int .i64 (a0:Int)),(5,.slice aA ((l0.take (l2.length+12)).length) qc1),(1,.slice qp2 l2.length qc3),(57,.bool a1)],[.sli 3 R_V aA qc1 (l0.take (l2.length+12)),.sli 3 R_V qp2 qc3 l2],[])) ?_ ?_
 refine QG [0,1,2,3,4,5,6,7,8,9,10,11,12,13,14,15,16,17,18,19,20,21,22,23,24,25,26,27,28,29,31,32,33,34] Z Z fun z=>xP2 z 0 Z<|xN z 2 Z Q1F<|xP z 3 Z<|QA (Nlt a0 l2.length)<|xP z 4 Z ?_
 refine Q5M e (fun e=>?_) fun e=>?_
 refine xP2 z 5 Z<|kn e fun aM aG e=>xI z 7 0 a0 Z aG Q1F Qz fun aX aY aT aN=>QJ Q24 1 Z fun aZ aH _=>?_
 subst aH
 refine xL z 8 0 0 (V3 ..) Z Qz Q17 Z<|xP2 z 9 Z<|kn e fun aO aI e=>xI z 11 3 a0 Z aI Q1F Qz fun b0 b1 aU aP=>QJ Q24 1 Z fun b2 aJ _=>?_
 subst aJ
 refine xL z 12 0 0 (V3 ..) Z Qz Q17 Z<|Q8l z 13 Z Z Z Zq Z Z Z Z (eqlV _ _ aM aO)<|xP2 z 14 Z<|xP z 16 Z ?_
 refine Q5M e (fun e=>?_) fun e=>?_
 refine xO2 z 17 Z<|xO2 z 19 Z<|xO2 z 21 Z<|xO2 z 23 Z<|xO2 z 25 Z<|xO2 z 27 Z<|xO z 29 Z<|xS z 30 Z<|wO Z<|Q2<|wxx 0 [] Z<|xO2 z 31 Z<|xO z 33 Z<|xP z 34 Z<|Qu z Z ?_
 refine jM true e [6,5,1,57] [4,5] Z
 refine xP2 z 17 Z<|xN z 19 Z Q1F<|xP z 20 Z<|QA (Nge a0 l2.length)<|xP z 21 Z ?_
 refine Q5M e (fun e=>?_) fun e=>?_
 refine xP2 z 22 Z<|kn e fun a5 a6 e=>xI z 24 4 a0 Z a6 Q1F Qz fun aQ aR aK aB=>QJ Q24 1 Z fun aS a7 _=>?_
 subst a7
 refine xL z 25 0 0 (V3 ..) Z Qz Q17 Z<|xP2 z 26 Z<|xN z 28 Z Q1F<|xP z 29 Z<|kg e fun a8 e=>QA (i64_in a8)<|xS z 30 Z<|kn e fun _ a9 e=>?_
 try dsimp only at e
 refine c0 [] [] Z fn_97 a9 Q7k [] [] Z<|Q2<|wxx 0 [] Z<|Q8l z 31 Z Z Z Zq Z Z Z Z (eqlV _ _ a5 (⟨0,MK 1 ((a0:Int) - (l2.length:Int)),EB⟩ : V))<|xP2 z 32 Z<|xP z 34 Z<|Qu z Z ?_
 refine jM (!(decide (a5=(⟨0,MK 1 ((a0:Int) - (l2.length:Int)),EB⟩ : V)))) e [6,5,1,57] [6,7] Z
 refine xO2 z 22 Z<|xO2 z 24 Z<|xO2 z 26 Z<|xO2 z 28 Z<|xS z 30 Z<|wO Z<|Q2<|wxx 0 [] Z<|xO2 z 31 Z<|xP2 z 33 Z<|Qu z Z ?_
 refine jM false e [6,5,1,57] [4,5] Z
 refine xO2 z 5 Z<|xO2 z 7 Z<|xO2 z 9 Z<|xO2 z 11 Z<|xO2 z 13 Z<|xP2 z 15 Z<|xP2 z 17 Z<|xN z 19 Z Q1F<|xP z 20 Z<|QA (Nge a0 l2.length)<|xP z 21 Z ?_
 refine Q5M e (fun e=>?_) fun e=>?_
 refine xP2 z 22 Z<|kn e fun a5 a6 e=>xI z 24 0 a0 Z a6 Q1F Qz fun aQ aR aK aB=>QJ Q24 1 Z fun aS a7 _=>?_
 subst a7
 refine xL z 25 0 0 (V3 ..) Z Qz Q17 Z<|xP2 z 26 Z<|xN z 28 Z Q1F<|xP z 29 Z<|kg e fun a8 e=>QA (i64_in a8)<|xS z 30 Z<|kn e fun _ a9 e=>?_
 try dsimp only at e
 refine c0 [] [] Z fn_97 a9 Q7k [] [] Z<|Q2<|wxx 0 [] Z<|Q8l z 31 Z Z Z Zq Z Z Z Z (eqlV _ _ a5 (⟨0,MK 1 ((a0:Int) - (l2.length:Int)),EB⟩ : V))<|xP2 z 32 Z<|xP z 34 Z<|Qu z Z ?_
 refine jM (!(decide (a5=(⟨0,MK 1 ((a0:Int) - (l2.length:Int)),EB⟩ : V)))) e [6,5,1,57] [2,3] Z
 refine xO2 z 22 Z<|xO2 z 24 Z<|xO2 z 26 Z<|xO2 z 28 Z<|xS z 30 Z<|wO Z<|Q2<|wxx 0 [] Z<|xO2 z 31 Z<|xP2 z 33 Z<|Qu z Z ?_
 refine jM false e [6,5,1,57] [0,1] Z
 rintro a1 j
 try dsimp only at j ⊢
 have e:=hLj_2
 try rw [j] at e
 refine Qs e Z (fun e=>?_) fun e=>?_
 refine k0 Z<|sq<|wP Z<|nr<|Qg<|Q3<|rb<|Q3 ?_
 obtain rfl:=(Qb hLj_1 (Qb hLu1 (zs e))).symm
 refine re1 [] [] results78 Z ⟨Z,Z,Z⟩ Z
 refine k3 6 5 1 Z<|QT<|Q6<|Qv<|Qe<|wP2 Z<|kg e fun aL e=>Qi (QD (a:=a0) (b:=1) aL)<|Qx (S':=V4 ..) Z Z Z Z Z<|Q2 ?_
 refine rnd (a0+1) (Qp hLu1 (zs e)) [6,5,1] [0,1] Z
 refine k0 Z<|QQ<|Q7<|Q7<|Qq ?_
 refine jn () (Qb hLu1 (zs e)) [] [] Z
 rintro _ j
 try dsimp only at j ⊢
 have e:=Qp hLj_1 j
 try dsimp only at e
 refine sq<|wP Z<|nr ?_
 obtain rfl:=Zi e
 refine re1 [] [] results78 Z ⟨Z,Z,Z⟩ Z
theorem QbU {N qc1 k3 qc3:Nat} {a0 a1 a4 a5:Int} {qp0 qp2:OA} {l2 l6:List V} {o0:Bool} (e:Q2M N a0 a1 l2 k3 a4 a5 l6=some o0):QY prog 41 [.agg #[.int .i64 a0,.int .i64 a1,.slice qp0 k3 qc1],.agg #[.int .i64 a4,.int .i64 a5,.slice qp2 l6.length qc3]] [.sli 3 R_V qp0 qc1 l2,.sli 3 R_V qp2 qc3 l6] [] (R0 (.bool o0) [] []):=by
 unfold Q2M at e
 refine Qt func41 Z ntmps41 Z (S:=[_,_]) Z fun C=>sq<|wB Z fun g2=>wB Z fun g3=>wP Z<|nk2 3 2 Z<|sq<|wM 1 0 (V3 ..) Z Q4l Qab Z<|wM 0 0 (V3 ..) Z Q4l Qab Z<|kn e fun v7 hc7 e=>c0 [] [0,1] Z fn_42 hc7 Q7b [0,1] [_,_] Z<|wP Z ?_
 refine QE e (fun e=>?_) fun e=>?_
 refine wF Z Q6m<|wD 1 2 Z Q6n Q6E Z<|wF Z Q6m<|wD 0 2 Z Q6n Q6E Z<|kn e fun v13 hc13 e=>c0 [] [0,1] Z fn_78 hc13 QaS [0,1] [_,_] Z<|wP2 Z<|nk1 4 Z<|Qm ?_
 obtain rfl:=Zi e
 refine re1 [] [] results41 Z ⟨Z,Z,Z⟩ Z
 refine wO4 Z<|wO Z<|wP2 Z<|nk1 4 Z<|Qm ?_
 obtain rfl:=Zi e
 refine re1 [] [] results41 Z ⟨Z,Z,Z⟩ Z
theorem Qbf {N:Nat} {qp0:OA} {qc1:Nat} {l0:List Q1u} {k1:Nat} {qp2:OA} {qc3:Nat} {l2:List QP} {o0:Bool} (e:Q5k N l0 k1 l2=some o0):QY prog 16 [.slice qp0 k1 qc1,.slice qp2 l2.length qc3] [.sli 3 QdQ qp0 qc1 l0,.sli 3 Q14 qp2 qc3 l2] [] (R0 (.bool o0) [] []):=by
 unfold Q5k at e
 refine Qt func16 Z ntmps16 Z (S:=[_,_]) Z fun C=>sq<|wP Z<|nk2 0 1 Z<|Q5<|sq<|wP Z<|wN Z Q4N<|wP Z<|wN Z Q4N<|wP Z<|Qi (Nne k1 l2.length)<|nk3 11 0 1 Z ?_
 refine Qs e Z (fun e=>?_) fun e=>?_
 refine k0 Z<|sq<|wP Z<|nr<|Q3 ?_
 obtain rfl:=Zi e
 refine re1 [] [] results16 Z ⟨Z,Z,Z⟩ Z
 refine k2 0 1 Z<|kt<|sq<|wP2 Z<|wN Z Q4N<|wP Z<|kg e fun aD e=>Qi (QD (a:=l2.length) (b:=12) aD)<|kg e fun aE e=>Q98 0 Z Z Z Zq Z Z Z Z Z Q4N Q4l aE fun aA=>wP Z<|nk2 5 1 Z<|Q5<|ks e fun aF e hLj_1=>?_
 refine cut (σ:=Unit) aF (fun _=>(.inl (),[],[],[])) ?_ ?_
 refine sq<|wP Z<|nt<|Qk<|lop (σ:=Nat) (Q6t N l0 l2) (fun a0=>(a0,[(6,.int .i64 (a0:Int)),(5,.slice aA ((l0.take (l2.length+12)).length) qc1),(1,.slice qp2 l2.length qc3)],[.sli 3 QdQ aA qc1 (l0.take (l2.length+12)),.sli 3 Q14 qp2 qc3 l2],[])) 0 e [6,5,1] [0,2] Z fun a0 aW aX e hLu1=>?_
 unfold Q6t at e
 try dsimp only at e ⊢
 refine Q5<|sq<|wP2 Z<|wN Z Q4N<|wP Z<|Qi (Nlt a0 ((l0.take (l2.length+12)).length))<|nk4 20 6 5 1 Z ?_
 refine Qs e Z (fun e=>?_) fun e=>?_
 refine k3 6 5 1 Z<|kt<|Q5<|Qk<|Q5<|kn e fun aG e hLj_2=>?_
 unfold Q8p at e
 refine cut (σ:=Bool) aG (fun a1=>(a1,[(6,.int .i64 (a0:Int)),(5,.slice aA ((l0.take (l2.length+12)).length) qc1),(1,.slice qp2 l2.length qc3),(57,.bool a1)],[.sli 3 QdQ aA qc1 (l0.take (l2.length+12)),.sli 3 Q14 qp2 qc3 l2],[])) ?_ ?_
 refine QG [0,1,2,3,4,5,6,7,8,9,10,11,12,14,15,16,17,18,19,20,21,22,23,24,25,26,27,28,29,32,33,34] Z Z fun z=>xP2 z 0 Z<|xN z 2 Z Q4N<|xP z 3 Z<|QA (Nlt a0 l2.length)<|xP z 4 Z ?_
 refine Q5M e (fun e=>?_) fun e=>?_
 refine xP2 z 5 Z<|kn e fun aY aH e=>xI z 7 0 a0 Z aH Q4N Q4l fun aZ b0 aU aO=>QJ Qbx 1 Z fun b1 aI _=>?_
 subst aI
 refine xL z 8 1 0 (V3 ..) Z Q4l Qab Z<|xP2 z 9 Z<|kn e fun b2 aJ e=>xI z 11 4 a0 Z aJ Q4N Q4l fun b3 b4 aV aP=>QJ Q40 1 Z fun b5 aK _=>?_
 subst aK
 refine xL z 12 1 0 (V3 ..) Z Q4l Qab Z<|xS z 13 Z<|kn e fun b6 aL e=>c0 [] [] Z fn_41 aL QbU [3,0] [] Z<|Q2<|wxx 0 [] Z<|xP2 z 14 Z<|xP z 16 Z ?_
 refine Q5M e (fun e=>?_) fun e=>?_
 refine xO2 z 17 Z<|xO2 z 19 Z<|xO2 z 21 Z<|xO2 z 23 Z<|xO2 z 25 Z<|xO2 z 27 Z<|xO z 29 Z<|xS z 30 Z<|wO Z<|Q2<|wxx 0 [] Z<|xS z 31 Z<|wO Z<|Q2<|wxx 0 [] Z<|xO2 z 32 Z<|xP z 34 Z<|Qu z Z ?_
 refine jM true e [6,5,1,57] [6,7] Z
 refine xP2 z 17 Z<|xN z 19 Z Q4N<|xP z 20 Z<|QA (Nge a0 l2.length)<|xP z 21 Z ?_
 refine Q5M e (fun e=>?_) fun e=>?_
 refine xP2 z 22 Z<|kn e fun aQ a5 e=>xI z 24 6 a0 Z a5 Q4N Q4l fun aR aS aM aB=>QJ Qbx 1 Z fun aT a6 _=>?_
 subst a6
 refine xL z 25 1 0 (V3 ..) Z Q4l Qab Z<|xP2 z 26 Z<|xN z 28 Z Q4N<|xP z 29 Z<|kg e fun a7 e=>QA (i64_in a7)<|xS z 30 Z<|kn e fun _ a8 e=>?_
 try dsimp only at e
 refine c0 [] [] Z fn_29 a8 Q7I [] [] Z<|Q2<|wxx 0 [] Z<|xS z 31 Z<|Q2q (.sli 3 R_V none 0 ([] : List V)) (fun _ _ _=>Q2n)<|kn e fun aC a9 e=>c0 [] [] Z fn_42 a9 Q7b [1,0] [] Z<|Q2<|wxx 1 [] Z<|xP2 z 32 Z<|xP z 34 Z<|Qu z Z ?_
 refine jM (!aC) e [6,5,1,57] [10,11] Z
 refine xO2 z 22 Z<|xO2 z 24 Z<|xO2 z 26 Z<|xO2 z 28 Z<|xS z 30 Z<|wO Z<|Q2<|wxx 0 [] Z<|xS z 31 Z<|wO Z<|Q2<|wxx 0 [] Z<|xO z 32 Z<|xP2 z 33 Z<|Qu z Z ?_
 refine jM false e [6,5,1,57] [6,7] Z
 refine xO2 z 5 Z<|xO2 z 7 Z<|xO2 z 9 Z<|xO2 z 11 Z<|xS z 13 Z<|wO Z<|Q2<|wxx 0 [] Z<|xO z 14 Z<|xP2 z 15 Z<|xP2 z 17 Z<|xN z 19 Z Q4N<|xP z 20 Z<|QA (Nge a0 l2.length)<|xP z 21 Z ?_
 refine Q5M e (fun e=>?_) fun e=>?_
 refine xP2 z 22 Z<|kn e fun aQ a5 e=>xI z 24 0 a0 Z a5 Q4N Q4l fun aR aS aM aB=>QJ Qbx 1 Z fun aT a6 _=>?_
 subst a6
 refine xL z 25 1 0 (V3 ..) Z Q4l Qab Z<|xP2 z 26 Z<|xN z 28 Z Q4N<|xP z 29 Z<|kg e fun a7 e=>QA (i64_in a7)<|xS z 30 Z<|kn e fun _ a8 e=>?_
 try dsimp only at e
 refine c0 [] [] Z fn_29 a8 Q7I [] [] Z<|Q2<|wxx 0 [] Z<|xS z 31 Z<|Q2q (.sli 3 R_V none 0 ([] : List V)) (fun _ _ _=>Q2n)<|kn e fun aC a9 e=>c0 [] [] Z fn_42 a9 Q7b [1,0] [] Z<|Q2<|wxx 1 [] Z<|xP2 z 32 Z<|xP z 34 Z<|Qu z Z ?_
 refine jM (!aC) e [6,5,1,57] [4,5] Z
 refine xO2 z 22 Z<|xO2 z 24 Z<|xO2 z 26 Z<|xO2 z 28 Z<|xS z 30 Z<|wO Z<|Q2<|wxx 0 [] Z<|xS z 31 Z<|wO Z<|Q2<|wxx 0 [] Z<|xO z 32 Z<|xP2 z 33 Z<|Qu z Z ?_
 refine jM false e [6,5,1,57] [0,1] Z
 rintro a1 j
 try dsimp only at j ⊢
 have e:=hLj_2
 try rw [j] at e
 refine Qs e Z (fun e=>?_) fun e=>?_
 refine k0 Z<|sq<|wP Z<|nr<|Qg<|Q3<|rb<|Q3 ?_
 obtain rfl:=(Qb hLj_1 (Qb hLu1 (zs e))).symm
 refine re1 [] [] results16 Z ⟨Z,Z,Z⟩ Z
 refine k3 6 5 1 Z<|QT<|Q6<|Qv<|Qe<|wP2 Z<|kg e fun aN e=>Qi (QD (a:=a0) (b:=1) aN)<|Qx (S':=V4 ..) Z Z Z Z Z<|Q2 ?_
 refine rnd (a0+1) (Qp hLu1 (zs e)) [6,5,1] [0,1] Z
 refine k0 Z<|QQ<|Q7<|Q7<|Qq ?_
 refine jn () (Qb hLu1 (zs e)) [] [] Z
 rintro _ j
 try dsimp only at j ⊢
 have e:=Qp hLj_1 j
 try dsimp only at e
 refine sq<|wP Z<|nr ?_
 obtain rfl:=Zi e
 refine re1 [] [] results16 Z ⟨Z,Z,Z⟩ Z
theorem QaL (N:Nat)(aL:OA)(aM:Nat)(l0:List Q8)(aN:OA)(aO:Nat)(l1:List Qf)(aP:OA)(aQ:Nat)(l2:List QP)(o0:Bool)(e:Q38 N l0 l1 l2=some o0):QY prog 3 [.agg #[.slice aL l0.length aM,.slice aN l1.length aO],.slice aP l2.length aQ] [.sli 2 Qd aL aM l0,.sli 5 Qh aN aO l1,.sli 3 Q14 aP aQ l2] [] (R0 (.bool o0) [] []):=by
 unfold Q38 at e
 refine Qt func3 Z ntmps3 Z (S:=[_,_]) Z fun C=>sq<|wB Z fun g2=>wP Z<|nk2 2 1 Z<|Q5<|sq<|wC [] [0] Z fn_8 Z aw_8 (asK [] Z) Z (H':=[_]) Z ?_
 rintro _ _ _ ⟨rfl,rfl,rfl⟩
 refine wP Z<|nk3 12 2 1 Z<|Qde Z<|k2 2 1 Z<|kt<|Q5<|sq<|wM 0 0 [_,_] Z Qac Qb0 Z<|wP Z<|kn e fun bI aZ e=>c0 [] [0] Z fn_9 aZ Qda [0,1,2] [_] Z<|wP Z<|nk3 16 2 1 Z ?_
 refine Qs e Z (fun e=>?_) fun e=>?_
 refine k0 Z<|sq<|wP Z<|nr<|Q3 ?_
 obtain rfl:=Zi e
 refine re1 [] [] results3 Z ⟨Z,Z,Z⟩ Z
 refine k2 2 1 Z<|kt<|sq<|wM 0 0 [_,_] Z Qac Qb0 Z ?_
 obtain ⟨⟨a6,a9⟩,b0,e⟩:=Qy e
 try dsimp only at e
 refine c6 [] [0] Z fn_10 b0 Qcd [0,1] [_] Z fun z a0 bB a1 a5 bC=>wP Z<|kn e fun aK b1 e=>c3 [] [0,1,2] Z fn_11 b1 Qcc [2] (V3 ..) Z fun a7 a8 bD=>QH Z Z Z Zq Z tZ_25 Z fun g5=>wS 0 0 Z Qac (all':=[_,_]) Z (H':=V5 ..) Z<|wP Z<|nk4 6 5 2 1 Z<|sq<|wM 0 0 [_,_] Z Qac Qb0 Z<|wP Z<|Q1Z 2 Z fun aH _=>?_
 subst aH
 refine Q1Z 3 Z fun aI _=>?_
 subst aI
 refine Qar 1 Z fun b2 _=>?_
 subst b2
 refine kg e fun aD e=>Qb3 1 (v':=.agg #[.slice z ((a6.take l0.length).length) a0,.slice a1 l1.length a5]) Z (by rw [Q2e aD])<|Q3U 0 (φ':=.blk g5 [.slice z ((a6.take l0.length).length) a0,.slice a1 l1.length a5] 25) Z (by rw [Q2e aD]) (H':=V5 ..) Z<|kg e fun aE e=>Qb3 1 (v':=.agg #[.slice z ((a6.take l0.length).length) a0,.slice a1 (((a9.map Q6U).take l1.length).length) a5]) Z (by rw [Q9F aE])<|Q3U 0 (φ':=.blk g5 [.slice z ((a6.take l0.length).length) a0,.slice a1 (((a9.map Q6U).take l1.length).length) a5] 25) Z (by rw [Q9F aE]) (H':=V5 ..) Z<|kg e fun aF e=>Qb3 0 (v':=.slice a7 (((aK.map QaF).take l2.length).length) a8) Z (by rw [Q9F aF])<|Qb3 2 (v':=.slice a7 (((aK.map QaF).take l2.length).length) a8) Z (by rw [Q9F aF]) ?_
 obtain ⟨⟨aR,aS⟩,b3,e⟩:=Qy e
 try dsimp only at e
 refine QdI [] [0,1,2,3,4] [2,3,1] Z Z Z Zq Z Z fn_12 Z (@w_naive_Tokens_s N z a0 (a6.take l0.length) a1 a5 ((a9.map Q6U).take l1.length) a7 a8 ((aK.map QaF).take l2.length) _ _ b3) (fun F w hφ hh=>(Q10 (sli_take (Q3g (hh _ (Q1f (k:=0) Z))) l0.length) (Q10 (sli_take (Qbu _ (Q3g (hh _ (Q1f (k:=1) Z))) (fun _ _=>RS_Api_RuleD_lend)) l1.length) (Q10 (sli_take (tree_sliM TS_FactD_lend (hh _ (Q1f (k:=2) Z)) (fun _ h=>h) (fun _ h=>h)) l2.length) Q16)))) (fun _ _ _ hR=>by obtain ⟨_,_,_,rfl,rfl,rfl⟩:=hR;exact ⟨Z,(free_cons (tree_free T_Api_TokenD_free) (fun _ h=>Qbz h))⟩) Z Z (H':=V5 ..) Z ?_
 rintro _ _ _ ⟨aT,aU,bE,rfl,rfl,rfl⟩
 refine Qb3 1 (v':=.slice a7 l2.length a8) Z (by rw [Q9F aF])<|Qb3 3 (v':=.slice a7 l2.length a8) Z (by rw [Q9F aF])<|Qb3 2 (v':=.agg #[.slice z ((a6.take l0.length).length) a0,.slice a1 l1.length a5]) Z (by rw [Q9F aE])<|Q3U 1 (φ':=.blk g5 [.slice z ((a6.take l0.length).length) a0,.slice a1 l1.length a5] 25) Z (by rw [Q9F aE]) (H':=V6 ..) Z<|Qb3 2 (v':=.agg #[.slice z l0.length a0,.slice a1 l1.length a5]) Z (by rw [Q2e aD])<|Q3U 1 (φ':=.blk g5 [.slice z l0.length a0,.slice a1 l1.length a5] 25) Z (by rw [Q2e aD]) (H':=V6 ..) Z<|wP2 Z<|wP2 Z<|wP Z<|nk6 8 7 6 5 2 1 Z<|sq<|wM 5 0 [_,_] Z Qac Qb0 Z<|wP Z ?_
 obtain ⟨⟨aV,aW⟩,b4,e⟩:=Qy e
 try dsimp only at e
 refine c3 [] [0,1,2,3,4,5] Z fn_13 b4 QcS [0,1,2] (V6 ..) Z fun aX aY bF=>wP2 Z<|wP2 Z<|wP Z<|nk8 10 9 8 7 6 5 2 1 Z<|Q5<|kn e fun b5 e hLj_1=>?_
 unfold Q5G at e
 refine cut (σ:=Bool) b5 (fun aC=>(aC,[(4,.bool aC)],[],[])) ?_ ?_
 refine Qe<|wP2 Z<|wP Z<|Qi (Neq aS aW)<|wP Z ?_
 refine QE e (fun e=>?_) fun e=>?_
 refine wP2 Z<|Qar 1 Z fun b6 _=>?_
 subst b6
 refine Q1Z 0 Z fun aJ _=>?_
 subst aJ
 refine kn e fun bJ b7 e=>QdI [] [0,1,2,3,4,5,6] [1,0] Z Z Z Zq Z Z fn_14 Z (@Qc0 N aT aU aR aX aY aV _ b7) (fun F w hφ hh=>(Q10 (tree_sli T_Api_TokenD_lend (hh _ (Q1f (k:=0) Z)) (fun _ h=>h) (fun _ h=>h)) (Q10 (Q3g (hh _ (Q1f (k:=1) Z))) Q16))) (fun _ _ _ hR=>by obtain ⟨rfl,rfl,rfl⟩:=hR;exact ⟨Z,(fun _ h=>Qbz h)⟩) Z Z (H':=V7 ..) Z ?_
 rintro _ _ _ ⟨rfl,rfl,rfl⟩
 refine wP2 Z ?_
 refine QE e (fun e=>?_) fun e=>?_
 refine wM 2 0 [_,_] Z Qac Qb0 Z<|wM 6 0 [_,_] Z Qac Qb0 Z<|kn e fun bK b8 e=>QdI [] [0,1,2,3,4,5,6] [4,5] Z Z Z Zq Z Z fn_15 Z (@Qbg N z a0 a6 l0.length a1 a5 a9 l1.length aL aM l0 aN aO l1 _ b8) (fun F w hφ hh=>(Q10 (Q3g (hh _ (Q1f (k:=0) Z))) (Q10 (Q3g (hh _ (Q1f (k:=1) Z))) (Q10 (hφ _ (Q1f (k:=0) Z)) (Q10 (hφ _ (Q1f (k:=1) Z)) Q16))))) (fun _ _ _ hR=>by obtain ⟨rfl,rfl,rfl⟩:=hR;exact ⟨Z,(fun _ h=>Qbz h)⟩) Z Z (H':=V7 ..) Z ?_
 rintro _ _ _ ⟨rfl,rfl,rfl⟩
 refine wP2 Z ?_
 refine QE e (fun e=>?_) fun e=>?_
 refine wP2 Z<|kn e fun bG b9 e=>QdI [] [0,1,2,3,4,5,6] [3] Z Z Z Zq Z Z fn_16 Z (@Qbf N a7 a8 aK l2.length aP aQ l2 _ b9) (fun F w hφ hh=>(Q10 (tree_sli TS_FactD_lendS (hh _ (Q1f (k:=0) Z)) (fun _ h=>h) (fun _ h=>h)) (Q10 (hφ _ (Q1f (k:=2) Z)) Q16))) (fun _ _ _ hR=>by obtain ⟨rfl,rfl,rfl⟩:=hR;exact ⟨Z,(fun _ h=>Qbz h)⟩) Z Z (H':=V7 ..) Z ?_
 rintro _ _ _ ⟨rfl,rfl,rfl⟩
 refine wP2 Z<|Q2<|Qo [] Z (H':=[]) Z ?_
 refine jM bG e [4] [] Z
 refine wO2 Z<|wO Z<|wP2 Z<|Q2<|Qo [] Z (H':=[]) Z ?_
 refine jM false e [4] [] Z
 refine wO2 Z<|wO Z<|wP2 Z<|wO2 Z<|wO Z<|wP2 Z<|Q2<|Qo [] Z (H':=[]) Z ?_
 refine jM false e [4] [] Z
 refine wO2 Z<|wO Z<|wP2 Z<|wO2 Z<|wO Z<|wP2 Z<|wO2 Z<|wO Z<|wP2 Z<|Q2<|Qo [] Z (H':=[]) Z ?_
 refine jM false e [4] [] Z
 rintro aC j
 try dsimp only at j ⊢
 have e:=hLj_1
 try rw [j] at e
 refine Qm ?_
 obtain rfl:=Zi e
 refine re1 [] [] results3 Z ⟨Z,Z,Z⟩ Z
end Go.Proofs.YtbgodclhmgmcgaaGreatDoor
