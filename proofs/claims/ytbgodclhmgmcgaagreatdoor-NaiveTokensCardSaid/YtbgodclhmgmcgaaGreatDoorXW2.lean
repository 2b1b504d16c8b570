import Derived.Test.YtbgodclhmgmcgaaGreatDoorXW1
namespace Go.Proofs.YtbgodclhmgmcgaaGreatDoor
open Tryz
open Go.RowKit
set_option maxRecDepth 100000
set_option maxHeartbeats 4000000
theorem QeB {N aD qc2 qc4:Nat} {qp1 qp3:OA} {l0:List Q8} {l1:List Qf} {a2 a3 a4 a5 a6 a7 o1:Int} {a8:ByteArray} {a9 o0:Bool} (e:Q7S N l0 l1 a2 a3 a4 a5 a6 a7 a8 a9=some (o0,o1)):QY prog 137 [.pointer (some ⟨aD,0,none⟩),.agg #[.int .u8 a4,.int .i64 a5,.int .u8 a6,.int .i64 a7,.string a8],.bool a9] [.sli 2 Qd qp1 qc2 l0,.sli 5 Qh qp3 qc4 l1] [.blk aD [.slice qp1 l0.length qc2,.slice qp3 l1.length qc4,.int .i64 a2,.int .i64 a3] 124] (R0 (.bool o0) [.sli 2 Qd qp1 qc2 l0,.sli 5 Qh qp3 qc4 l1] [.blk aD [.slice qp1 l0.length qc2,.slice qp3 l1.length qc4,.int .i64 o1,.int .i64 a3] 124]):=by
 unfold Q7S at e
 refine Qt func137 Z ntmps137 Z (S:=V3 ..) Z fun C=>sq<|wB Z fun g4=>wP Z<|nk3 4 0 2 Z<|sq<|wF Z Qcy<|wM 0 2 (V3 ..) Z Qz Q17 Z<|Q1v Z Z Z Zq Z Q1X Q8t Z (out:=V3 ..) Z<|Q9g Z Z Z Zq Z Z Z (eqlV _ _ (⟨a6,a7,a8⟩ : V) (⟨0,0,EB⟩ : V))<|wP Z<|nk4 7 4 0 2 Z<|Q5<|sq<|wF Z tF_59_0<|wD 0 0 Z tS_54 tA_54 Z<|nk5 13 7 4 0 2 Z<|Qk<|sq<|wP2 Z<|nk6 14 13 7 4 0 2 Z ?_
 refine Qs e Z (fun e=>?_) fun e=>?_
 refine k2 7 4 Z<|sq<|wF Z Q3G<|wD 0 1 Z QV Q13 Z<|wP2 Z ?_
 refine QE e (fun e=>?_) fun e=>?_
 refine wP2 Z<|wP Z<|nk1 6 Z<|Qm<|Qg<|Q3 ?_
 have j:=(Zi e).symm
 obtain ⟨rfl,rfl⟩:=Pj j.symm
 refine re1 [1] [0,1] results137 Z ⟨Z,Z,Z⟩ Z
 refine wO Z<|wP2 Z<|nk1 6 Z<|Qm<|Qg<|Q3 ?_
 have j:=(Zi e).symm
 obtain ⟨rfl,rfl⟩:=Pj j.symm
 refine re1 [1] [0,1] results137 Z ⟨Z,Z,Z⟩ Z
 refine k5 13 7 4 0 2 Z<|sq<|wP2 Z<|nk6 22 13 7 4 0 2 Z ?_
 refine Qs e Z (fun e=>?_) fun e=>?_
 refine k4 7 4 0 2 Z<|sq<|wP2 Z<|wF Z Q82<|wD 1 2 Z QV Q13 Z<|wP Z<|kg e fun aE e=>Qi (i64_in aE)<|wP Z<|wF Z Q82<|wS 1 2 Z QV (all':=V4 ..) Z (H':=[_,_]) Z<|nk4 7 4 0 2 Z<|Q5 ?_
 rcases Q19 e with ⟨a0,e⟩ | ⟨a0,e⟩
 refine kg e fun aC e=>?_
 rcases Q19 e with ⟨aA,e⟩ | ⟨aA,e⟩
 refine QG [0,1,2,3,4,5,6,7,8,9,10,11,12,13] Z Z fun z=>xP2 z 0 Z<|QA (QL a0)<|xF z 2 Z Q3G<|xD z 3 0 1 Z QV Q13 Z<|xP2 z 4 Z<|xF z 6 Z Q82<|xD z 7 1 2 Z QV Q13 Z<|xP z 8 Z<|QA (i64_in aC)<|xP2 z 9 Z<|xP z 11 Z<|QA (QL aA)<|xP2 z 12 Z<|xS z 14 Z<|wP Z<|Q2<|wxx 0 [] Z<|Qu z Z<|Qv<|k1 6 Z<|Qm<|Qg<|Q3 ?_
 have j:=(Zi e).symm
 obtain ⟨rfl,rfl⟩:=Pj j.symm
 refine re1 [1] [0,1] results137 Z ⟨Z,Z,Z⟩ Z
 refine QG [0,1,2,3,4,5,6,7,8,9,10,11,12,13] Z Z fun z=>xP2 z 0 Z<|QA (QL a0)<|xF z 2 Z Q3G<|xD z 3 0 1 Z QV Q13 Z<|xP2 z 4 Z<|xF z 6 Z Q82<|xD z 7 1 2 Z QV Q13 Z<|xP z 8 Z<|QA (i64_in aC)<|xP2 z 9 Z<|xP z 11 Z<|QA (QL aA)<|xO z 12 Z<|xP z 13 Z<|xS z 14 Z<|wP Z<|Q2<|wxx 0 [] Z<|Qu z Z<|Qv<|k1 6 Z<|Qm<|Qg ?_
 refine Q3 ?_
 have j:=(Zi e).symm
 obtain ⟨rfl,rfl⟩:=Pj j.symm
 refine re1 [1] [0,1] results137 Z ⟨Z,Z,Z⟩ Z
 refine QG [0,1,2,3,4,5,6,7,8,9,10,11,12,13] Z Z fun z=>xP2 z 0 Z<|QA (QL a0)<|xO2 z 2 Z<|xO2 z 4 Z<|xO2 z 6 Z<|xO2 z 8 Z<|xP2 z 10 Z<|xO z 12 Z<|xP z 13 Z<|xS z 14 Z<|wP Z<|Q2<|wxx 0 [] Z<|Qu z Z<|Qv<|k1 6 Z<|Qm<|Qg<|Q3 ?_
 have j:=(Zi e).symm
 obtain ⟨rfl,rfl⟩:=Pj j.symm
 refine re1 [1] [0,1] results137 Z ⟨Z,Z,Z⟩ Z
 refine k4 13 7 4 0 Z<|sq<|wP2 Z<|nk4 45 7 4 0 Z ?_
 refine Qs e Z (fun e=>?_) fun e=>?_
 refine k3 7 4 0 Z<|Q5 ?_
 rcases Q19 e with ⟨a1,e⟩ | ⟨a1,e⟩
 rcases Q19 e with ⟨aB,e⟩ | ⟨aB,e⟩
 refine QG [0,1,2,3,4,5,6,7,8,9,10,11,12,13,14] Z Z fun z=>xF z 0 Z Q3G<|xD z 1 0 1 Z QV Q13 Z<|xP2 z 2 Z<|QA (QL a1)<|xF z 4 Z Q3G<|xD z 5 0 1 Z QV Q13 Z<|xP2 z 6 Z<|xF z 8 Z Q82<|xD z 9 1 2 Z QV Q13 Z<|xP2 z 10 Z<|xP z 12 Z<|QA (QL aB)<|xP2 z 13 Z<|xS z 15 Z<|wP Z<|Q2<|wxx 0 [] Z<|Qu z Z<|Qv<|k1 6 Z<|Qm<|Qg<|Q3 ?_
 have j:=(Zi e).symm
 obtain ⟨rfl,rfl⟩:=Pj j.symm
 refine re1 [1] [0,1] results137 Z ⟨Z,Z,Z⟩ Z
 refine QG [0,1,2,3,4,5,6,7,8,9,10,11,12,13,14] Z Z fun z=>xF z 0 Z Q3G<|xD z 1 0 1 Z QV Q13 Z<|xP2 z 2 Z<|QA (QL a1)<|xF z 4 Z Q3G<|xD z 5 0 1 Z QV Q13 Z<|xP2 z 6 Z<|xF z 8 Z Q82<|xD z 9 1 2 Z QV Q13 Z<|xP2 z 10 Z<|xP z 12 Z<|QA (QL aB)<|xO z 13 Z<|xP z 14 Z<|xS z 15 Z<|wP Z<|Q2<|wxx 0 [] Z<|Qu z Z<|Qv<|k1 6 Z<|Qm<|Qg ?_
 refine Q3 ?_
 have j:=(Zi e).symm
 obtain ⟨rfl,rfl⟩:=Pj j.symm
 refine re1 [1] [0,1] results137 Z ⟨Z,Z,Z⟩ Z
 refine QG [0,1,2,3,4,5,6,7,8,9,10,11,12,13,14] Z Z fun z=>xF z 0 Z Q3G<|xD z 1 0 1 Z QV Q13 Z<|xP2 z 2 Z<|QA (QL a1)<|xO2 z 4 Z<|xO2 z 6 Z<|xO2 z 8 Z<|xO z 10 Z<|xP2 z 11 Z<|xO z 13 Z<|xP z 14 Z<|xS z 15 Z<|wP Z<|Q2<|wxx 0 [] Z<|Qu z Z<|Qv<|k1 6 Z<|Qm<|Qg<|Q3 ?_
 have j:=(Zi e).symm
 obtain ⟨rfl,rfl⟩:=Pj j.symm
 refine re1 [1] [0,1] results137 Z ⟨Z,Z,Z⟩ Z
 refine k1 4 Z<|QT<|Q6<|Qv<|sq<|wF Z tF_59_0<|wD 0 0 Z tS_54 tA_54 Z<|wP2 Z ?_
 refine QE e (fun e=>?_) fun e=>?_
 refine wF Z Q3G<|wD 0 1 Z QV Q13 Z<|wP2 Z<|wP Z ?_
 refine QE e (fun e=>?_) fun e=>?_
 refine wF Z Qcy<|wM 0 2 (V3 ..) Z Qz Q17 Z<|kn e fun aJ aF e=>c0 [] [0,1] Z fn_64 aF Q7m [] [_,_] Z<|wP2 Z<|nk1 6 Z<|Qm ?_
 have j:=(Zi e).symm
 obtain ⟨rfl,rfl⟩:=Pj j.symm
 refine re1 [1] [0,1] results137 Z ⟨Z,Z,Z⟩ Z
 refine wO2 Z<|wO Z<|wP2 Z<|nk1 6 Z<|Qm ?_
 have j:=(Zi e).symm
 obtain ⟨rfl,rfl⟩:=Pj j.symm
 refine re1 [1] [0,1] results137 Z ⟨Z,Z,Z⟩ Z
 refine wO2 Z<|wO Z<|wP2 Z<|wO2 Z<|wO Z<|wP2 Z<|nk1 6 Z<|Qm ?_
 have j:=(Zi e).symm
 obtain ⟨rfl,rfl⟩:=Pj j.symm
 refine re1 [1] [0,1] results137 Z ⟨Z,Z,Z⟩ Z
def Q4Q (rc:(List Q8)→(List Qf)→Int→Int→Int→Int→Int→ByteArray→Int→Int→(List Q4)→Option (Bool)):Prop:=∀ (qg0:Nat)(qp1:OA)(qc2:Nat)(l0:List Q8)(qp3:OA)(qc4:Nat)(l1:List Qf)(a2:Int)(a3:Int)(a4:Int)(a5:Int)(a6:Int)(a7:ByteArray)(a8:Int)(a9:Int)(qp5:OA)(qc6:Nat)(l10:List Q4)(o0:Bool),rc l0 l1 a2 a3 a4 a5 a6 a7 a8 a9 l10=some o0→QY prog 138 [.pointer (some ⟨qg0,0,none⟩),.agg #[.int .u8 a4,.int .u8 a5,.int .i64 a6,.string a7,.int .i64 a8,.int .u8 a9,.slice qp5 l10.length qc6]] [.sli 2 Qd qp1 qc2 l0,.sli 5 Qh qp3 qc4 l1,.sli 7 Qj qp5 qc6 l10] [.blk qg0 [.slice qp1 l0.length qc2,.slice qp3 l1.length qc4,.int .i64 a2,.int .i64 a3] 124] (R0 (.bool o0) [.sli 2 Qd qp1 qc2 l0,.sli 5 Qh qp3 qc4 l1] [.blk qg0 [.slice qp1 l0.length qc2,.slice qp3 l1.length qc4,.int .i64 a2,.int .i64 a3] 124])
theorem Qc7 (N:Nat)(rc:(List Q8)→(List Qf)→Int→Int→Int→Int→Int→ByteArray→Int→Int→(List Q4)→Option (Bool))(ih:Q4Q rc)(a0:Int)(a1:Int)(a2:Int)(a3:ByteArray)(a4:Int)(a5:Int)(qp0:OA)(qc1:Nat)(l6:List Q4)(qg2:Nat)(qg3:Nat)(qp4:OA)(qc5:Nat)(l7:List Q8)(qp6:OA)(qc7:Nat)(l8:List Qf)(a9:Int)(a10:Int)(o0:Bool)(e:Q6b N rc a0 a1 a2 a3 a4 a5 l6 l7 l8 a9 a10=some o0):QY prog 180 [.agg #[.int .u8 a0,.int .u8 a1,.int .i64 a2,.string a3,.int .i64 a4,.int .u8 a5,.slice qp0 l6.length qc1],.pointer (some ⟨qg2,0,none⟩)] [.sli 7 Qj qp0 qc1 l6,.sli 2 Qd qp4 qc5 l7,.sli 5 Qh qp6 qc7 l8] [.blk qg2 [.pointer (some ⟨qg3,0,none⟩)] 120,.blk qg3 [.slice qp4 l7.length qc5,.slice qp6 l8.length qc7,.int .i64 a9,.int .i64 a10] 124] (R0 (.bool o0) [.sli 2 Qd qp4 qc5 l7,.sli 5 Qh qp6 qc7 l8] [.blk qg2 [.pointer (some ⟨qg3,0,none⟩)] 120,.blk qg3 [.slice qp4 l7.length qc5,.slice qp6 l8.length qc7,.int .i64 a9,.int .i64 a10] 124]):=by
 unfold Q6b at e
 refine Qt func180 Z ntmps180 Z (S:=[_,_]) Z fun C=>sq<|wB Z fun g2=>wP Z<|nk2 2 1 Z<|sq<|wD 1 0 Z QbP QbL Z<|wM 0 0 (V7 ..) Z Q1t Q3z Z<|kn e fun v6 hc6 e=>wC [2] [0,1] Z fn_138 Z (ih qg3 qp4 qc5 l7 qp6 qc7 l8 a9 a10 a0 a1 a2 a3 a4 a5 qp0 qc1 l6 _ hc6) (asK [1,2,0] Z) Z (H':=[_,_]) Z ?_
 rintro _ _ _ ⟨rfl,rfl,rfl⟩
 refine wP2 Z<|nk1 3 Z<|Qm ?_
 obtain rfl:=Zi e
 refine re1 [2,0] [0,1] results180 Z ⟨Z,Z,Z⟩ Z
theorem QaY (N:Nat)(rc:(List Q8)→(List Qf)→Int→Int→Int→Int→Int→ByteArray→Int→Int→(List Q4)→Option (Bool))(ih:Q4Q rc)(aC:OA)(aD:Nat)(l0:List Q4)(a8:Nat)(a0:Nat)(a1:OA)(a5:Nat)(l1:List Q8)(a6:OA)(a7:Nat)(l2:List Qf)(a3:Int)(a4:Int)(o0:Int)(e:Q54 N rc l0 l1 l2 a3 a4=some o0):QY prog 214 [.slice aC l0.length aD,.func (.func 180) #[] #[.pointer (some ⟨a8,0,none⟩)]] [.sli 7 Qj aC aD l0,.sli 2 Qd a1 a5 l1,.sli 5 Qh a6 a7 l2] [.blk a8 [.pointer (some ⟨a0,0,none⟩)] 120,.blk a0 [.slice a1 l1.length a5,.slice a6 l2.length a7,.int .i64 a3,.int .i64 a4] 124] (R0 (.int .i64 o0) [.sli 2 Qd a1 a5 l1,.sli 5 Qh a6 a7 l2] [.blk a8 [.pointer (some ⟨a0,0,none⟩)] 120,.blk a0 [.slice a1 l1.length a5,.slice a6 l2.length a7,.int .i64 a3,.int .i64 a4] 124]):=by
 unfold Q54 at e
 refine Qt func214 Z ntmps214 Z (S:=[_,_]) Z fun C=>sq<|wP Z<|nk2 0 1 Z<|Q5<|ks e fun aF e hLj_1=>?_
 refine cut (σ:=Unit) aF (fun _=>(.inl (),[],[.sli 2 Qd a1 a5 l1,.sli 5 Qh a6 a7 l2],[.blk a8 [.pointer (some ⟨a0,0,none⟩)] 120,.blk a0 [.slice a1 l1.length a5,.slice a6 l2.length a7,.int .i64 a3,.int .i64 a4] 124])) ?_ ?_
 refine sq<|wP Z<|wN Z Q1g<|wP Z<|nk4 8 7 0 1 Z<|Qk<|lop (σ:=Nat) (Q2y N l0 rc l1 l2 a3 a4) (fun z=>(z,[(8,.int .i64 (z:Int)),(7,.int .i64 (l0.length:Int)),(0,.slice aC l0.length aD),(1,.func (.func 180) #[] #[.pointer (some ⟨a8,0,none⟩)])],[.sli 7 Qj aC aD l0,.sli 2 Qd a1 a5 l1,.sli 5 Qh a6 a7 l2],[.blk a8 [.pointer (some ⟨a0,0,none⟩)] 120,.blk a0 [.slice a1 l1.length a5,.slice a6 l2.length a7,.int .i64 a3,.int .i64 a4] 124])) 0 e [8,7,0,1] [0,1,2] Z fun z aO aP e hLu1=>?_
 unfold Q2y at e
 try dsimp only at e ⊢
 refine sq<|wP Z<|Qi (Nlt z l0.length)<|nt<|Q5 ?_
 refine Qs e Z (fun e=>?_) fun e=>?_
 refine k4 8 7 0 1 Z<|kt<|Q5<|Qk<|sq<|wP2 Z<|nk5 5 8 7 0 1 Z<|sq<|wP2 Z<|wP Z<|kn e fun a9 aG e=>wI 0 z Z aG Q1g Q1t fun aQ aR aN aL=>Q1i Q1G 1 Z fun aH aI _=>?_
 subst aI
 refine wLd 1 0 (V7 ..) Z Q1t Q3z Z ?_
 obtain ⟨aS,aJ,e⟩:=Qy e
 refine Q1B [0,1] [] Z Z Z Zq Z Z Z fn_180 Z Z (Qc7 N rc ih a9.kind a9.value.k a9.value.n a9.value.s a9.var a9.op aH.1 aH.2 a9.kids a8 a0 a1 a5 l1 a6 a7 l2 a3 a4 _ aJ) (asK [0,4,5] Z) Z (H':=[]) Z ?_
 rintro _ _ _ ⟨rfl,rfl,rfl⟩
 refine nk6 16 5 8 7 0 1 Z ?_
 refine Qs e Z (fun e=>?_) fun e=>?_
 refine k1 5 Z<|sq<|wP2 Z<|nk1 4 Z<|Qm<|Qg<|Q3<|rb<|Q3 ?_
 obtain rfl:=(Qb hLj_1 (Qb hLu1 (zs e))).symm
 refine re1 [0,1] [0,1] results214 Z ⟨Z,Z,Z⟩ Z
 refine k4 8 7 0 1 Z<|QT<|Q6<|Qv<|Qe<|wP Z<|kg e fun aK e=>Qi (QD (a:=z) (b:=1) aK)<|Qx (S':=V4 ..) Z Z Z Z Z<|Q2 ?_
 refine rnd (z+1) (Qp hLu1 (zs e)) [8,7,0,1] [5,0,1] Z
 refine k0 Z<|QQ<|Q7<|Q7<|Qq ?_
 refine jn () (Qb hLu1 (zs e)) [] [1,2] Z
 rintro _ j
 try dsimp only at j ⊢
 have e:=Qp hLj_1 j
 try dsimp only at e
 refine sq<|wP Z<|nr ?_
 obtain rfl:=Zi e
 refine re1 [0,1] [0,1] results214 Z ⟨Z,Z,Z⟩ Z
theorem Qa7 (N:Nat)(rc:(List Q8)→(List Qf)→Int→Int→Int→Int→Int→ByteArray→Int→Int→(List Q4)→Option (Bool))(ih:Q4Q rc)(qp0:OA)(qc1:Nat)(l0:List Q4)(qg2:Nat)(qg3:Nat)(qp4:OA)(qc5:Nat)(l1:List Q8)(qp6:OA)(qc7:Nat)(l2:List Qf)(a3:Int)(a4:Int)(o0:Bool)(e:Q3W N rc l0 l1 l2 a3 a4=some o0):QY prog 179 [.slice qp0 l0.length qc1,.func (.func 180) #[] #[.pointer (some ⟨qg2,0,none⟩)]] [.sli 7 Qj qp0 qc1 l0,.sli 2 Qd qp4 qc5 l1,.sli 5 Qh qp6 qc7 l2] [.blk qg2 [.pointer (some ⟨qg3,0,none⟩)] 120,.blk qg3 [.slice qp4 l1.length qc5,.slice qp6 l2.length qc7,.int .i64 a3,.int .i64 a4] 124] (R0 (.bool o0) [.sli 2 Qd qp4 qc5 l1,.sli 5 Qh qp6 qc7 l2] [.blk qg2 [.pointer (some ⟨qg3,0,none⟩)] 120,.blk qg3 [.slice qp4 l1.length qc5,.slice qp6 l2.length qc7,.int .i64 a3,.int .i64 a4] 124]):=by
 unfold Q3W at e
 refine Qt func179 Z ntmps179 Z (S:=[_,_]) Z fun C=>sq<|wP Z<|nk2 0 1 Z<|sq<|wP2 Z<|kn e fun v7 hc7 e=>wC [0,1] [] Z fn_214 Z (QaY N rc ih qp0 qc1 l0 qg2 qg3 qp4 qc5 l1 qp6 qc7 l2 a3 a4 _ hc7) (asK [0,1,2] Z) Z (H':=[]) Z ?_
 rintro _ _ _ ⟨rfl,rfl,rfl⟩
 refine wP2 Z<|nk1 4 Z<|Qm ?_
 obtain rfl:=Zi e
 refine re1 [0,1] [0,1] results179 Z ⟨Z,Z,Z⟩ Z
theorem Qd7 (N:Nat)(rc:(List Q8)→(List Qf)→Int→Int→Int→Int→Int→ByteArray→Int→Int→(List Q4)→Option (Bool))(ih:Q4Q rc)(qg0:Nat)(qp1:OA)(qc2:Nat)(l0:List Q8)(qp3:OA)(qc4:Nat)(l1:List Qf)(a2:Int)(a3:Int)(qp5:OA)(qc6:Nat)(l4:List Q4)(o0:Bool)(e:Q5s N rc l0 l1 a2 a3 l4=some o0):QY prog 140 [.pointer (some ⟨qg0,0,none⟩),.slice qp5 l4.length qc6] [.sli 2 Qd qp1 qc2 l0,.sli 5 Qh qp3 qc4 l1,.sli 7 Qj qp5 qc6 l4] [.blk qg0 [.slice qp1 l0.length qc2,.slice qp3 l1.length qc4,.int .i64 a2,.int .i64 a3] 124] (R0 (.bool o0) [.sli 2 Qd qp1 qc2 l0,.sli 5 Qh qp3 qc4 l1] [.blk qg0 [.slice qp1 l0.length qc2,.slice qp3 l1.length qc4,.int .i64 a2,.int .i64 a3] 124]):=by
 unfold Q5s at e
 refine Qt func140 Z ntmps140 Z (S:=[_,_]) Z fun C=>sq<|wB Z fun g2=>wP Z<|nk2 2 1 Z<|sq<|wP Z<|Q26 Z Z Z Zq Z Z<|kn e fun v7 hc7 e=>wC [0,1] [] Z fn_179 Z (Qa7 N rc ih qp5 qc6 l4 g2 qg0 qp1 qc2 l0 qp3 qc4 l1 a2 a3 _ hc7) (asK [2,0,1] Z) Z (H':=[]) Z ?_
 rintro _ _ _ ⟨rfl,rfl,rfl⟩
 refine wP2 Z<|nk1 4 Z<|Qm ?_
 obtain rfl:=Zi e
 refine re1 [1] [0,1] results140 Z ⟨Z,Z,Z⟩ Z
theorem QdL (N:Nat)(rc:(List Q8)→(List Qf)→Int→Int→Int→Int→Int→ByteArray→Int→Int→(List Q4)→Option (Bool))(ih:Q4Q rc):Q4Q (Q6B N rc):=by
 intro aC qp1 qc2 l0 qp3 qc4 l1 a2 a3 a4 a5 a6 a7 a8 a9 qp5 qc6 l10 o0 e
 unfold Q6B at e
 refine Qt func138 Z ntmps138 Z (S:=[_,_]) Z fun C=>sq<|wB Z fun g3=>wP Z<|nk2 3 0 Z<|Q5<|sq<|wF Z Qcz<|wD 0 0 Z tS_61 tA_61 Z<|nk3 7 3 0 Z<|Qk<|sq<|wP2 Z<|nk4 8 7 3 0 Z ?_
 refine Qs e Z (fun e=>?_) fun e=>?_
 refine k1 3 Z<|sq<|wM 0 0 (V7 ..) Z Q1t Q3z Z<|kn e fun aO aF e=>c0 [] [0,1] Z fn_136 aF Q7l [2] [_,_] Z<|wP Z ?_
 refine QE e (fun e=>?_) fun e=>?_
 refine wF Z Qaw<|wM 0 1 (V3 ..) Z Qz Q17 Z<|kn e fun aP aG e=>c0 [] [0,1] Z fn_64 aG Q7m [] [_,_] Z<|wP2 Z<|nk1 4 Z<|Qm<|Qg<|Q3 ?_
 obtain rfl:=Zi e
 refine re1 [1] [0,1] results138 Z ⟨Z,Z,Z⟩ Z
 refine wO2 Z<|wO Z<|wP2 Z<|nk1 4 Z<|Qm<|Qg<|Q3 ?_
 obtain rfl:=Zi e
 refine re1 [1] [0,1] results138 Z ⟨Z,Z,Z⟩ Z
 refine k3 7 3 0 Z<|sq<|wP2 Z<|nk4 17 7 3 0 Z ?_
 refine Qs e Z (fun e=>?_) fun e=>?_
 refine k2 3 0 Z<|Q5<|kn e fun aQ aD e=>?_
 rcases Q19 e with ⟨aB,e⟩ | ⟨aB,e⟩
 rcases Q19 e with ⟨aE,e⟩ | ⟨aE,e⟩
 refine QG [0,2,3,4,5,6,7,8,9,10,11,12,13,14,15] Z Z fun z=>xM z 0 0 0 (V7 ..) Z Q1t Q3z Z<|xS z 1 Z<|c0 [] [0,1] Z fn_136 aD Q7l [2] [_,_] Z<|Q2<|wxx 0 [] Z<|xP z 2 Z<|QA (QL aB)<|xF z 3 Z Q7g<|xD z 4 0 4 Z QV Q13 Z<|xP2 z 5 Z<|xP z 7 Z<|QA (QL aE)<|xF z 8 Z Q7g<|xD z 9 0 4 Z QV Q13 Z<|xP2 z 10 Z<|xF z 12 Z Q82<|xD z 13 1 2 Z QV Q13 Z<|xP2 z 14 Z<|xS z 16 Z<|wP Z<|Q2<|wxx 0 [] Z<|Qu z Z ?_
 refine Qv<|k1 4 Z<|Qm<|Qg<|Q3 ?_
 obtain rfl:=Zi e
 refine re1 [1] [0,1] results138 Z ⟨Z,Z,Z⟩ Z
 refine QG [0,2,3,4,5,6,7,8,9,10,11,12,13,14,15] Z Z fun z=>xM z 0 0 0 (V7 ..) Z Q1t Q3z Z<|xS z 1 Z<|c0 [] [0,1] Z fn_136 aD Q7l [2] [_,_] Z<|Q2<|wxx 0 [] Z<|xP z 2 Z<|QA (QL aB)<|xF z 3 Z Q7g<|xD z 4 0 4 Z QV Q13 Z<|xP2 z 5 Z<|xP z 7 Z<|QA (QL aE)<|xO2 z 8 Z<|xO2 z 10 Z<|xO2 z 12 Z<|xO z 14 Z<|xP z 15 Z<|xS z 16 Z<|wP Z<|Q2<|wxx 0 [] Z<|Qu z Z<|Qv ?_
 refine k1 4 Z<|Qm<|Qg<|Q3 ?_
 obtain rfl:=Zi e
 refine re1 [1] [0,1] results138 Z ⟨Z,Z,Z⟩ Z
 refine QG [0,2,3,4,5,6,7,8,9,10,11,12,13,14,15] Z Z fun z=>xM z 0 0 0 (V7 ..) Z Q1t Q3z Z<|xS z 1 Z<|c0 [] [0,1] Z fn_136 aD Q7l [2] [_,_] Z<|Q2<|wxx 0 [] Z<|xP z 2 Z<|QA (QL aB)<|xO2 z 3 Z<|xO z 5 Z<|xP2 z 6 Z<|xO2 z 8 Z<|xO2 z 10 Z<|xO2 z 12 Z<|xO z 14 Z<|xP z 15 Z<|xS z 16 Z<|wP Z<|Q2<|wxx 0 [] Z<|Qu z Z<|Qv<|k1 4 Z<|Qm ?_
 refine Qg<|Q3 ?_
 obtain rfl:=Zi e
 refine re1 [1] [0,1] results138 Z ⟨Z,Z,Z⟩ Z
 refine k3 7 3 0 Z<|sq<|wP2 Z<|nk3 35 3 0 Z ?_
 refine Qs e Z (fun e=>?_) fun e=>?_
 refine k2 3 0 Z<|sq<|wP Z<|nt<|Q5<|kn e fun aH e hLj_1=>?_
 unfold Q7v at e
 refine cut (σ:=Nat) aH (fun a0=>(a0,[(3,.pointer (some ⟨g3,0,none⟩)),(0,.pointer (some ⟨aC,0,none⟩)),(5,.int .i64 (a0:Int))],[.sli 7 Qj qp5 qc6 l10,.sli 2 Qd qp1 qc2 l0,.sli 5 Qh qp3 qc4 l1],[.blk g3 [.int .u8 a4,.int .u8 a5,.int .i64 a6,.string a7,.int .i64 a8,.int .u8 a9,.slice qp5 l10.length qc6] 65,.blk aC [.slice qp1 l0.length qc2,.slice qp3 l1.length qc4,.int .i64 a2,.int .i64 a3] 124])) ?_ ?_
 refine Q5<|kn e fun aI e hLj_2=>?_
 refine cut (σ:=Bool) aI (fun a1=>(a1,[(3,.pointer (some ⟨g3,0,none⟩)),(0,.pointer (some ⟨aC,0,none⟩)),(5,.int .i64 2),(44,.bool a1)],[.sli 7 Qj qp5 qc6 l10,.sli 2 Qd qp1 qc2 l0,.sli 5 Qh qp3 qc4 l1],[.blk g3 [.int .u8 a4,.int .u8 a5,.int .i64 a6,.string a7,.int .i64 a8,.int .u8 a9,.slice qp5 l10.length qc6] 65,.blk aC [.slice qp1 l0.length qc2,.slice qp3 l1.length qc4,.int .i64 a2,.int .i64 a3] 124])) ?_ ?_
 refine Qe<|wF Z Q6S<|wD 0 5 Z Qa2 Qa0 Z<|wP2 Z ?_
 refine QE e (fun e=>?_) fun e=>?_
 refine wO2 Z<|wO Z<|wP Z<|Q2 ?_
 refine jM true e [3,0,5,44] [2,0,1] Z
 refine wF Z Q6S<|wD 0 5 Z Qa2 Qa0 Z<|wP2 Z<|Q2 ?_
 refine jM (a9==11) e [3,0,5,44] [2,0,1] Z
 rintro a1 j
 try dsimp only at j ⊢
 have e:=hLj_2
 try rw [j] at e
 refine Qs e Z (fun e=>?_) fun e=>?_
 refine k2 3 0 Z<|Qe<|wP Z<|Q2 ?_
 refine jM 1 e [3,0,5] [0,1,2] Z
 refine k3 3 0 5 Z<|QT ?_
 refine jM 2 e [3,0,5] [0,1,2] Z
 rintro a0 j
 try dsimp only at j ⊢
 have e:=hLj_1
 try rw [j] at e
 refine Q5<|kn e fun aJ e hLj_3=>?_
 unfold Q8O at e
 refine cut (σ:=Bool) aJ (fun aA=>(aA,[(4,.bool aA)],[.sli 2 Qd qp1 qc2 l0,.sli 5 Qh qp3 qc4 l1],[.blk aC [.slice qp1 l0.length qc2,.slice qp3 l1.length qc4,.int .i64 a2,.int .i64 a3] 124])) ?_ ?_
 refine Qe<|wM 0 0 (V7 ..) Z Q1t Q3z Z<|kn e fun aR aK e=>c0 [] [0,1] Z fn_136 aK Q7l [0] [_,_] Z<|wP Z ?_
 refine QE e (fun e=>?_) fun e=>?_
 refine wF Z Q6S<|wD 0 5 Z Qa2 Qa0 Z<|wP2 Z<|wP Z ?_
 refine QE e (fun e=>?_) fun e=>?_
 refine wF Z Q6S<|wD 0 5 Z Qa2 Qa0 Z<|wP2 Z<|wP Z ?_
 refine QE e (fun e=>?_) fun e=>?_
 refine wF Z Q60<|wD 0 6 Z Q4k Q4M Z<|wN Z Q1g<|wP2 Z<|Qi (Neq l10.length a0)<|wP2 Z ?_
 refine QE e (fun e=>?_) fun e=>?_
 refine wP Z<|wF Z Q60<|wD 0 6 Z Q4k Q4M Z<|kn e fun aN aL e=>wC [1] [0] Z fn_140 Z (Qd7 N rc ih aC qp1 qc2 l0 qp3 qc4 l1 a2 a3 qp5 qc6 l10 _ aL) (asK [1,2,0] Z) Z (H':=[_]) Z ?_
 rintro _ _ _ ⟨rfl,rfl,rfl⟩
 refine wP2 Z<|Q2<|Qo [0] Z (H':=[_]) Z ?_
 refine jM aN e [4] [0,1] Z
 refine wO4 Z<|wP2 Z<|Q2<|Qo [1] Z (H':=[_]) Z ?_
 refine jM false e [4] [1,2] Z
 refine wO4 Z<|wO Z<|wP2 Z<|wO4 Z<|wP2 Z<|Q2<|Qo [1] Z (H':=[_]) Z ?_
 refine jM false e [4] [1,2] Z
 refine wO2 Z<|wO Z<|wP2 Z<|wO4 Z<|wO Z<|wP2 Z<|wO4 Z<|wP2 Z<|Q2<|Qo [1] Z (H':=[_]) Z ?_
 refine jM false e [4] [1,2] Z
 refine wO2 Z<|wO Z<|wP2 Z<|wO2 Z<|wO Z<|wP2 Z<|wO4 Z<|wO Z<|wP2 Z<|wO4 Z<|wP2 Z<|Q2<|Qo [1] Z (H':=[_]) Z ?_
 refine jM false e [4] [1,2] Z
 rintro aA j
 try dsimp only at j ⊢
 have e:=hLj_3
 try rw [j] at e
 refine Qm<|Qg<|Q3 ?_
 obtain rfl:=Zi e
 refine re1 [0] [0,1] results138 Z ⟨Z,Z,Z⟩ Z
 refine k0 Z<|QT<|Q6<|Qv<|sq<|wP Z<|nr ?_
 obtain rfl:=Zi e
 refine re1 [1] [0,1] results138 Z ⟨Z,Z,Z⟩ Z
theorem Qb2 : ∀ (N:Nat),Q4Q (Q3V N):=by
 intro N
 induction N with
 | zero=>intro qg0 qp1 qc2 l0 qp3 qc4 l1 a2 a3 a4 a5 a6 a7 a8 a9 qp5 qc6 l10 o0 e;cases e
 | succ N ih=>exact QdL N (Q3V N) ih
theorem Qer {N aA qc2 qc4 qc6 qc8:Nat} {qp1 qp3 qp5 qp7:OA} {l0:List Q8} {l1:List Qf} {a2 a3 a4 a5 a7 a8 a9 a11 a12 o1 o2:Int} {l6:List Q1n} {a10:ByteArray} {l13:List Q4} {o0:Bool} (e:Q7t N l0 l1 a2 a3 a4 a5 l6 a7 a8 a9 a10 a11 a12 l13=some (o0,o1,o2)):QY prog 102 [.pointer (some ⟨aA,0,none⟩),.agg #[.int .u8 a4,.int .i64 a5,.slice qp5 l6.length qc6,.int .u8 a7,.int .u8 a8,.int .i64 a9,.string a10,.int .i64 a11,.int .u8 a12,.slice qp7 l13.length qc8]] [.sli 2 Qd qp1 qc2 l0,.sli 5 Qh qp3 qc4 l1,.sli 5 Q1p qp5 qc6 l6,.sli 7 Qj qp7 qc8 l13] [.blk aA [.slice qp1 l0.length qc2,.slice qp3 l1.length qc4,.int .i64 a2,.int .i64 a3] 124] (R0 (.bool o0) [.sli 2 Qd qp1 qc2 l0,.sli 5 Qh qp3 qc4 l1] [.blk aA [.slice qp1 l0.length qc2,.slice qp3 l1.length qc4,.int .i64 o1,.int .i64 o2] 124]):=by
 unfold Q7t at e
 refine Qt func102 Z ntmps102 Z (S:=[_,_]) Z fun C=>sq<|wB Z fun g3=>wP Z<|nk2 3 0 Z<|Q5<|sq<|wF Z Q8H<|wD 0 0 Z QcC Qcw Z<|nk3 8 3 0 Z<|Qk<|Q5<|kn e fun aF e hLj_1=>?_
 refine cut (σ:=Bool) aF (fun aC=>(aC,[(8,.int .u8 a4),(3,.pointer (some ⟨g3,0,none⟩)),(0,.pointer (some ⟨aA,0,none⟩)),(9,.bool aC)],[.sli 5 Q1p qp5 qc6 l6,.sli 7 Qj qp7 qc8 l13,.sli 2 Qd qp1 qc2 l0,.sli 5 Qh qp3 qc4 l1],[.blk g3 [.int .u8 a4,.int .i64 a5,.slice qp5 l6.length qc6,.int .u8 a7,.int .u8 a8,.int .i64 a9,.string a10,.int .i64 a11,.int .u8 a12,.slice qp7 l13.length qc8] 67,.blk aA [.slice qp1 l0.length qc2,.slice qp3 l1.length qc4,.int .i64 a2,.int .i64 a3] 124])) ?_ ?_
 refine sq<|wP2 Z<|nk4 9 8 3 0 Z ?_
 refine Qs e Z (fun e=>?_) fun e=>?_
 refine QT ?_
 refine jM (a4==1) e [8,3,0,9] [2,3,0,1] Z
 refine k3 8 3 0 Z<|Qe<|wP2 Z<|Q2 ?_
 refine jM (a4==2) e [8,3,0,9] [2,3,0,1] Z
 rintro aC j
 try dsimp only at j ⊢
 have e:=hLj_1
 try rw [j] at e
 refine Qs e Z (fun e=>?_) fun e=>?_
 refine k2 3 0 Z<|Q5<|Q5<|kn e fun aG e hLj_2=>?_
 unfold Q7u at e
 refine cut (σ:=Bool) aG (fun aB=>(aB,[(3,.pointer (some ⟨g3,0,none⟩)),(0,.pointer (some ⟨aA,0,none⟩)),(31,.bool aB)],[.sli 5 Q1p qp5 qc6 l6,.sli 7 Qj qp7 qc8 l13,.sli 2 Qd qp1 qc2 l0,.sli 5 Qh qp3 qc4 l1],[.blk g3 [.int .u8 a4,.int .i64 a5,.slice qp5 l6.length qc6,.int .u8 a7,.int .u8 a8,.int .i64 a9,.string a10,.int .i64 a11,.int .u8 a12,.slice qp7 l13.length qc8] 67,.blk aA [.slice qp1 l0.length qc2,.slice qp3 l1.length qc4,.int .i64 a2,.int .i64 a3] 124])) ?_ ?_
 refine Qe<|wP Z<|wF Z QcA<|wD 0 1 Z QV Q13 Z<|wF Z Q7h<|wD 0 2 Z Qad QaD Z<|wN Z Q4O<|kn e fun aV aH e=>c0 [1] [0] Z fn_135 aH QaI [2,3] [_] Z<|wP2 Z ?_
 refine QE e (fun e=>?_) fun e=>?_
 refine wO4 Z<|wP2 Z<|wO4 Z<|wP Z<|Q2<|Qo [1,0] Z (H':=[_,_]) Z ?_
 refine jM true e [3,0,31] [2,3,0,1] Z
 refine wF Z Q8I<|wF Z Qcz<|wD 1 3 Z tS_61 tA_61 Z<|wP2 Z<|wP Z ?_
 refine QE e (fun e=>?_) fun e=>?_
 refine wO4 Z<|wP Z<|Q2<|Qo [1,0] Z (H':=[_,_]) Z ?_
 refine jM true e [3,0,31] [2,3,0,1] Z
 refine wF Z Q8I<|wM 1 3 (V7 ..) Z Q1t Q3z Z<|kn e fun aR aI e=>c0 [] [0,1] Z fn_136 aI Q7l [3] [_,_] Z<|wP2 Z<|Q2<|Qo [1,0] Z (H':=[_,_]) Z ?_
 refine jM (!aR) e [3,0,31] [2,3,0,1] Z
 rintro aB j
 try dsimp only at j ⊢
 have e:=hLj_2
 try rw [j] at e
 refine Qs e Z (fun e=>?_) fun e=>?_
 ·
  refine k0 Z<|sq<|wP Z<|nr<|rb<|Q3 ?_
  cases (Zi e)
  refine re1 [1] [2,3] results102 Z ⟨Z,Z,Z⟩ Z
 refine k2 3 0 Z<|kt<|Q5<|ks e fun aJ e hLj_3=>?_
 refine cut (σ:=Int) aJ (fun z=>(.inl z,[(3,.pointer (some ⟨g3,0,none⟩)),(0,.pointer (some ⟨aA,0,none⟩))],[.sli 5 Q1p qp5 qc6 l6,.sli 7 Qj qp7 qc8 l13,.sli 2 Qd qp1 qc2 l0,.sli 5 Qh qp3 qc4 l1],[.blk g3 [.int .u8 a4,.int .i64 a5,.slice qp5 l6.length qc6,.int .u8 a7,.int .u8 a8,.int .i64 a9,.string a10,.int .i64 a11,.int .u8 a12,.slice qp7 l13.length qc8] 67,.blk aA [.slice qp1 l0.length qc2,.slice qp3 l1.length qc4,.int .i64 z,.int .i64 a3] 124])) ?_ ?_
 refine sq<|wF Z Q7h<|wD 0 2 Z Qad QaD Z<|wN Z Q4O<|wP Z<|nk5 35 34 33 3 0 Z<|Qk<|lop (σ:=Nat×Int) (Q3j N l6 l0 l1 a3 a4) (fun (a0,a6)=>((a0,a6),[(35,.int .i64 (a0:Int)),(34,.int .i64 (l6.length:Int)),(33,.slice qp5 l6.length qc6),(3,.pointer (some ⟨g3,0,none⟩)),(0,.pointer (some ⟨aA,0,none⟩))],[.sli 5 Q1p qp5 qc6 l6,.sli 7 Qj qp7 qc8 l13,.sli 2 Qd qp1 qc2 l0,.sli 5 Qh qp3 qc4 l1],[.blk g3 [.int .u8 a4,.int .i64 a5,.slice qp5 l6.length qc6,.int .u8 a7,.int .u8 a8,.int .i64 a9,.string a10,.int .i64 a11,.int .u8 a12,.slice qp7 l13.length qc8] 67,.blk aA [.slice qp1 l0.length qc2,.slice qp3 l1.length qc4,.int .i64 a6,.int .i64 a3] 124])) (0,a2) e [35,34,33,3,0] [0,1,2,3] Z fun s_ aW aX e hLu1=>?_
 obtain ⟨a0,a6⟩:=s_
 unfold Q3j at e
 try dsimp only at e ⊢
 refine sq<|wP Z<|Qi (Nlt a0 l6.length)<|nt<|Q5 ?_
 refine Qs e Z (fun e=>?_) fun e=>?_
 refine k5 35 34 33 3 0 Z<|kt<|Q5<|Qk<|sq<|kn e fun aY aK e=>wI 0 a0 Z aK Q4O Q7i fun aZ b0 aU aS=>Q1i Q5P 1 Z fun b1 aL _=>?_
 subst aL
 refine wLd 0 0 (V5 ..) Z Q7i tA_59 Z<|QH Z Z Z Zq Z tZ_59 Z fun g6=>wS 0 0 Z Q7i (all':=V5 ..) Z (H':=V3 ..) Z<|nk6 6 35 34 33 3 0 Z<|sq<|wP Z<|wM 0 0 (V5 ..) Z Q7i tA_59 Z<|wF Z Q8H<|wD 1 0 Z QcC Qcw Z<|wP Z ?_
 obtain ⟨⟨aT,aE⟩,aM,e⟩:=Qy e
 try dsimp only at e
 refine c0 [2] [0,1] Z fn_137 aM QeB [4,5] [_,_] Z<|wP Z<|nk6 45 35 34 33 3 0 Z ?_
 refine Qs e Z (fun e=>?_) fun e=>?_
 ·
  refine k0 Z<|sq<|wP Z<|nr<|Qg<|Q3<|rb<|rb<|Q3 ?_
  cases (Qb hLj_3 (Qb hLu1 ((Zi e).symm))).symm
  refine re1 [0] [0,1] results102 Z ⟨Z,Z,Z⟩ Z
 refine k5 35 34 33 3 0 Z<|QT<|Q6<|Qv<|Qe<|wP Z<|kg e fun aN e=>Qi (QD (a:=a0) (b:=1) aN)<|Qx (S':=V5 ..) Z Z Z Z Z<|Q2<|Qo [2,0] Z (H':=[_,_]) Z ?_
 refine rnd (a0+1,aE) (Qp hLu1 (zs e)) [35,34,33,3,0] [4,5,0,1] Z
 refine k2 3 0 Z<|QQ<|Q7<|Q7<|Qq ?_
 refine jn a6 (Qb hLu1 (zs e)) [3,0] [0,1,2,3] Z
 rintro z j
 try dsimp only at j ⊢
 have e:=Qp hLj_3 j
 refine Q5<|kn e fun aO e hLj_4=>?_
 refine cut (σ:=Int) aO (fun a1=>(a1,[],[.sli 2 Qd qp1 qc2 l0,.sli 5 Qh qp3 qc4 l1],[.blk aA [.slice qp1 l0.length qc2,.slice qp3 l1.length qc4,.int .i64 z,.int .i64 a1] 124])) ?_ ?_
 refine sq<|wF Z Q8H<|wD 0 0 Z QcC Qcw Z<|wP Z<|nk2 49 0 Z ?_
 refine Qs e Z (fun e=>?_) fun e=>?_
 refine k1 0 Z<|Qe<|wP2 Z<|wF Z tF_124_2<|wD 1 3 Z QV Q13 Z<|wP Z<|kg e fun aP e=>Qi (i64_in aP)<|wP Z<|wF Z tF_124_2<|wS 1 3 Z QV (all':=V4 ..) Z (H':=[_,_]) Z<|Q2<|Qo [1] Z (H':=[_]) Z ?_
 refine jM (a3+1) e [] [2,3] Z
 refine k0 Z<|QT<|Qo [1] Z (H':=[_]) Z ?_
 refine jM a3 e [] [2,3] Z
 ·
  rintro a1 j
  try dsimp only at j ⊢
  have e:=hLj_4
  try rw [j] at e
  refine sq<|wP Z<|nr<|Qg<|Q3 ?_
  cases (Zi e)
  refine re1 [0] [0,1] results102 Z ⟨Z,Z,Z⟩ Z
 refine k3 8 3 0 Z<|sq<|wP2 Z<|nk3 57 3 0 Z ?_
 refine Qs e Z (fun e=>?_) fun e=>?_
 refine k2 3 0 Z<|sq<|wF Z QcA<|wD 0 1 Z QV Q13 Z<|wP2 Z ?_
 refine QE e (fun e=>?_) fun e=>?_
 refine wF Z Q7h<|wD 0 2 Z Qad QaD Z<|wN Z Q4O<|wP Z<|Qi (Neq l6.length 0)<|wP2 Z ?_
 refine QE e (fun e=>?_) fun e=>?_
 ·
  refine wP Z<|wF Z Q8I<|wM 0 3 (V7 ..) Z Q1t Q3z Z<|kn e fun b2 aQ e=>wC [1] [0] Z fn_138 Z (Qb2 N aA qp1 qc2 l0 qp3 qc4 l1 a2 a3 a7 a8 a9 a10 a11 a12 qp7 qc8 l13 _ aQ) (asK [2,3,1] Z) Z (H':=[_]) Z ?_
  rintro _ _ _ ⟨rfl,rfl,rfl⟩
  refine wP2 Z<|nk1 4 Z<|Qm<|Qg<|Q3 ?_
  cases (Zi e)
  refine re1 [0] [0,1] results102 Z ⟨Z,Z,Z⟩ Z
 ·
  refine wO4 Z<|wP2 Z<|nk1 4 Z<|Qm<|Qg<|Q3 ?_
  cases (Zi e)
  refine re1 [1] [2,3] results102 Z ⟨Z,Z,Z⟩ Z
 ·
  refine wO4 Z<|wP2 Z<|wO4 Z<|wP2 Z<|nk1 4 Z<|Qm<|Qg<|Q3 ?_
  cases (Zi e)
  refine re1 [1] [2,3] results102 Z ⟨Z,Z,Z⟩ Z
 ·
  refine k0 Z<|QT<|Q6<|Qv<|sq<|wP Z<|nr ?_
  cases (Zi e)
  refine re1 [1] [2,3] results102 Z ⟨Z,Z,Z⟩ Z
theorem QdA {N:Nat} {a0:Int} {a1:Int} {a2:Int} {a3:ByteArray} {a4:Int} {a5:Int} {qp0:OA} {qc1:Nat} {l6:List Q4} {qg2:Nat} {qg3:Nat} {qp4:OA} {qc5:Nat} {l7:List Q8} {qp6:OA} {qc7:Nat} {l8:List Qf} {a9:Int} {a10:Int} {o0:Bool} (e:Q7w N a0 a1 a2 a3 a4 a5 l6 l7 l8 a9 a10=some o0):QY prog 180 [.agg #[.int .u8 a0,.int .u8 a1,.int .i64 a2,.string a3,.int .i64 a4,.int .u8 a5,.slice qp0 l6.length qc1],.pointer (some ⟨qg2,0,none⟩)] [.sli 7 Qj qp0 qc1 l6,.sli 2 Qd qp4 qc5 l7,.sli 5 Qh qp6 qc7 l8] [.blk qg2 [.pointer (some ⟨qg3,0,none⟩)] 120,.blk qg3 [.slice qp4 l7.length qc5,.slice qp6 l8.length qc7,.int .i64 a9,.int .i64 a10] 124] (R0 (.bool o0) [.sli 2 Qd qp4 qc5 l7,.sli 5 Qh qp6 qc7 l8] [.blk qg2 [.pointer (some ⟨qg3,0,none⟩)] 120,.blk qg3 [.slice qp4 l7.length qc5,.slice qp6 l8.length qc7,.int .i64 a9,.int .i64 a10] 124]):=by
 unfold Q7w at e
 refine Qt func180 Z ntmps180 Z (S:=[_,_]) Z fun C=>sq<|wB Z fun g2=>wP Z<|nk2 2 1 Z<|sq<|wD 1 0 Z QbP QbL Z<|wM 0 0 (V7 ..) Z Q1t Q3z Z<|kn e fun v6 hc6 e=>wC [2] [0,1] Z fn_138 Z (Qb2 N qg3 qp4 qc5 l7 qp6 qc7 l8 a9 a10 a0 a1 a2 a3 a4 a5 qp0 qc1 l6 _ hc6) (asK [1,2,0] Z) Z (H':=[_,_]) Z ?_
 rintro _ _ _ ⟨rfl,rfl,rfl⟩
 refine wP2 Z<|nk1 3 Z<|Qm ?_
 obtain rfl:=Zi e
 refine re1 [2,0] [0,1] results180 Z ⟨Z,Z,Z⟩ Z
theorem Qch {N qc1 a1 a0 qc5 qc7:Nat} {qp0 qp4 qp6:OA} {l0:List Q4} {l1:List Q8} {l2:List Qf} {a3 a4 o0:Int} (e:Q6h N l0 l1 l2 a3 a4=some o0):QY prog 214 [.slice qp0 l0.length qc1,.func (.func 180) #[] #[.pointer (some ⟨a1,0,none⟩)]] [.sli 7 Qj qp0 qc1 l0,.sli 2 Qd qp4 qc5 l1,.sli 5 Qh qp6 qc7 l2] [.blk a1 [.pointer (some ⟨a0,0,none⟩)] 120,.blk a0 [.slice qp4 l1.length qc5,.slice qp6 l2.length qc7,.int .i64 a3,.int .i64 a4] 124] (R0 (.int .i64 o0) [.sli 2 Qd qp4 qc5 l1,.sli 5 Qh qp6 qc7 l2] [.blk a1 [.pointer (some ⟨a0,0,none⟩)] 120,.blk a0 [.slice qp4 l1.length qc5,.slice qp6 l2.length qc7,.int .i64 a3,.int .i64 a4] 124]):=by
 unfold Q6h at e
 refine Qt func214 Z ntmps214 Z (S:=[_,_]) Z fun C=>sq<|wP Z<|nk2 0 1 Z<|Q5<|ks e fun a6 e hLj_1=>?_
 refine cut (σ:=Unit) a6 (fun _=>(.inl (),[],[.sli 2 Qd qp4 qc5 l1,.sli 5 Qh qp6 qc7 l2],[.blk a1 [.pointer (some ⟨a0,0,none⟩)] 120,.blk a0 [.slice qp4 l1.length qc5,.slice qp6 l2.length qc7,.int .i64 a3,.int .i64 a4] 124])) ?_ ?_
 refine sq<|wP Z<|wN Z Q1g<|wP Z<|nk4 8 7 0 1 Z<|Qk<|lop (σ:=Nat) (Q3u N l0 l1 l2 a3 a4) (fun z=>(z,[(8,.int .i64 (z:Int)),(7,.int .i64 (l0.length:Int)),(0,.slice qp0 l0.length qc1),(1,.func (.func 180) #[] #[.pointer (some ⟨a1,0,none⟩)])],[.sli 7 Qj qp0 qc1 l0,.sli 2 Qd qp4 qc5 l1,.sli 5 Qh qp6 qc7 l2],[.blk a1 [.pointer (some ⟨a0,0,none⟩)] 120,.blk a0 [.slice qp4 l1.length qc5,.slice qp6 l2.length qc7,.int .i64 a3,.int .i64 a4] 124])) 0 e [8,7,0,1] [0,1,2] Z fun z aE aF e hLu1=>?_
 unfold Q3u at e
 try dsimp only at e ⊢
 refine sq<|wP Z<|Qi (Nlt z l0.length)<|nt<|Q5 ?_
 refine Qs e Z (fun e=>?_) fun e=>?_
 refine k4 8 7 0 1 Z<|kt<|Q5<|Qk<|sq<|wP2 Z<|nk5 5 8 7 0 1 Z<|sq<|wP2 Z<|wP Z<|kn e fun a5 a7 e=>wI 0 z Z a7 Q1g Q1t fun aG aH aD aC=>Q1i Q1G 1 Z fun a8 a9 _=>?_
 subst a9
 refine wLd 1 0 (V7 ..) Z Q1t Q3z Z ?_
 obtain ⟨aI,aA,e⟩:=Qy e
 refine Q1B [0,1] [] Z Z Z Zq Z Z Z fn_180 Z Z (@QdA N a5.kind a5.value.k a5.value.n a5.value.s a5.var a5.op a8.1 a8.2 a5.kids a1 a0 qp4 qc5 l1 qp6 qc7 l2 a3 a4 _ aA) (asK [0,4,5] Z) Z (H':=[]) Z ?_
 rintro _ _ _ ⟨rfl,rfl,rfl⟩
 refine nk6 16 5 8 7 0 1 Z ?_
 refine Qs e Z (fun e=>?_) fun e=>?_
 refine k1 5 Z<|sq<|wP2 Z<|nk1 4 Z<|Qm<|Qg<|Q3<|rb<|Q3 ?_
 obtain rfl:=(Qb hLj_1 (Qb hLu1 (zs e))).symm
 refine re1 [0,1] [0,1] results214 Z ⟨Z,Z,Z⟩ Z
 refine k4 8 7 0 1 Z<|QT<|Q6<|Qv<|Qe<|wP Z<|kg e fun aB e=>Qi (QD (a:=z) (b:=1) aB)<|Qx (S':=V4 ..) Z Z Z Z Z<|Q2 ?_
 refine rnd (z+1) (Qp hLu1 (zs e)) [8,7,0,1] [5,0,1] Z
 refine k0 Z<|QQ<|Q7<|Q7<|Qq ?_
 refine jn () (Qb hLu1 (zs e)) [] [1,2] Z
 rintro _ j
 try dsimp only at j ⊢
 have e:=Qp hLj_1 j
 try dsimp only at e
 refine sq<|wP Z<|nr ?_
 obtain rfl:=Zi e
 refine re1 [0,1] [0,1] results214 Z ⟨Z,Z,Z⟩ Z
theorem QaW {N qc1 qg2 qg3 qc5 qc7:Nat} {qp0 qp4 qp6:OA} {l0:List Q4} {l1:List Q8} {l2:List Qf} {a3 a4:Int} {o0:Bool} (e:Q52 N l0 l1 l2 a3 a4=some o0):QY prog 179 [.slice qp0 l0.length qc1,.func (.func 180) #[] #[.pointer (some ⟨qg2,0,none⟩)]] [.sli 7 Qj qp0 qc1 l0,.sli 2 Qd qp4 qc5 l1,.sli 5 Qh qp6 qc7 l2] [.blk qg2 [.pointer (some ⟨qg3,0,none⟩)] 120,.blk qg3 [.slice qp4 l1.length qc5,.slice qp6 l2.length qc7,.int .i64 a3,.int .i64 a4] 124] (R0 (.bool o0) [.sli 2 Qd qp4 qc5 l1,.sli 5 Qh qp6 qc7 l2] [.blk qg2 [.pointer (some ⟨qg3,0,none⟩)] 120,.blk qg3 [.slice qp4 l1.length qc5,.slice qp6 l2.length qc7,.int .i64 a3,.int .i64 a4] 124]):=by
 unfold Q52 at e
 refine Qt func179 Z ntmps179 Z (S:=[_,_]) Z fun C=>sq<|wP Z<|nk2 0 1 Z<|sq<|wP2 Z<|kn e fun v7 hc7 e=>c0 [0,1] [] Z fn_214 hc7 Qch [0,1,2] [] Z<|wP2 Z<|nk1 4 Z<|Qm ?_
 obtain rfl:=Zi e
 refine re1 [0,1] [0,1] results179 Z ⟨Z,Z,Z⟩ Z
theorem QaH {N qg0 qc2 qc4 qc6:Nat} {qp1 qp3 qp5:OA} {l0:List Q8} {l1:List Qf} {a2 a3:Int} {l4:List Q4} {o0:Bool} (e:Q5B N l0 l1 a2 a3 l4=some o0):QY prog 140 [.pointer (some ⟨qg0,0,none⟩),.slice qp5 l4.length qc6] [.sli 2 Qd qp1 qc2 l0,.sli 5 Qh qp3 qc4 l1,.sli 7 Qj qp5 qc6 l4] [.blk qg0 [.slice qp1 l0.length qc2,.slice qp3 l1.length qc4,.int .i64 a2,.int .i64 a3] 124] (R0 (.bool o0) [.sli 2 Qd qp1 qc2 l0,.sli 5 Qh qp3 qc4 l1] [.blk qg0 [.slice qp1 l0.length qc2,.slice qp3 l1.length qc4,.int .i64 a2,.int .i64 a3] 124]):=by
 unfold Q5B at e
 refine Qt func140 Z ntmps140 Z (S:=[_,_]) Z fun C=>sq<|wB Z fun g2=>wP Z<|nk2 2 1 Z<|sq<|wP Z<|Q26 Z Z Z Zq Z Z<|kn e fun v7 hc7 e=>c0 [0,1] [] Z fn_179 hc7 QaW [2,0,1] [] Z<|wP2 Z<|nk1 4 Z<|Qm ?_
 obtain rfl:=Zi e
 refine re1 [1] [0,1] results140 Z ⟨Z,Z,Z⟩ Z
theorem QeA {N aA qc2 qc4 qc6:Nat} {qp1 qp3 qp5:OA} {l0:List Q8} {l1:List Qf} {a2 a3 a4 a5 a6:Int} {l7:List Q4} {o0:Bool} (e:Q7R N l0 l1 a2 a3 a4 a5 a6 l7=some o0):QY prog 105 [.pointer (some ⟨aA,0,none⟩),.agg #[.int .u8 a4,.int .i64 a5,.int .i64 a6,.slice qp5 l7.length qc6]] [.sli 2 Qd qp1 qc2 l0,.sli 5 Qh qp3 qc4 l1,.sli 7 Qj qp5 qc6 l7] [.blk aA [.slice qp1 l0.length qc2,.slice qp3 l1.length qc4,.int .i64 a2,.int .i64 a3] 124] (R0 (.bool o0) [.sli 2 Qd qp1 qc2 l0,.sli 5 Qh qp3 qc4 l1] [.blk aA [.slice qp1 l0.length qc2,.slice qp3 l1.length qc4,.int .i64 a2,.int .i64 a3] 124]):=by
 unfold Q7R at e
 refine Qt func105 Z ntmps105 Z (S:=[_,_]) Z fun C=>sq<|wB Z fun g3=>wP Z<|nk2 3 0 Z<|Q5<|sq<|wF Z tF_81_0<|wD 0 0 Z tS_79 tA_79 Z<|nk3 6 3 0 Z<|Qk<|sq<|wP2 Z<|nk4 7 6 3 0 Z ?_
 refine Qs e Z (fun e=>?_) fun e=>?_
 refine k2 3 0 Z<|sq<|wF Z Q94<|wD 0 2 Z QV Q13 Z<|wP2 Z ?_
 refine QE e (fun e=>?_) fun e=>?_
 refine wP Z<|wF Z Q93<|wD 0 1 Z QV Q13 Z<|wF Z Q61<|wD 0 3 Z Q4k Q4M Z<|wN Z Q1g<|kn e fun aJ aC e=>c0 [1] [0] Z fn_135 aC QaI [0,1] [_] Z<|wP2 Z ?_
 refine QE e (fun e=>?_) fun e=>?_
 refine wP Z<|wF Z Q61<|wD 1 3 Z Q4k Q4M Z<|kn e fun aK aD e=>c0 [0] [1] Z fn_140 aD QaH [0,1,4] [_] Z<|wP2 Z<|nk1 4 Z<|Qm<|Qg<|Q3 ?_
 obtain rfl:=Zi e
 refine re1 [0] [0,1] results105 Z ⟨Z,Z,Z⟩ Z
 refine wO4 Z<|wP2 Z<|nk1 4 Z<|Qm<|Qg<|Q3 ?_
 obtain rfl:=Zi e
 refine re1 [0] [0,1] results105 Z ⟨Z,Z,Z⟩ Z
 refine wO4 Z<|wO2 Z<|wO Z<|wP2 Z<|wO4 Z<|wP2 Z<|nk1 4 Z<|Qm<|Qg<|Q3 ?_
 obtain rfl:=Zi e
 refine re1 [1] [0,1] results105 Z ⟨Z,Z,Z⟩ Z
 refine k3 6 3 0 Z<|sq<|wP2 Z<|nk4 27 6 3 0 Z ?_
 refine Qs e Z (fun e=>?_) fun e=>?_
 refine k2 3 0 Z<|Q5<|kn e fun aE e hLj_1=>?_
 unfold Q9c at e
 refine cut (σ:=Bool) aE (fun a1=>(a1,[(4,.bool a1)],[.sli 2 Qd qp1 qc2 l0,.sli 5 Qh qp3 qc4 l1],[.blk aA [.slice qp1 l0.length qc2,.slice qp3 l1.length qc4,.int .i64 a2,.int .i64 a3] 124])) ?_ ?_
 rcases Q19 e with ⟨a0,e⟩ | ⟨a0,e⟩
 rcases Q19 e with ⟨a9,e⟩ | ⟨a9,e⟩
 rcases Q19 e with ⟨aB,e⟩ | ⟨aB,e⟩
 refine QG [0,1,2,3,4,5,6,7,8,9,10,11,12,13,14,15,16,17,18,19,20,21,22] Z Z fun z=>xF z 0 Z Q93<|xD z 1 0 1 Z QV Q13 Z<|xP2 z 2 Z<|QA (QL a0)<|xF z 4 Z Q61<|xD z 5 0 3 Z Q4k Q4M Z<|xN z 6 Z Q1g<|xP z 7 Z<|QA (Neq l7.length 0)<|xP2 z 8 Z<|QA (QL a9)<|xF z 10 Z Q94<|xD z 11 0 2 Z QV Q13 Z<|xP2 z 12 Z<|xP z 14 Z<|QA (QL aB)<|xF z 15 Z Q94<|xD z 16 0 2 Z QV Q13 Z<|xP2 z 17 Z<|xF z 19 Z tF_124_2<|xD z 20 1 3 Z QV Q13 Z<|xP2 z 21 Z<|xS z 23 Z ?_
 refine wP Z<|Q2<|wxx 0 [] Z<|Qu z Z<|Qo [1] Z (H':=[_]) Z ?_
 refine jM (decide (a6 < a3)) e [4] [0,1] Z
 refine QG [0,1,2,3,4,5,6,7,8,9,10,11,12,13,14,15,16,17,18,19,20,21,22] Z Z fun z=>xF z 0 Z Q93<|xD z 1 0 1 Z QV Q13 Z<|xP2 z 2 Z<|QA (QL a0)<|xF z 4 Z Q61<|xD z 5 0 3 Z Q4k Q4M Z<|xN z 6 Z Q1g<|xP z 7 Z<|QA (Neq l7.length 0)<|xP2 z 8 Z<|QA (QL a9)<|xF z 10 Z Q94<|xD z 11 0 2 Z QV Q13 Z<|xP2 z 12 Z<|xP z 14 Z<|QA (QL aB)<|xO2 z 15 Z<|xO2 z 17 Z<|xO2 z 19 Z<|xO z 21 Z<|xP z 22 Z<|xS z 23 Z<|wP Z ?_
 refine Q2<|wxx 0 [] Z<|Qu z Z<|Qo [1] Z (H':=[_]) Z ?_
 refine jM false e [4] [0,1] Z
 refine QG [0,1,2,3,4,5,6,7,8,9,10,11,12,13,14,15,16,17,18,19,20,21,22] Z Z fun z=>xF z 0 Z Q93<|xD z 1 0 1 Z QV Q13 Z<|xP2 z 2 Z<|QA (QL a0)<|xF z 4 Z Q61<|xD z 5 0 3 Z Q4k Q4M Z<|xN z 6 Z Q1g<|xP z 7 Z<|QA (Neq l7.length 0)<|xP2 z 8 Z<|QA (QL a9)<|xO2 z 10 Z<|xO z 12 Z<|xP2 z 13 Z<|xO2 z 15 Z<|xO2 z 17 Z<|xO2 z 19 Z<|xO z 21 Z<|xP z 22 Z<|xS z 23 Z<|wP Z<|Q2<|wxx 0 [] Z ?_
 refine Qu z Z<|Qo [1] Z (H':=[_]) Z ?_
 refine jM false e [4] [0,1] Z
 refine QG [0,1,2,3,4,5,6,7,8,9,10,11,12,13,14,15,16,17,18,19,20,21,22] Z Z fun z=>xF z 0 Z Q93<|xD z 1 0 1 Z QV Q13 Z<|xP2 z 2 Z<|QA (QL a0)<|xO2 z 4 Z<|xO2 z 6 Z<|xP2 z 8 Z<|xO2 z 10 Z<|xO z 12 Z<|xP2 z 13 Z<|xO2 z 15 Z<|xO2 z 17 Z<|xO2 z 19 Z<|xO z 21 Z<|xP z 22 Z<|xS z 23 Z<|wP Z<|Q2<|wxx 0 [] Z<|Qu z Z<|Qo [1] Z (H':=[_]) Z ?_
 refine jM false e [4] [0,1] Z
 rintro a1 j
 try dsimp only at j ⊢
 have e:=hLj_1
 try rw [j] at e
 refine Qm<|Qg<|Q3 ?_
 obtain rfl:=Zi e
 refine re1 [0] [0,1] results105 Z ⟨Z,Z,Z⟩ Z
 refine k3 6 3 0 Z<|sq<|wP2 Z<|nk3 52 3 0 Z ?_
 refine Qs e Z (fun e=>?_) fun e=>?_
 refine k2 3 0 Z<|Q5<|kn e fun aF e hLj_2=>?_
 unfold Q9d at e
 refine cut (σ:=Bool) aF (fun a7=>(a7,[(4,.bool a7)],[.sli 2 Qd qp1 qc2 l0,.sli 5 Qh qp3 qc4 l1],[.blk aA [.slice qp1 l0.length qc2,.slice qp3 l1.length qc4,.int .i64 a2,.int .i64 a3] 124])) ?_ ?_
 refine Qe<|wF Z Q93<|wD 0 1 Z QV Q13 Z<|wP2 Z ?_
 refine QE e (fun e=>?_) fun e=>?_
 refine wF Z Q94<|wD 0 2 Z QV Q13 Z<|wP2 Z<|wP Z ?_
 refine QE e (fun e=>?_) fun e=>?_
 refine wF Z Q61<|wD 0 3 Z Q4k Q4M Z<|wN Z Q1g<|wP Z<|Qi (Ngt l7.length 0)<|wP2 Z ?_
 refine QE e (fun e=>?_) fun e=>?_
 refine wP Z<|wF Z Q61<|wD 0 3 Z Q4k Q4M Z<|kn e fun aI aG e=>c0 [1] [0] Z fn_140 aG QaH [0,1,2] [_] Z<|wP2 Z<|Q2<|Qo [0] Z (H':=[_]) Z ?_
 refine jM aI e [4] [0,1] Z
 refine wO4 Z<|wP2 Z<|Q2<|Qo [1] Z (H':=[_]) Z ?_
 refine jM false e [4] [0,1] Z
 refine wO4 Z<|wP2 Z<|wO4 Z<|wP2 Z<|Q2<|Qo [1] Z (H':=[_]) Z ?_
 refine jM false e [4] [0,1] Z
 refine wO2 Z<|wO Z<|wP2 Z<|wO4 Z<|wP2 Z<|wO4 Z<|wP2 Z<|Q2<|Qo [1] Z (H':=[_]) Z ?_
 refine jM false e [4] [0,1] Z
 rintro a7 j
 try dsimp only at j ⊢
 have e:=hLj_2
 try rw [j] at e
 refine Qm<|Qg<|Q3 ?_
 obtain rfl:=Zi e
 refine re1 [0] [0,1] results105 Z ⟨Z,Z,Z⟩ Z
 refine k1 3 Z<|QT<|Q6<|Qv<|Q5<|kn e fun aH e hLj_3=>?_
 unfold Q9e at e
 refine cut (σ:=Bool) aH (fun a8=>(a8,[(4,.bool a8)],[.sli 2 Qd qp1 qc2 l0,.sli 5 Qh qp3 qc4 l1],[.blk aA [.slice qp1 l0.length qc2,.slice qp3 l1.length qc4,.int .i64 a2,.int .i64 a3] 124])) ?_ ?_
 refine Qe<|wF Z tF_81_0<|wD 0 0 Z tS_79 tA_79 Z<|wP2 Z ?_
 refine QE e (fun e=>?_) fun e=>?_
 refine wF Z Q93<|wD 0 1 Z QV Q13 Z<|wP2 Z<|wP Z ?_
 refine QE e (fun e=>?_) fun e=>?_
 refine wF Z Q94<|wD 0 2 Z QV Q13 Z<|wP2 Z<|wP Z ?_
 refine QE e (fun e=>?_) fun e=>?_
 refine wF Z Q61<|wD 0 3 Z Q4k Q4M Z<|wN Z Q1g<|wP Z<|Qi (Neq l7.length 0)<|wP2 Z<|Q2<|Qo [1] Z (H':=[_]) Z ?_
 refine jM (l7.length==0) e [4] [0,1] Z
 refine wO4 Z<|wP2 Z<|Q2<|Qo [1] Z (H':=[_]) Z ?_
 refine jM false e [4] [0,1] Z
 refine wO2 Z<|wO Z<|wP2 Z<|wO4 Z<|wP2 Z<|Q2<|Qo [1] Z (H':=[_]) Z ?_
 refine jM false e [4] [0,1] Z
 refine wO2 Z<|wO Z<|wP2 Z<|wO2 Z<|wO Z<|wP2 Z<|wO4 Z<|wP2 Z<|Q2<|Qo [1] Z (H':=[_]) Z ?_
 refine jM false e [4] [0,1] Z
 rintro a8 j
 try dsimp only at j ⊢
 have e:=hLj_3
 try rw [j] at e
 refine Qm ?_
 obtain rfl:=Zi e
 refine re1 [0] [0,1] results105 Z ⟨Z,Z,Z⟩ Z
theorem QdB {N:Nat} {a0:Int} {a1:Int} {a2:Int} {qp0:OA} {qc1:Nat} {l3:List Q4} {qg2:Nat} {qg3:Nat} {qp4:OA} {qc5:Nat} {l4:List Q8} {qp6:OA} {qc7:Nat} {l5:List Qf} {a6:Int} {a7:Int} {o0:Bool} (e:Q7x N a0 a1 a2 l3 l4 l5 a6 a7=some o0):QY prog 104 [.agg #[.int .u8 a0,.int .i64 a1,.int .i64 a2,.slice qp0 l3.length qc1],.pointer (some ⟨qg2,0,none⟩)] [.sli 7 Qj qp0 qc1 l3,.sli 2 Qd qp4 qc5 l4,.sli 5 Qh qp6 qc7 l5] [.blk qg2 [.pointer (some ⟨qg3,0,none⟩)] 120,.blk qg3 [.slice qp4 l4.length qc5,.slice qp6 l5.length qc7,.int .i64 a6,.int .i64 a7] 124] (R0 (.bool o0) [.sli 2 Qd qp4 qc5 l4,.sli 5 Qh qp6 qc7 l5] [.blk qg2 [.pointer (some ⟨qg3,0,none⟩)] 120,.blk qg3 [.slice qp4 l4.length qc5,.slice qp6 l5.length qc7,.int .i64 a6,.int .i64 a7] 124]):=by
 unfold Q7x at e
 refine Qt func104 Z ntmps104 Z (S:=[_,_]) Z fun C=>sq<|wB Z fun g2=>wP Z<|nk2 2 1 Z<|sq<|wD 1 0 Z QbP QbL Z<|wM 0 0 (V4 ..) Z Q6o Qb1 Z<|kn e fun v6 hc6 e=>c0 [2] [0,1] Z fn_105 hc6 QeA [1,2,0] [_,_] Z<|wP2 Z<|nk1 3 Z<|Qm ?_
 obtain rfl:=Zi e
 refine re1 [2,0] [0,1] results104 Z ⟨Z,Z,Z⟩ Z
theorem QcT {N qc1 a1 a0 qc5 qc7:Nat} {qp0 qp4 qp6:OA} {l0:List QO} {l1:List Q8} {l2:List Qf} {a3 a4 o0:Int} (e:Q6Q N l0 l1 l2 a3 a4=some o0):QY prog 139 [.slice qp0 l0.length qc1,.func (.func 104) #[] #[.pointer (some ⟨a1,0,none⟩)]] [.sli 4 QF qp0 qc1 l0,.sli 2 Qd qp4 qc5 l1,.sli 5 Qh qp6 qc7 l2] [.blk a1 [.pointer (some ⟨a0,0,none⟩)] 120,.blk a0 [.slice qp4 l1.length qc5,.slice qp6 l2.length qc7,.int .i64 a3,.int .i64 a4] 124] (R0 (.int .i64 o0) [.sli 2 Qd qp4 qc5 l1,.sli 5 Qh qp6 qc7 l2] [.blk a1 [.pointer (some ⟨a0,0,none⟩)] 120,.blk a0 [.slice qp4 l1.length qc5,.slice qp6 l2.length qc7,.int .i64 a3,.int .i64 a4] 124]):=by
 unfold Q6Q at e
 refine Qt func139 Z ntmps139 Z (S:=[_,_]) Z fun C=>sq<|wP Z<|nk2 0 1 Z<|Q5<|ks e fun a6 e hLj_1=>?_
 refine cut (σ:=Unit) a6 (fun _=>(.inl (),[],[.sli 2 Qd qp4 qc5 l1,.sli 5 Qh qp6 qc7 l2],[.blk a1 [.pointer (some ⟨a0,0,none⟩)] 120,.blk a0 [.slice qp4 l1.length qc5,.slice qp6 l2.length qc7,.int .i64 a3,.int .i64 a4] 124])) ?_ ?_
 refine sq<|wP Z<|wN Z Q5e<|wP Z<|nk4 8 7 0 1 Z<|Qk<|lop (σ:=Nat) (Q3P N l0 l1 l2 a3 a4) (fun z=>(z,[(8,.int .i64 (z:Int)),(7,.int .i64 (l0.length:Int)),(0,.slice qp0 l0.length qc1),(1,.func (.func 104) #[] #[.pointer (some ⟨a1,0,none⟩)])],[.sli 4 QF qp0 qc1 l0,.sli 2 Qd qp4 qc5 l1,.sli 5 Qh qp6 qc7 l2],[.blk a1 [.pointer (some ⟨a0,0,none⟩)] 120,.blk a0 [.slice qp4 l1.length qc5,.slice qp6 l2.length qc7,.int .i64 a3,.int .i64 a4] 124])) 0 e [8,7,0,1] [0,1,2] Z fun z aE aF e hLu1=>?_
 unfold Q3P at e
 try dsimp only at e ⊢
 refine sq<|wP Z<|Qi (Nlt z l0.length)<|nt<|Q5 ?_
 refine Qs e Z (fun e=>?_) fun e=>?_
 refine k4 8 7 0 1 Z<|kt<|Q5<|Qk<|sq<|wP2 Z<|nk5 5 8 7 0 1 Z<|sq<|wP2 Z<|wP Z<|kn e fun a5 a7 e=>wI 0 z Z a7 Q5e Q6o fun aG aH aD aC=>Q1i Q6Y 1 Z fun a8 a9 _=>?_
 subst a9
 refine wLd 1 0 (V4 ..) Z Q6o Qb1 Z ?_
 obtain ⟨aI,aA,e⟩:=Qy e
 refine Q1B [0,1] [] Z Z Z Zq Z Z Z fn_104 Z Z (@QdB N a5.kind a5.type a5.which a8.1 a8.2 a5.exprs a1 a0 qp4 qc5 l1 qp6 qc7 l2 a3 a4 _ aA) (asK [0,4,5] Z) Z (H':=[]) Z ?_
 rintro _ _ _ ⟨rfl,rfl,rfl⟩
 refine nk6 16 5 8 7 0 1 Z ?_
 refine Qs e Z (fun e=>?_) fun e=>?_
 refine k1 5 Z<|sq<|wP2 Z<|nk1 4 Z<|Qm<|Qg<|Q3<|rb<|Q3 ?_
 obtain rfl:=(Qb hLj_1 (Qb hLu1 (zs e))).symm
 refine re1 [0,1] [0,1] results139 Z ⟨Z,Z,Z⟩ Z
 refine k4 8 7 0 1 Z<|QT<|Q6<|Qv<|Qe<|wP Z<|kg e fun aB e=>Qi (QD (a:=z) (b:=1) aB)<|Qx (S':=V4 ..) Z Z Z Z Z<|Q2 ?_
 refine rnd (z+1) (Qp hLu1 (zs e)) [8,7,0,1] [5,0,1] Z
 refine k0 Z<|QQ<|Q7<|Q7<|Qq ?_
 refine jn () (Qb hLu1 (zs e)) [] [1,2] Z
 rintro _ j
 try dsimp only at j ⊢
 have e:=Qp hLj_1 j
 try dsimp only at e
 refine sq<|wP Z<|nr ?_
 obtain rfl:=Zi e
 refine re1 [0,1] [0,1] results139 Z ⟨Z,Z,Z⟩ Z
theorem Qbn {N qc1 qg2 qg3 qc5 qc7:Nat} {qp0 qp4 qp6:OA} {l0:List QO} {l1:List Q8} {l2:List Qf} {a3 a4:Int} {o0:Bool} (e:Q5p N l0 l1 l2 a3 a4=some o0):QY prog 103 [.slice qp0 l0.length qc1,.func (.func 104) #[] #[.pointer (some ⟨qg2,0,none⟩)]] [.sli 4 QF qp0 qc1 l0,.sli 2 Qd qp4 qc5 l1,.sli 5 Qh qp6 qc7 l2] [.blk qg2 [.pointer (some ⟨qg3,0,none⟩)] 120,.blk qg3 [.slice qp4 l1.length qc5,.slice qp6 l2.length qc7,.int .i64 a3,.int .i64 a4] 124] (R0 (.bool o0) [.sli 2 Qd qp4 qc5 l1,.sli 5 Qh qp6 qc7 l2] [.blk qg2 [.pointer (some ⟨qg3,0,none⟩)] 120,.blk qg3 [.slice qp4 l1.length qc5,.slice qp6 l2.length qc7,.int .i64 a3,.int .i64 a4] 124]):=by
 unfold Q5p at e
 refine Qt func103 Z ntmps103 Z (S:=[_,_]) Z fun C=>sq<|wP Z<|nk2 0 1 Z<|sq<|wP2 Z<|kn e fun v7 hc7 e=>c0 [0,1] [] Z fn_139 hc7 QcT [0,1,2] [] Z<|wP2 Z<|nk1 4 Z<|Qm ?_
 obtain rfl:=Zi e
 refine re1 [0,1] [0,1] results103 Z ⟨Z,Z,Z⟩ Z
theorem Qeb {N aA qc2 qc4 qc6 qc8:Nat} {qp1 qp3 qp5 qp7:OA} {l0:List Q8} {l1:List Qf} {a2 a3 a5 a6 o1 o2:Int} {a4:ByteArray} {l7:List Qn} {l8:List QO} {o0:Bool} (e:Q75 N l0 l1 a2 a3 a4 a5 a6 l7 l8=some (o0,o1,o2)):QY prog 61 [.pointer (some ⟨aA,0,none⟩),.agg #[.string a4,.int .i64 a5,.int .i64 a6,.slice qp5 l7.length qc6,.slice qp7 l8.length qc8]] [.sli 2 Qd qp1 qc2 l0,.sli 5 Qh qp3 qc4 l1,.sli 10 QB qp5 qc6 l7,.sli 4 QF qp7 qc8 l8] [.blk aA [.slice qp1 l0.length qc2,.slice qp3 l1.length qc4,.int .i64 a2,.int .i64 a3] 124] (R0 (.bool o0) [.sli 2 Qd qp1 qc2 l0,.sli 5 Qh qp3 qc4 l1] [.blk aA [.slice qp1 l0.length qc2,.slice qp3 l1.length qc4,.int .i64 o1,.int .i64 o2] 124]):=by
 unfold Q75 at e
 refine Qt func61 Z ntmps61 Z (S:=[_,_]) Z fun C=>sq<|wB Z fun g2=>wB Z fun g3=>wP Z<|nk2 3 2 Z<|Q5<|QG [0,1,2,3,5,6] Z Z fun z=>xD z 0 1 0 Z QbP QbL Z<|xD z 1 1 0 Z QbP QbL Z<|xP z 2 Z<|xF z 3 Z Q82<|xS z 4 Z<|wS 2 2 Z QV (all':=V4 ..) Z (H':=V3 ..) Z<|Q2<|wxx 0 [1] Z<|xP z 5 Z<|xF z 6 Z tF_124_2<|xS z 7 Z<|wS 2 3 Z QV (all':=V4 ..) Z (H':=V3 ..) Z<|Q2<|wxx 0 [] Z<|Qu z Z<|Qv ?_
 refine k2 3 2 Z<|Q5<|Q5<|kn e fun aI e hLj_1=>?_
 unfold Q7c at e
 refine cut (σ:=Bool) aI (fun aB=>(aB,[(3,.pointer (some ⟨g3,0,none⟩)),(2,.pointer (some ⟨g2,0,none⟩)),(38,.bool aB)],[.sli 10 QB qp5 qc6 l7,.sli 4 QF qp7 qc8 l8,.sli 2 Qd qp1 qc2 l0,.sli 5 Qh qp3 qc4 l1],[.blk g3 [.string a4,.int .i64 a5,.int .i64 a6,.slice qp5 l7.length qc6,.slice qp7 l8.length qc8] 52,.blk g2 [.pointer (some ⟨aA,0,none⟩)] 120,.blk aA [.slice qp1 l0.length qc2,.slice qp3 l1.length qc4,.int .i64 0,.int .i64 0] 124])) ?_ ?_
 refine Qe<|wF Z Qba<|wD 0 0 Z tS_9 tA_9 Z<|kn e fun aT aJ e=>c0 [] [0,1,2] Z fn_58 aJ Q8v [] (V3 ..) Z<|wP2 Z ?_
 refine QE e (fun e=>?_) fun e=>?_
 refine wO2 Z<|wO Z<|wP2 Z<|wO2 Z<|wO Z<|wP2 Z<|wO4 Z<|wP2 Z<|wO4 Z<|wP Z<|Q2 ?_
 refine jM true e [3,2,38] [2,3,0,1] Z
 refine wF Z tF_52_1<|wD 0 1 Z QV Q13 Z<|wP2 Z<|wP Z ?_
 refine QE e (fun e=>?_) fun e=>?_
 refine wO2 Z<|wO Z<|wP2 Z<|wO4 Z<|wP2 Z<|wO4 Z<|wP Z<|Q2 ?_
 refine jM true e [3,2,38] [2,3,0,1] Z
 refine wF Z tF_52_1<|wD 0 1 Z QV Q13 Z<|wP2 Z<|wP Z ?_
 refine QE e (fun e=>?_) fun e=>?_
 refine wO4 Z<|wP2 Z<|wO4 Z<|wP Z<|Q2 ?_
 refine jM true e [3,2,38] [2,3,0,1] Z
 refine wF Z Q6R<|wD 0 3 Z Qa1 Qaa Z<|wN Z Q4d<|wP Z<|Qi (Ngt l7.length 8)<|wP2 Z ?_
 refine QE e (fun e=>?_) fun e=>?_
 refine wO4 Z<|wP Z<|Q2 ?_
 refine jM true e [3,2,38] [2,3,0,1] Z
 refine wF Z Q8G<|wD 0 4 Z QcB tA_50 Z<|wN Z Q5e<|wP Z<|Qi (Ngt l8.length 8)<|wP Z<|Q2 ?_
 refine jM (decide (8 < l8.length)) e [3,2,38] [2,3,0,1] Z
 rintro aB j
 try dsimp only at j ⊢
 have e:=hLj_1
 try rw [j] at e
 refine Qs e Z (fun e=>?_) fun e=>?_
 ·
  refine k0 Z<|sq<|wP Z<|nr<|Q3 ?_
  cases (Zi e)
  refine re1 [2] [2,3] results61 Z ⟨Z,Z,Z⟩ Z
 refine k2 3 2 Z<|kt<|Q5<|ks e fun aK e hLj_2=>?_
 refine cut (σ:=Int×Int) aK (fun (a7,a8)=>(.inl (a7,a8),[(3,.pointer (some ⟨g3,0,none⟩)),(2,.pointer (some ⟨g2,0,none⟩))],[.sli 10 QB qp5 qc6 l7,.sli 4 QF qp7 qc8 l8,.sli 2 Qd qp1 qc2 l0,.sli 5 Qh qp3 qc4 l1],[.blk g3 [.string a4,.int .i64 a5,.int .i64 a6,.slice qp5 l7.length qc6,.slice qp7 l8.length qc8] 52,.blk g2 [.pointer (some ⟨aA,0,none⟩)] 120,.blk aA [.slice qp1 l0.length qc2,.slice qp3 l1.length qc4,.int .i64 a7,.int .i64 a8] 124])) ?_ ?_
 refine sq<|wF Z Q6R<|wD 0 3 Z Qa1 Qaa Z<|wN Z Q4d<|wP Z<|nk5 42 41 40 3 2 Z<|Qk<|lop (σ:=Nat×Int×Int) (Q2Y N l7 l0 l1) (fun (a9,a0,a1)=>((a9,a0,a1),[(42,.int .i64 (a9:Int)),(41,.int .i64 (l7.length:Int)),(40,.slice qp5 l7.length qc6),(3,.pointer (some ⟨g3,0,none⟩)),(2,.pointer (some ⟨g2,0,none⟩))],[.sli 10 QB qp5 qc6 l7,.sli 4 QF qp7 qc8 l8,.sli 2 Qd qp1 qc2 l0,.sli 5 Qh qp3 qc4 l1],[.blk g3 [.string a4,.int .i64 a5,.int .i64 a6,.slice qp5 l7.length qc6,.slice qp7 l8.length qc8] 52,.blk g2 [.pointer (some ⟨aA,0,none⟩)] 120,.blk aA [.slice qp1 l0.length qc2,.slice qp3 l1.length qc4,.int .i64 a0,.int .i64 a1] 124])) (0,0,0) e [42,41,40,3,2] [0,1,2,3] Z fun s_ aU aV e hLu1=>?_
 obtain ⟨a9,a0,a1⟩:=s_
 unfold Q2Y at e
 try dsimp only at e ⊢
 refine sq<|wP Z<|Qi (Nlt a9 l7.length)<|nt<|Q5 ?_
 refine Qs e Z (fun e=>?_) fun e=>?_
 refine k5 42 41 40 3 2 Z<|kt<|Q5<|Qk<|sq<|kn e fun aW aL e=>wI 0 a9 Z aL Q4d Q3Q fun aX aY aS aQ=>Q1i Q33 1 Z fun aZ aM _=>?_
 subst aM
 refine wLd 2 0 (V10 ..) Z Q3Q Q9b Z<|QH Z Z Z Zq Z tZ_67 Z fun g6=>wS 0 0 Z Q3Q (all':=V10 ..) Z (H':=V4 ..) Z<|nk6 6 42 41 40 3 2 Z<|sq<|wD 2 0 Z QbP QbL Z<|wM 0 0 (V10 ..) Z Q3Q Q9b Z ?_
 obtain ⟨⟨aR,aE,aF⟩,aN,e⟩:=Qy e
 try dsimp only at e
 refine c0 [3] [0,1,2] Z fn_102 aN Qer [6,7,0,1] (V3 ..) Z<|wP Z<|nk6 49 42 41 40 3 2 Z ?_
 refine Qs e Z (fun e=>?_) fun e=>?_
 ·
  refine k0 Z<|sq<|wP Z<|nr<|Qg<|Q3<|rb<|Q3 ?_
  cases (Qb hLj_2 (Qb hLu1 ((Zi e).symm))).symm
  refine re1 [0] [0,1] results61 Z ⟨Z,Z,Z⟩ Z
 refine k5 42 41 40 3 2 Z<|QT<|Q6<|Qv<|Qe<|wP Z<|kg e fun aO e=>Qi (QD (a:=a9) (b:=1) aO)<|Qx (S':=V5 ..) Z Z Z Z Z<|Q2<|Qo [2,3,0] Z (H':=V3 ..) Z ?_
 refine rnd (a9+1,aE,aF) (Qp hLu1 (zs e)) [42,41,40,3,2] [6,7,0,1] Z
 refine k2 3 2 Z<|QQ<|Q7<|Q7<|Qq ?_
 refine jn (a0,a1) (Qb hLu1 (zs e)) [3,2] [0,1,2,3] Z
 rintro ⟨a7,a8⟩ j
 try dsimp only at j ⊢
 have e:=Qp hLj_2 j
 try dsimp only at e
 refine Q5 ?_
 rcases Q19 e with ⟨aC,e⟩ | ⟨aC,e⟩
 rcases Q19 e with ⟨aD,e⟩ | ⟨aD,e⟩
 ·
  refine kn e fun b0 aP e=>QG [0,1,2,3,4,5,6,7,8,9,10,11,12,13,14,15,16,19,20] Z Z fun z=>xF z 0 Z Qcx<|xD z 1 0 2 Z QV Q13 Z<|xD z 2 1 0 Z QbP QbL Z<|xP z 3 Z<|xF z 4 Z Q82<|xD z 5 2 2 Z QV Q13 Z<|xP2 z 6 Z<|QA (QL aC)<|xD z 8 1 0 Z QbP QbL Z<|xP z 9 Z<|xF z 10 Z Q82<|xD z 11 2 2 Z QV Q13 Z<|xP2 z 12 Z<|xP z 14 Z<|QA (QL aD)<|xF z 15 Z Q8G<|xD z 16 0 4 Z QcB tA_50 Z<|xS z 17 Z<|Q26 Z Z Z Zq Z Z<|Q2<|wxx 0 [0,2,1,2,1,0] Z<|xS z 18 Z ?_
  refine c0 [1,2] [0] Z fn_103 aP Qbn [1,2,3] [_] Z<|Q2<|wxx 2 [1,0,1,0,2] Z<|xP2 z 19 Z<|xS z 21 Z<|wP Z<|Q2<|wxx 0 [] Z<|Qu z Z<|Qv<|k1 4 Z<|Qm ?_
  cases (Zi e)
  refine re1 [1] [0,1] results61 Z ⟨Z,Z,Z⟩ Z
 ·
  refine QG [0,1,2,3,4,5,6,7,8,9,10,11,12,13,14,15,16,19,20] Z Z fun z=>xF z 0 Z Qcx<|xD z 1 0 2 Z QV Q13 Z<|xD z 2 1 0 Z QbP QbL Z<|xP z 3 Z<|xF z 4 Z Q82<|xD z 5 2 2 Z QV Q13 Z<|xP2 z 6 Z<|QA (QL aC)<|xD z 8 1 0 Z QbP QbL Z<|xP z 9 Z<|xF z 10 Z Q82<|xD z 11 2 2 Z QV Q13 Z<|xP2 z 12 Z<|xP z 14 Z<|QA (QL aD)<|xO2 z 15 Z<|xS z 17 Z<|wO Z<|Q2<|wxx 0 [2,1,2,1,0] Z<|xS z 18 Z<|wO Z<|Q2 ?_
  refine wxx 0 [2,1,2,1,0] Z<|xO z 19 Z<|xP z 20 Z<|xS z 21 Z<|wP Z<|Q2<|wxx 0 [] Z<|Qu z Z<|Qv<|k1 4 Z<|Qm ?_
  cases (Zi e)
  refine re1 [2] [2,3] results61 Z ⟨Z,Z,Z⟩ Z
 ·
  refine QG [0,1,2,3,4,5,6,7,8,9,10,11,12,13,14,15,16,19,20] Z Z fun z=>xF z 0 Z Qcx<|xD z 1 0 2 Z QV Q13 Z<|xD z 2 1 0 Z QbP QbL Z<|xP z 3 Z<|xF z 4 Z Q82<|xD z 5 2 2 Z QV Q13 Z<|xP2 z 6 Z<|QA (QL aC)<|xO2 z 8 Z<|xO2 z 10 Z<|xO z 12 Z<|xP2 z 13 Z<|xO2 z 15 Z<|xS z 17 Z<|wO Z<|Q2<|wxx 0 [2,1,0] Z<|xS z 18 Z<|wO Z<|Q2<|wxx 0 [2,1,0] Z<|xO z 19 Z<|xP z 20 Z ?_
  refine xS z 21 Z<|wP Z<|Q2<|wxx 0 [] Z<|Qu z Z<|Qv<|k1 4 Z<|Qm ?_
  cases (Zi e)
  refine re1 [2] [2,3] results61 Z ⟨Z,Z,Z⟩ Z
theorem w_check_Right_s {N qc1 qc3:Nat} {qp0 qp2:OA} {l0:List Q8} {l1:List Qf} {o0:Bool} (e:Q9k N l0 l1=some o0):QY prog 30 [.agg #[.slice qp0 l0.length qc1,.slice qp2 l1.length qc3]] [.sli 2 Qd qp0 qc1 l0,.sli 5 Qh qp2 qc3 l1] [] (R0 (.bool o0) [] []):=by
 unfold Q9k at e
 refine Qt func30 Z ntmps30 Z (S:=[_]) Z fun C=>sq<|wB Z fun g1=>wP Z<|nk1 1 Z<|sq<|wM 0 0 [_,_] Z Qac Qb0 Z<|Q1v Z Z Z Zq Z tZ_122 tP_122 Z (out:=[_,_]) Z<|Q1v Z Z Z Zq Z tZ_124 tP_124 Z (out:=V4 ..) Z<|wB Z fun a9=>wP Z<|nk2 3 1 Z<|Q5<|Q5<|kn e fun aN e hLj_1=>?_
 refine cut (σ:=Bool) aN (fun aA=>(aA,[(3,.pointer (some ⟨a9,0,none⟩)),(1,.pointer (some ⟨g1,0,none⟩)),(21,.bool aA)],[.sli 2 Qd qp0 qc1 l0,.sli 5 Qh qp2 qc3 l1],[.blk a9 [.slice qp0 l0.length qc1,.slice qp2 l1.length qc3,.int .i64 0,.int .i64 0] 124,.blk g1 [.slice qp0 l0.length qc1,.slice qp2 l1.length qc3] 25])) ?_ ?_
 refine Qe<|wF Z Q4h<|wD 1 0 Z Q8u Q8F Z<|wN Z Q3d<|wP Z<|Qi (Ngt l0.length 32)<|wP Z ?_
 refine QE e (fun e=>?_) fun e=>?_
 refine wO4 Z<|wP Z<|Q2 ?_
 refine jM true e [3,1,21] [0,1] Z
 refine wF Z Q5Z<|wD 1 1 Z Q9o Q9C Z<|wN Z Q3e<|wP Z<|Qi (Ngt l1.length 64)<|wP Z<|Q2 ?_
 refine jM (decide (64 < l1.length)) e [3,1,21] [0,1] Z
 rintro aA j
 try dsimp only at j ⊢
 have e:=hLj_1
 try rw [j] at e
 refine Qs e Z (fun e=>?_) fun e=>?_
 refine k0 Z<|sq<|wP Z<|nr<|Q3 ?_
 obtain rfl:=Zi e
 refine re1 [] [] results30 Z ⟨Z,Z,Z⟩ Z
 refine k2 3 1 Z<|kt<|Q5<|ks e fun aO e hLj_2=>?_
 refine cut (σ:=Unit) aO (fun _=>(.inl (),[(3,.pointer (some ⟨a9,0,none⟩)),(1,.pointer (some ⟨g1,0,none⟩))],[.sli 2 Qd qp0 qc1 l0,.sli 5 Qh qp2 qc3 l1],[.blk a9 [.slice qp0 l0.length qc1,.slice qp2 l1.length qc3,.int .i64 0,.int .i64 0] 124,.blk g1 [.slice qp0 l0.length qc1,.slice qp2 l1.length qc3] 25])) ?_ ?_
 refine sq<|wF Z Q4h<|wD 1 0 Z Q8u Q8F Z<|wN Z Q3d<|wP Z<|nk5 25 24 23 3 1 Z<|Qk<|lop (σ:=Nat) (Q6Z N l0 l1) (fun a0=>(a0,[(25,.int .i64 (a0:Int)),(24,.int .i64 (l0.length:Int)),(23,.slice qp0 l0.length qc1),(3,.pointer (some ⟨a9,0,none⟩)),(1,.pointer (some ⟨g1,0,none⟩))],[.sli 2 Qd qp0 qc1 l0,.sli 5 Qh qp2 qc3 l1],[.blk a9 [.slice qp0 l0.length qc1,.slice qp2 l1.length qc3,.int .i64 0,.int .i64 0] 124,.blk g1 [.slice qp0 l0.length qc1,.slice qp2 l1.length qc3] 25])) 0 e [25,24,23,3,1] [0,1] Z fun a0 b5 b6 e hLu1=>?_
 unfold Q6Z at e
 try dsimp only at e ⊢
 refine sq<|wP Z<|Qi (Nlt a0 l0.length)<|nt<|Q5 ?_
 refine Qs e Z (fun e=>?_) fun e=>?_
 refine k5 25 24 23 3 1 Z<|kt<|Q5<|Qk<|sq<|wP Z<|kn e fun b7 aP e=>wI 0 a0 Z aP Q3d Q7a fun b8 b9 b3 b0=>Q1i Q1z 1 Z fun bA aQ _=>?_
 subst aQ
 refine wLd 0 0 [_,_] Z Q7a tA_69 Z<|QH Z Z Z Zq Z tZ_69 Z fun g5=>wP Z<|wS 0 0 Z Q7a (all':=[_,_]) Z (H':=V3 ..) Z<|nk7 4 5 25 24 23 3 1 Z<|Q5<|kn e fun aR e hLj_3=>?_
 unfold Q8Y at e
 refine cut (σ:=Bool) aR (fun aB=>(aB,[(25,.int .i64 (a0:Int)),(24,.int .i64 (l0.length:Int)),(23,.slice qp0 l0.length qc1),(3,.pointer (some ⟨a9,0,none⟩)),(1,.pointer (some ⟨g1,0,none⟩)),(53,.bool aB)],[.sli 2 Qd qp0 qc1 l0,.sli 5 Qh qp2 qc3 l1],[.blk a9 [.slice qp0 l0.length qc1,.slice qp2 l1.length qc3,.int .i64 0,.int .i64 0] 124,.blk g1 [.slice qp0 l0.length qc1,.slice qp2 l1.length qc3] 25])) ?_ ?_
 refine kn e fun bB aE e=>?_
 rcases Q19 e with ⟨aD,e⟩ | ⟨aD,e⟩
 refine QG [0,1,3,4,5,6,7,8,9,10,11,12,13,14,15,16,17,18,19,21,22,23] Z Z fun z=>xF z 0 Z Qbb<|xD z 1 0 0 Z tS_9 tA_9 Z<|xS z 2 Z<|c0 [] [0,1,2] Z fn_58 aE Q8v [] (V3 ..) Z<|Q2<|wxx 0 [] Z<|xP2 z 3 Z<|QA (QL aD)<|xO2 z 5 Z<|xO z 7 Z<|xP2 z 8 Z<|xO2 z 10 Z<|xO z 12 Z<|xP2 z 13 Z<|xO2 z 15 Z<|xO2 z 17 Z<|xO z 19 Z<|xO z 21 Z<|xS z 20 Z<|wO Z<|Q2<|wxx 0 [0] Z<|xO z 22 Z ?_
 refine xP z 23 Z<|Qu z Z<|Qo [1,2] Z (H':=[_,_]) Z ?_
 refine jM true e [25,24,23,3,1,53] [2,3] Z
 rcases Q19 e with ⟨aF,e⟩ | ⟨aF,e⟩
 refine QG [0,1,3,4,5,6,7,8,9,10,11,12,13,14,15,16,17,18,19,21,22,23] Z Z fun z=>xF z 0 Z Qbb<|xD z 1 0 0 Z tS_9 tA_9 Z<|xS z 2 Z<|c0 [] [0,1,2] Z fn_58 aE Q8v [] (V3 ..) Z<|Q2<|wxx 0 [] Z<|xP2 z 3 Z<|QA (QL aD)<|xF z 5 Z Q9s<|xD z 6 0 1 Z QV Q13 Z<|xP2 z 7 Z<|xP z 9 Z<|QA (QL aF)<|xO2 z 10 Z<|xO z 12 Z<|xP2 z 13 Z<|xO2 z 15 Z<|xO2 z 17 Z<|xO z 19 Z<|xO z 21 Z<|xS z 20 Z<|wO Z<|Q2 ?_
 refine wxx 0 [0,0] Z<|xO z 22 Z<|xP z 23 Z<|Qu z Z<|Qo [1,2] Z (H':=[_,_]) Z ?_
 refine jM true e [25,24,23,3,1,53] [2,3] Z
 rcases Q19 e with ⟨aG,e⟩ | ⟨aG,e⟩
 refine QG [0,1,3,4,5,6,7,8,9,10,11,12,13,14,15,16,17,18,19,21,22,23] Z Z fun z=>xF z 0 Z Qbb<|xD z 1 0 0 Z tS_9 tA_9 Z<|xS z 2 Z<|c0 [] [0,1,2] Z fn_58 aE Q8v [] (V3 ..) Z<|Q2<|wxx 0 [] Z<|xP2 z 3 Z<|QA (QL aD)<|xF z 5 Z Q9s<|xD z 6 0 1 Z QV Q13 Z<|xP2 z 7 Z<|xP z 9 Z<|QA (QL aF)<|xF z 10 Z Q9s<|xD z 11 0 1 Z QV Q13 Z<|xP2 z 12 Z<|xP z 14 Z<|QA (QL aG)<|xO2 z 15 Z<|xO2 z 17 Z<|xO z 19 Z<|xO z 21 Z<|xS z 20 Z ?_
 refine wO Z<|Q2<|wxx 0 [0,0,0] Z<|xO z 22 Z<|xP z 23 Z<|Qu z Z<|Qo [1,2] Z (H':=[_,_]) Z ?_
 refine jM true e [25,24,23,3,1,53] [2,3] Z
 refine kn e fun b1 aS e=>QG [0,1,3,4,5,6,7,8,9,10,11,12,13,14,15,16,17,18,19,21,22,23] Z Z fun z=>xF z 0 Z Qbb<|xD z 1 0 0 Z tS_9 tA_9 Z<|xS z 2 Z<|c0 [] [0,1,2] Z fn_58 aE Q8v [] (V3 ..) Z<|Q2<|wxx 0 [] Z<|xP2 z 3 Z<|QA (QL aD)<|xF z 5 Z Q9s<|xD z 6 0 1 Z QV Q13 Z<|xP2 z 7 Z<|xP z 9 Z<|QA (QL aF)<|xF z 10 Z Q9s<|xD z 11 0 1 Z QV Q13 Z<|xP2 z 12 Z<|xP z 14 Z<|QA (QL aG)<|xP2 z 15 Z<|xF z 17 Z Qe7<|xF z 18 Z Qbb<|xD z 19 0 0 Z tS_9 tA_9 Z ?_
 refine xP z 21 Z<|xS z 20 Z<|c0 [1] [0,2] Z fn_59 aS Qea [2,3] [_,_] Z<|Q2<|wxx 2 [1,1,1] Z<|xP2 z 22 Z<|Qu z Z<|Qo [0,2] Z (H':=[_,_]) Z ?_
 refine jM (b1 !=(a0:Int)) e [25,24,23,3,1,53] [0,1] Z
 rintro aB j
 try dsimp only at j ⊢
 have e:=hLj_3
 try rw [j] at e
 refine Qs e Z (fun e=>?_) fun e=>?_
 refine k0 Z<|sq<|wP Z<|nr<|Qg<|Q3<|rb<|Q3 ?_
 obtain rfl:=(Qb hLj_2 (Qb hLu1 (zs e))).symm
 refine re1 [] [] results30 Z ⟨Z,Z,Z⟩ Z
 refine k5 25 24 23 3 1 Z<|QT<|Q6<|Qv<|Qe<|wP Z<|kg e fun aT e=>Qi (QD (a:=a0) (b:=1) aT)<|Qx (S':=V5 ..) Z Z Z Z Z<|Q2 ?_
 refine rnd (a0+1) (Qp hLu1 (zs e)) [25,24,23,3,1] [0,1] Z
 refine k2 3 1 Z<|QQ<|Q7<|Q7<|Qq ?_
 refine jn () (Qb hLu1 (zs e)) [3,1] [0,1] Z
 rintro _ j
 try dsimp only at j ⊢
 have e:=Qp hLj_2 j
 try dsimp only at e
 refine Q5<|ks e fun aU e hLj_4=>?_
 refine cut (σ:=Unit) aU (fun _=>(.inl (),[],[],[])) ?_ ?_
 refine sq<|wF Z Q5Z<|wD 1 1 Z Q9o Q9C Z<|wN Z Q3e<|wP Z<|nk4 58 57 56 3 Z<|Qk<|wc_pick [0] Z (H':=[_]) Z<|lop (σ:=Nat×Int×Int) (Q70 N l1 l0) (fun (a1,a7,a8)=>((a1,a7,a8),[(58,.int .i64 (a1:Int)),(57,.int .i64 (l1.length:Int)),(56,.slice qp2 l1.length qc3),(3,.pointer (some ⟨a9,0,none⟩))],[.sli 5 Qh qp2 qc3 l1,.sli 2 Qd qp0 qc1 l0],[.blk a9 [.slice qp0 l0.length qc1,.slice qp2 l1.length qc3,.int .i64 a7,.int .i64 a8] 124])) (0,0,0) e [58,57,56,3] [1,0] Z fun s_ bC bD e hLu2=>?_
 obtain ⟨a1,a7,a8⟩:=s_
 unfold Q70 at e
 try dsimp only at e ⊢
 refine sq<|wP Z<|Qi (Nlt a1 l1.length)<|nt<|Q5 ?_
 refine Qs e Z (fun e=>?_) fun e=>?_
 refine k4 58 57 56 3 Z<|kt<|Q5<|Qk<|sq<|wP Z<|kn e fun bE aV e=>wI 0 a1 Z aV Q3e Q2X fun bF bG b4 b2=>Q1i Q1T 1 Z fun bH aW _=>?_
 subst aW
 refine wLd 2 0 (V5 ..) Z Q2X Q8U Z<|QH Z Z Z Zq Z tZ_52 Z fun g7=>wP Z<|wS 0 0 Z Q2X (all':=V5 ..) Z (H':=[_,_]) Z<|nk6 6 7 58 57 56 3 Z<|Q5<|kn e fun aX e hLj_5=>?_
 refine cut (σ:=Int×Int×Bool) aX (fun (a5,a6,aC)=>((a5,a6,aC),[(58,.int .i64 (a1:Int)),(57,.int .i64 (l1.length:Int)),(56,.slice qp2 l1.length qc3),(3,.pointer (some ⟨a9,0,none⟩)),(76,.bool aC)],[.sli 5 Qh qp2 qc3 l1,.sli 2 Qd qp0 qc1 l0],[.blk a9 [.slice qp0 l0.length qc1,.slice qp2 l1.length qc3,.int .i64 a5,.int .i64 a6] 124])) ?_ ?_
 refine kn e fun bI aJ e=>?_
 rcases Q19 e with ⟨aH,e⟩ | ⟨aH,e⟩
 refine QG [0,1,2,3,4,6,7,8,9,10,12,13] Z Z fun z=>xP2 z 0 Z<|xF z 2 Z Qe7<|xF z 3 Z Qba<|xD z 4 0 0 Z tS_9 tA_9 Z<|xP z 6 Z<|xS z 5 Z<|c0 [1] [0] Z fn_60 aJ QaG [5,4] [_] Z<|Q2<|wxx 2 [] Z<|xP2 z 7 Z<|QA (QL aH)<|xO2 z 9 Z<|xS z 11 Z<|wO Z<|Q2<|wxx 0 [1] Z<|xO z 12 Z<|xP z 13 Z<|Qu z Z<|Qo [0] Z (H':=[_]) Z ?_
 refine jM (a7,a8,true) e [58,57,56,3,76] [1,0] Z
 obtain ⟨⟨aK,aL,aM⟩,aY,e⟩:=Qy e
 try dsimp only at e
 refine QG [0,1,2,3,4,6,7,8,9,10,12,13] Z Z fun z=>xP2 z 0 Z<|xF z 2 Z Qe7<|xF z 3 Z Qba<|xD z 4 0 0 Z tS_9 tA_9 Z<|xP z 6 Z<|xS z 5 Z<|c0 [1] [0] Z fn_60 aJ QaG [5,4] [_] Z<|Q2<|wxx 2 [] Z<|xP2 z 7 Z<|QA (QL aH)<|xP z 9 Z<|xM z 10 1 0 (V5 ..) Z Q2X Q8U Z<|xS z 11 Z<|c0 [0] [1] Z fn_61 aY Qeb [0,1,2,3] [_] Z<|Q2<|wxx 2 [1] Z<|xP2 z 12 Z<|Qu z Z<|Qo [0] Z (H':=[_]) Z ?_
 refine jM (aL,aM,!aK) e [58,57,56,3,76] [1,0] Z
 rintro ⟨a5,a6,aC⟩ j
 try dsimp only at j ⊢
 have e:=hLj_5
 try rw [j] at e
 try dsimp only at e
 refine Qs e Z (fun e=>?_) fun e=>?_
 refine k0 Z<|sq<|wP Z<|nr<|Qg<|Q3<|rb<|Q3 ?_
 obtain rfl:=(Qb hLj_4 (Qb hLu2 (zs e))).symm
 refine re1 [] [] results30 Z ⟨Z,Z,Z⟩ Z
 refine k4 58 57 56 3 Z<|QT<|Q6<|Qv<|Qe<|wP Z<|kg e fun aZ e=>Qi (QD (a:=a1) (b:=1) aZ)<|Qx (S':=V4 ..) Z Z Z Z Z<|Q2 ?_
 refine rnd (a1+1,a5,a6) (Qp hLu2 (zs e)) [58,57,56,3] [0,1] Z
 refine k0 Z<|QQ<|Q7<|Q7<|Qq<|Qo [] Z (H':=[]) Z ?_
 refine jn () (Qb hLu2 (zs e)) [] [] Z
 rintro _ j
 try dsimp only at j ⊢
 have e:=Qp hLj_4 j
 try dsimp only at e
 refine sq<|wP Z<|nr ?_
 obtain rfl:=Zi e
 refine re1 [] [] results30 Z ⟨Z,Z,Z⟩ Z
theorem w_naive_right_1_s {N:Nat} {a0:Int} {a1:Int} {a2:ByteArray} {o0:Bool} (e:Q9r N a0 a1 a2=some o0):QY prog 63 [.agg #[.int .u8 a0,.int .i64 a1,.string a2]] [] [] (R0 (.bool o0) [] []):=by
 unfold Q9r at e
 refine Qt func63 Z ntmps63 Z (S:=[_]) Z fun C=>sq<|wB Z fun g1=>wP Z<|nk1 1 Z<|sq<|wM 0 0 (V3 ..) Z Qz Q17 Z<|kn e fun v4 hc4 e=>c0 [] [0] Z fn_64 hc4 Q7m [] [_] Z<|wP2 Z<|nk1 2 Z<|Qm ?_
 obtain rfl:=Zi e
 refine re1 [] [] results63 Z ⟨Z,Z,Z⟩ Z
theorem Qc3 {N qc1:Nat} {qp0:OA} {l0:List V} {o0:Int} (e:Q5X N l0=some o0):QY prog 106 [.slice qp0 l0.length qc1,.func (.func 63) #[] #[]] [.sli 3 R_V qp0 qc1 l0] [] (R0 (.int .i64 o0) [] []):=by
 unfold Q5X at e
 refine Qt func106 Z ntmps106 Z (S:=[_,_]) Z fun C=>sq<|wP Z<|nk2 0 1 Z<|Q5<|ks e fun bj_1 e hLj_1=>?_
 refine cut (σ:=Unit) bj_1 (fun _=>(.inl (),[],[],[])) ?_ ?_
 refine sq<|wP Z<|wN Z Q1F<|wP Z<|nk4 8 7 0 1 Z<|Qk<|lop (σ:=Nat) (Q3a N l0) (fun u1_8=>(u1_8,[(8,.int .i64 (u1_8:Int)),(7,.int .i64 (l0.length:Int)),(0,.slice qp0 l0.length qc1),(1,.func (.func 63) #[] #[])],[.sli 3 R_V qp0 qc1 l0],[])) 0 e [8,7,0,1] [0] Z fun u1_8 mu1 bu1 e hLu1=>?_
 unfold Q3a at e
 try dsimp only at e ⊢
 refine sq<|wP Z<|Qi (Nlt u1_8 l0.length)<|nt<|Q5 ?_
 refine Qs e Z (fun e=>?_) fun e=>?_
 refine k4 8 7 0 1 Z<|kt<|Q5<|Qk<|sq<|wP2 Z<|nk5 5 8 7 0 1 Z<|sq<|wP2 Z<|wP Z<|kn e fun x14 hx14 e=>wI 0 u1_8 Z hx14 Q1F Qz fun b14 q14 cs14 hlx14=>Q1i Q24 1 Z fun r14 er14 _=>?_
 subst er14
 refine wLd 0 0 (V3 ..) Z Qz Q17 Z ?_
 obtain ⟨v16,hc16,e⟩:=Qy e
 refine Q1B [] [] Z Z Z Zq Z Z Z fn_63 Z Z (@w_naive_right_1_s N x14.k x14.n x14.s _ hc16) (asK [] Z) Z (H':=[]) Z ?_
 rintro _ _ _ ⟨rfl,rfl,rfl⟩
 refine nk6 16 5 8 7 0 1 Z ?_
 refine Qs e Z (fun e=>?_) fun e=>?_
 refine k1 5 Z<|sq<|wP2 Z<|nk1 4 Z<|Qm<|Qg<|Q3<|rb<|Q3 ?_
 obtain rfl:=(Qb hLj_1 (Qb hLu1 (zs e))).symm
 refine re1 [] [] results106 Z ⟨Z,Z,Z⟩ Z
 refine k4 8 7 0 1 Z<|QT<|Q6<|Qv<|Qe<|wP Z<|kg e fun hg18 e=>Qi (QD (a:=u1_8) (b:=1) hg18)<|Qx (S':=V4 ..) Z Z Z Z Z<|Q2 ?_
 refine rnd (u1_8+1) (Qp hLu1 (zs e)) [8,7,0,1] [2] Z
 refine k0 Z<|QQ<|Q7<|Q7<|Qq ?_
 refine jn () (Qb hLu1 (zs e)) [] [] Z
 rintro _ j
 try dsimp only at j ⊢
 have e:=Qp hLj_1 j
 try dsimp only at e
 refine sq<|wP Z<|nr ?_
 obtain rfl:=Zi e
 refine re1 [] [] results106 Z ⟨Z,Z,Z⟩ Z
theorem QaM {N qc1:Nat} {qp0:OA} {l0:List V} {o0:Bool} (e:Q4J N l0=some o0):QY prog 62 [.slice qp0 l0.length qc1,.func (.func 63) #[] #[]] [.sli 3 R_V qp0 qc1 l0] [] (R0 (.bool o0) [] []):=by
 unfold Q4J at e
 refine Qt func62 Z ntmps62 Z (S:=[_,_]) Z fun C=>sq<|wP Z<|nk2 0 1 Z<|sq<|wP2 Z<|kn e fun v7 hc7 e=>c0 [] [] Z fn_106 hc7 Qc3 [0] [] Z<|wP2 Z<|nk1 4 Z<|Qm ?_
 obtain rfl:=Zi e
 refine re1 [] [] results62 Z ⟨Z,Z,Z⟩ Z
theorem w_naive_right_s {N qc1 qc3 qc5:Nat} {qp0 qp2 qp4:OA} {l0:List Q8} {l1:List Qf} {l2:List QP} {o0:Bool} (e:Q9l N l0 l1 l2=some o0):QY prog 31 [.agg #[.slice qp0 l0.length qc1,.slice qp2 l1.length qc3],.slice qp4 l2.length qc5] [.sli 2 Qd qp0 qc1 l0,.sli 5 Qh qp2 qc3 l1,.sli 3 Q14 qp4 qc5 l2] [] (R0 (.bool o0) [] []):=by
 unfold Q9l at e
 refine Qt func31 Z ntmps31 Z (S:=[_,_]) Z fun C=>sq<|wB Z fun g2=>wP Z<|nk2 2 1 Z<|sq<|wP Z<|nt<|Q5<|ks e fun aH e hLj_1=>?_
 refine cut (σ:=Unit) aH (fun _=>(.inl (),[],[],[])) ?_ ?_
 refine sq<|wP Z<|wN Z Q4N<|wP Z<|nk5 10 9 8 5 2 Z<|Qk<|lop (σ:=Nat×Int) (Q5D N l2 l0) (fun (a0,aA)=>((a0,aA),[(10,.int .i64 (a0:Int)),(9,.int .i64 (l2.length:Int)),(8,.slice qp4 l2.length qc5),(5,.int .i64 aA),(2,.pointer (some ⟨g2,0,none⟩))],[.sli 3 Q14 qp4 qc5 l2,.sli 2 Qd qp0 qc1 l0,.sli 5 Qh qp2 qc3 l1],[.blk g2 [.slice qp0 l0.length qc1,.slice qp2 l1.length qc3] 25])) (0,0) e [10,9,8,5,2] [2,0,1] Z fun s_ aW aX e hLu1=>?_
 obtain ⟨a0,aA⟩:=s_
 unfold Q5D at e
 try dsimp only at e ⊢
 refine sq<|wP Z<|Qi (Nlt a0 l2.length)<|nt<|Q5 ?_
 refine Qs e Z (fun e=>?_) fun e=>?_
 refine k5 10 9 8 5 2 Z<|kt<|Q5<|Qk<|sq<|kn e fun a8 aI e=>wI 0 a0 Z aI Q4N Q4l fun aY aZ aU aP=>Q1i Q40 1 Z fun aD aJ _=>?_
 subst aJ
 refine wLd 1 0 (V3 ..) Z Q4l Qab Z<|QH Z Z Z Zq Z tZ_71 Z fun g7=>wS 0 0 Z Q4l (all':=V3 ..) Z (H':=[_,_]) Z<|nk6 7 10 9 8 5 2 Z<|Q5<|Q5<|kn e fun aK e hLj_2=>?_
 unfold Q90 at e
 refine cut (σ:=Bool) aK (fun a6=>(a6,[(7,.pointer (some ⟨g7,0,none⟩)),(10,.int .i64 (a0:Int)),(9,.int .i64 (l2.length:Int)),(8,.slice qp4 l2.length qc5),(2,.pointer (some ⟨g2,0,none⟩)),(53,.bool a6)],[.sli 3 R_V aD.1 aD.2 a8.args,.sli 3 Q14 qp4 qc5 l2,.sli 2 Qd qp0 qc1 l0,.sli 5 Qh qp2 qc3 l1],[.blk g7 [.int .i64 (a8.id),.int .i64 (a8.ty),.slice aD.1 a8.args.length aD.2] 71,.blk g2 [.slice qp0 l0.length qc1,.slice qp2 l1.length qc3] 25])) ?_ ?_
 rcases Q19 e with ⟨a1,e⟩ | ⟨a1,e⟩
 refine QG [0,1,2,3,4,5,6,7,8,9,10,11,12,13,14,15,16,17,18,19,20,21,22,23,24,25,26,27,28,29,30,31,32,33,34,35,36,37,39] Z Z fun z=>xF z 0 Z Q3X<|xD z 1 0 0 Z QV Q13 Z<|xP2 z 2 Z<|xP z 4 Z<|QA (QL a1)<|xO2 z 5 Z<|xO z 7 Z<|xP2 z 8 Z<|xO2 z 10 Z<|xO z 12 Z<|xP2 z 13 Z<|xO2 z 15 Z<|xO2 z 17 Z<|xO2 z 19 Z<|xP2 z 21 Z<|xO2 z 23 Z<|xO2 z 25 Z<|xO2 z 27 Z<|xO2 z 29 Z<|xO2 z 31 Z<|xO z 33 Z<|xP2 z 34 Z<|xO2 z 36 Z ?_
 refine xS z 38 Z<|wO Z<|Q2<|wxx 0 [0] Z<|xP z 39 Z<|Qu z Z ?_
 refine jM true e [7,10,9,8,2,53] [0,3,4,5] Z
 rcases Q19 e with ⟨a5,e⟩ | ⟨a5,e⟩
 refine QG [0,1,2,3,4,5,6,7,8,9,10,11,12,13,14,15,16,17,18,19,20,21,22,23,24,25,26,27,28,29,30,31,32,33,34,35,36,37,39] Z Z fun z=>xF z 0 Z Q3X<|xD z 1 0 0 Z QV Q13 Z<|xP2 z 2 Z<|xP z 4 Z<|QA (QL a1)<|xF z 5 Z Q3X<|xD z 6 0 0 Z QV Q13 Z<|xP2 z 7 Z<|xP z 9 Z<|QA (QL a5)<|xO2 z 10 Z<|xO z 12 Z<|xP2 z 13 Z<|xO2 z 15 Z<|xO2 z 17 Z<|xO2 z 19 Z<|xP2 z 21 Z<|xO2 z 23 Z<|xO2 z 25 Z<|xO2 z 27 Z<|xO2 z 29 Z<|xO2 z 31 Z<|xO z 33 Z ?_
 refine xP2 z 34 Z<|xO2 z 36 Z<|xS z 38 Z<|wO Z<|Q2<|wxx 0 [0,0] Z<|xP z 39 Z<|Qu z Z ?_
 refine jM true e [7,10,9,8,2,53] [0,3,4,5] Z
 rcases Q19 e with ⟨a7,e⟩ | ⟨a7,e⟩
 refine QG [0,1,2,3,4,5,6,7,8,9,10,11,12,13,14,15,16,17,18,19,20,21,22,23,24,25,26,27,28,29,30,31,32,33,34,35,36,37,39] Z Z fun z=>xF z 0 Z Q3X<|xD z 1 0 0 Z QV Q13 Z<|xP2 z 2 Z<|xP z 4 Z<|QA (QL a1)<|xF z 5 Z Q3X<|xD z 6 0 0 Z QV Q13 Z<|xP2 z 7 Z<|xP z 9 Z<|QA (QL a5)<|xF z 10 Z Q6T<|xD z 11 0 1 Z QV Q13 Z<|xP2 z 12 Z<|xP z 14 Z<|QA (QL a7)<|xO2 z 15 Z<|xO2 z 17 Z<|xO2 z 19 Z<|xP2 z 21 Z<|xO2 z 23 Z<|xO2 z 25 Z<|xO2 z 27 Z<|xO2 z 29 Z ?_
 refine xO2 z 31 Z<|xO z 33 Z<|xP2 z 34 Z<|xO2 z 36 Z<|xS z 38 Z<|wO Z<|Q2<|wxx 0 [0,0,0] Z<|xP z 39 Z<|Qu z Z ?_
 refine jM true e [7,10,9,8,2,53] [0,3,4,5] Z
 rcases Q19 e with ⟨a9,e⟩ | ⟨a9,e⟩
 refine QG [0,1,2,3,4,5,6,7,8,9,10,11,12,13,14,15,16,17,18,19,20,21,22,23,24,25,26,27,28,29,30,31,32,33,34,35,36,37,39] Z Z fun z=>xF z 0 Z Q3X<|xD z 1 0 0 Z QV Q13 Z<|xP2 z 2 Z<|xP z 4 Z<|QA (QL a1)<|xF z 5 Z Q3X<|xD z 6 0 0 Z QV Q13 Z<|xP2 z 7 Z<|xP z 9 Z<|QA (QL a5)<|xF z 10 Z Q6T<|xD z 11 0 1 Z QV Q13 Z<|xP2 z 12 Z<|xP z 14 Z<|QA (QL a7)<|xF z 15 Z Q6T<|xD z 16 0 1 Z QV Q13 Z<|xF z 17 Z Q4h<|xD z 18 1 0 Z Q8u Q8F Z<|xN z 19 Z Q3d<|xP2 z 20 Z<|xP z 22 Z<|QA (QL a9) ?_
 refine xO2 z 23 Z<|xO2 z 25 Z<|xO2 z 27 Z<|xO2 z 29 Z<|xO2 z 31 Z<|xO z 33 Z<|xP2 z 34 Z<|xO2 z 36 Z<|xS z 38 Z<|wO Z<|Q2<|wxx 0 [1,0,0,0,0] Z<|xP z 39 Z<|Qu z Z ?_
 refine jM true e [7,10,9,8,2,53] [0,3,4,5] Z
 refine kg e fun aE e=>kn e fun b0 aF e=>?_
 rcases Q19 e with ⟨aB,e⟩ | ⟨aB,e⟩
 refine QG [0,1,2,3,4,5,6,7,8,9,10,11,12,13,14,15,16,17,18,19,20,21,22,23,24,25,26,27,28,29,30,31,32,33,34,35,36,37,39] Z Z fun z=>xF z 0 Z Q3X<|xD z 1 0 0 Z QV Q13 Z<|xP2 z 2 Z<|xP z 4 Z<|QA (QL a1)<|xF z 5 Z Q3X<|xD z 6 0 0 Z QV Q13 Z<|xP2 z 7 Z<|xP z 9 Z<|QA (QL a5)<|xF z 10 Z Q6T<|xD z 11 0 1 Z QV Q13 Z<|xP2 z 12 Z<|xP z 14 Z<|QA (QL a7)<|xF z 15 Z Q6T<|xD z 16 0 1 Z QV Q13 Z<|xF z 17 Z Q4h<|xD z 18 1 0 Z Q8u Q8F Z<|xN z 19 Z Q3d<|xP2 z 20 Z<|xP z 22 Z<|QA (QL a9) ?_
 refine xF z 23 Z Q6m<|xD z 24 0 2 Z Q6n Q6E Z<|xN z 25 Z Q1F<|xF z 26 Z Q4h<|xD z 27 1 0 Z Q8u Q8F Z<|xF z 28 Z Q6T<|xD z 29 0 1 Z QV Q13 Z<|Qbw z 30 4 a8.ty.toNat Z Z Z Zq Z Z Z Z Z (Q2K aE) aF Q3d Q7a fun aQ aR aL aG=>QJ Q1z 1 Z fun aS aC _=>?_
 subst aC
 refine xF z 31 Z Q9s<|xL z 32 0 1 [_] Z QV Q13 Z<|xP2 z 33 Z<|xP z 35 Z<|QA (QL aB)<|xO2 z 36 Z<|xS z 38 Z<|wO Z<|Q2<|wxx 0 [0,1,0,1,0,0,0,0] Z<|xP z 39 Z<|Qu z Z ?_
 refine jM true e [7,10,9,8,2,53] [2,5,6,7] Z
 refine kn e fun aT aM e=>QG [0,1,2,3,4,5,6,7,8,9,10,11,12,13,14,15,16,17,18,19,20,21,22,23,24,25,26,27,28,29,30,31,32,33,34,35,36,37,39] Z Z fun z=>xF z 0 Z Q3X<|xD z 1 0 0 Z QV Q13 Z<|xP2 z 2 Z<|xP z 4 Z<|QA (QL a1)<|xF z 5 Z Q3X<|xD z 6 0 0 Z QV Q13 Z<|xP2 z 7 Z<|xP z 9 Z<|QA (QL a5)<|xF z 10 Z Q6T<|xD z 11 0 1 Z QV Q13 Z<|xP2 z 12 Z<|xP z 14 Z<|QA (QL a7)<|xF z 15 Z Q6T<|xD z 16 0 1 Z QV Q13 Z<|xF z 17 Z Q4h<|xD z 18 1 0 Z Q8u Q8F Z<|xN z 19 Z Q3d<|xP2 z 20 Z<|xP z 22 Z ?_
 refine QA (QL a9)<|xF z 23 Z Q6m<|xD z 24 0 2 Z Q6n Q6E Z<|xN z 25 Z Q1F<|xF z 26 Z Q4h<|xD z 27 1 0 Z Q8u Q8F Z<|xF z 28 Z Q6T<|xD z 29 0 1 Z QV Q13 Z<|Qbw z 30 4 a8.ty.toNat Z Z Z Zq Z Z Z Z Z (Q2K aE) aF Q3d Q7a fun aQ aR aL aG=>QJ Q1z 1 Z fun aS aC _=>?_
 subst aC
 refine xF z 31 Z Q9s<|xL z 32 0 1 [_] Z QV Q13 Z<|xP2 z 33 Z<|xP z 35 Z<|QA (QL aB)<|xF z 36 Z Q6m<|xD z 37 0 2 Z Q6n Q6E Z<|xS z 38 Z<|c0 [] [0,1] Z fn_62 aM QaM [2] [_,_] Z<|Q2<|wxx 0 [0,1,0,1,0,0,0,0] Z<|xP z 39 Z<|Qu z Z ?_
 refine jM aT e [7,10,9,8,2,53] [2,5,6,7] Z
 rintro a6 j
 try dsimp only at j ⊢
 have e:=hLj_2
 try rw [j] at e
 refine Qs e Z (fun e=>?_) fun e=>?_
 refine k0 Z<|sq<|wP Z<|nr<|rb<|Q3<|rb<|Q3 ?_
 obtain rfl:=(Qb hLj_1 (Qb hLu1 (zs e))).symm
 refine re1 [] [] results31 Z ⟨Z,Z,Z⟩ Z
 refine k5 7 10 9 8 2 Z<|kt<|Qe<|wF Z Q3X<|wD 0 0 Z QV Q13 Z<|wP Z<|Q2<|Q6<|Qv<|k5 5 10 9 8 2 Z<|Qe<|wP Z<|kg e fun aN e=>Qi (QD (a:=a0) (b:=1) aN)<|Qx (S':=V5 ..) Z Z Z Z Z<|Q2<|Qo [1] Z (H':=[_]) Z ?_
 refine rnd (a0+1,a8.id) (Qp hLu1 (zs e)) [10,9,8,5,2] [1,2,3] Z
 refine k0 Z<|QQ<|Q7<|Q7<|Qq<|Qo [] Z (H':=[]) Z ?_
 refine jn () (Qb hLu1 (zs e)) [] [] Z
 rintro _ j
 try dsimp only at j ⊢
 have e:=Qp hLj_1 j
 try dsimp only at e
 refine sq<|wP Z<|nr ?_
 obtain rfl:=Zi e
 refine re1 [] [] results31 Z ⟨Z,Z,Z⟩ Z
theorem QdK {N:Nat} {a0:Int} {o2:List Bool} {o6:List V} (e:Q6W N a0=some (o2,o6)):QY prog 43 [.int .i64 a0] [] [] (fun v p q=>∃ o0 o1 o3 o4 o5 o7,R0 (.agg #[.slice o0 o3 o1,.slice o4 o7 o5]) [] [.own 4 1 Q1I (.slice o0 o3 o1) o2,.own 57 3 R_V (.slice o4 o7 o5) o6] v p q):=by
 unfold Q6W at e
 refine Qt func43 Z ntmps43 Z (S:=[_]) Z fun C=>sq<|QH Z Z Z Zq Z QbQ Z fun g2=>nt<|Q5<|Q5<|kn e fun aE e hLj_1=>?_
 refine cut (σ:=Bool) aE (fun a7=>(a7,[(0,.int .i64 a0),(2,.pointer (some ⟨g2,0,none⟩)),(8,.bool a7)],[],[.blk g2 [V1,V1] 100])) ?_ ?_
 refine Qe<|wP2 Z<|wP Z ?_
 refine QE e (fun e=>?_) fun e=>?_
 refine wO2 Z<|wP Z<|Q2 ?_
 refine jM true e [0,2,8] [] Z
 refine wP2 Z<|wP Z<|Q2 ?_
 refine jM (decide (a0 > 16)) e [0,2,8] [] Z
 rintro a7 j
 try dsimp only at j ⊢
 have e:=hLj_1
 try rw [j] at e
 refine Qs e Z (fun e=>?_) fun e=>?_
 refine k1 2 Z<|sq<|Q1v Z Z Z Zq Z QbQ tP_100 Z (out:=[_,_]) Z<|wS 0 0 Z Q6z (all':=[_,_]) Z (H':=[_]) Z<|nk1 2 Z<|Qm<|Q3 ?_
 have j:=(Zi e).symm
 obtain ⟨rfl,rfl⟩:=Pj j.symm
 refine Q7n 4 1 Q1I<|Q7n 57 3 R_V ?_
 refine Q2p (Hr:=[_,_]) [1,0] results43 (QU 2 Z Z Q6z Q9Z Z Z) ⟨none,0,0,none,0,0,Z,Z,Z⟩ (asK [] Z) Z Z (.inl Z)
 refine k2 0 2 Z<|kt<|Q5<|kg e fun a8 e=>kg e fun a9 e=>kg e fun aA e=>kg e fun aB e=>?_
 refine wc_cut (σ:=OA×OA) (fun _=>True) (fun (a1,a5)=>[(2,.pointer (some ⟨g2,0,none⟩))]) (fun (a1,a5)=>[]) (fun (a1,a5)=>[.blk g2 [.slice a1 a0.toNat a0.toNat,.slice a5 a0.toNat a0.toNat] 100,.own 4 1 Q1I (.slice a1 a0.toNat a0.toNat) (List.replicate a0.toNat false),.own 57 3 R_V (.slice a5 a0.toNat a0.toNat) (List.replicate a0.toNat (⟨0,0,EB⟩ : V))]) ?_ ?_
 refine QG [0,2,4] Z Z fun z=>xP z 0 Z<|xP z 2 Z ?_
 refine Qa6 z 1 3 Z Z Z Z Z Z ?_ ?_
 refine Qbp (m:=a0.toNat) Q1I false Z Z Z Zq Z Z Z (Q2K a8) (Q2K a8) tE_98 tR_4 Z Z (fun _ _=>⟨(),Z,Q16⟩) (Nat.le_trans (Nat.mul_le_mul_left _ a9) (by decide)) (Nat.le_trans a9 (by decide)) fun aC=>Q2<|Q3b [] [] Z Z<|xS z 3 Z<|Qbp (m:=a0.toNat) R_V (⟨0,0,EB⟩ : V) Z Z Z Zq Z Z Z (Q2K aA) (Q2K aA) Q1F tR_57 Z Z (fun _ _=>⟨(),Z,Q16⟩) (Nat.le_trans (Nat.mul_le_mul_left _ aB) (by decide)) (Nat.le_trans aB (by decide)) fun aD=>Q2<|Q3b [] [] Z Z<|QaN z 4 Z Z Z Zq Z Z QbQ tP_100 Z (out:=[_,_]) Z<|xS z 5 Z<|wS 2 0 Z Q6z (all':=[_,_]) Z (H':=V3 ..) Z<|Q2<|Q3b [] [] Z Z<|Qu z Z<|Qo [2,1,0] Z (H':=V3 ..) Z ?_
 refine Qbo (some ⟨aC,0,none⟩,some ⟨aD,0,none⟩) trivial [2] Z (asK [] Z) Z
 refine Qbp (m:=a0.toNat) R_V (⟨0,0,EB⟩ : V) Z Z Z Zq Z Z Z (Q2K aA) (Q2K aA) Q1F tR_57 Z Z (fun _ _=>⟨(),Z,Q16⟩) (Nat.le_trans (Nat.mul_le_mul_left _ aB) (by decide)) (Nat.le_trans aB (by decide)) fun aD=>Q2<|Q3b [] [] Z Z<|xS z 1 Z<|Qbp (m:=a0.toNat) Q1I false Z Z Z Zq Z Z Z (Q2K a8) (Q2K a8) tE_98 tR_4 Z Z (fun _ _=>⟨(),Z,Q16⟩) (Nat.le_trans (Nat.mul_le_mul_left _ a9) (by decide)) (Nat.le_trans a9 (by decide)) fun aC=>Q2<|Q3b [] [] Z Z<|QaN z 4 Z Z Z Zq Z Z QbQ tP_100 Z (out:=[_,_]) Z<|xS z 5 Z<|wS 2 0 Z Q6z (all':=[_,_]) Z (H':=V3 ..) Z<|Q2<|Q3b [] [] Z Z<|Qu z Z<|Qo [2,0,1] Z (H':=V3 ..) Z ?_
 refine Qbo (some ⟨aC,0,none⟩,some ⟨aD,0,none⟩) trivial [2] Z (asK [] Z) Z
 rintro ⟨a1,a5⟩ _
 try dsimp only
 refine Qm ?_
 have j:=(Zi e).symm
 obtain ⟨rfl,rfl⟩:=Pj j.symm
 refine Q2p (Hr:=[_,_]) [1,2] results43 (QU 0 Z Z Q6z Q9Z Z Z) ⟨a1,a0.toNat,a0.toNat,a5,a0.toNat,a0.toNat,Z,Z,Z⟩ (asK [] Z) Z Z (.inl Z)
theorem Clone67f_s (p:OA)(c:Nat)(l:List Int)(hb:l.length≤17592186044416):QY prog 67 [.slice p l.length c] [.sli 1 Q3B p c l] [] (fun v Φr Hr=>∃ p' c',v=.slice p' l.length c' ∧Φr=[]∧Hr=[.own 3 1 Q3B v l]):=by
 refine Qt func67 Z ntmps67 Z (S:=[_]) Z fun C=>wc_know (fun F w h=>sli_nil (h _ (Q1f (k:=0) Z))) fun isnil=>sq<|wP Z<|nt<|Q5<|sq<|wP Z<|wl_eqlNil Z Z Z Zq Z Z Z Q8s<|nk3 4 2 0 Z ?_
 refine wc_cond Z (fun h4=>?_) fun h4=>?_
 replace h4:=QdX h4
 obtain rfl:=isnil h4
 subst h4
 refine Q97 3 1 Q3B<|sq<|Qx (S':=[_,_]) Z Z Z Z Z<|nr<|Q3<|Q2p (Hr:=[.own 3 1 Q3B (V1) []]) [0] results67 (Q1w Z) ?_ (asK [] Z) Z Z (.inl Z)
 exact ⟨none,0,Z,Z,Z⟩
 replace h4:=Qdm h4
 refine kt<|sq<|QR Z Z Z Zq Z Q8s QV tZ_3 Z (zs:=[]) (by kernel_rfl) Z (out:=[]) Z fun g5=>wP Z<|wl_row (sz:=1) (m:=0) Q3B [] 0 Z (fun F w hφ=>Z) Z (by decide) (H':=[_]) Z<|Q86 0 0 Z Z Z Zq Z Z Z Z Z Q8s tR_3 Z Z (by simp;omega) (by simp;omega) (H2:=fun p7 c7=>[_]) (fun _ _=>Z) fun p7 c7=>Qx (S':=V5 ..) Z Z Z Z Z<|nk3 2 4 0 Z<|Qm<|Q2p (Hr:=[.own 3 1 Q3B (.slice p7 (l).length c7) l]) [0] results67 (Q1w Z) ?_ (asK [] Z) Z Z (.inl Z)
 exact ⟨_,_,Z,Z,Z⟩
theorem Clone68f_s (p:OA)(c:Nat)(l:List V)(hb:l.length≤4398046511104):QY prog 68 [.slice p l.length c] [.sli 3 R_V p c l] [] (fun v Φr Hr=>∃ p' c',v=.slice p' l.length c' ∧Φr=[]∧Hr=[.own 57 3 R_V v l]):=by
 refine Qt func68 Z ntmps68 Z (S:=[_]) Z fun C=>wc_know (fun F w h=>sli_nil (h _ (Q1f (k:=0) Z))) fun isnil=>sq<|wP Z<|nt<|Q5<|sq<|wP Z<|wl_eqlNil Z Z Z Zq Z Z Z Q1F<|nk3 4 2 0 Z ?_
 refine wc_cond Z (fun h4=>?_) fun h4=>?_
 replace h4:=QdX h4
 obtain rfl:=isnil h4
 subst h4
 refine Q97 57 3 R_V<|sq<|Qx (S':=[_,_]) Z Z Z Z Z<|nr<|Q3<|Q2p (Hr:=[.own 57 3 R_V (V1) []]) [0] results68 (Q1w Z) ?_ (asK [] Z) Z Z (.inl Z)
 exact ⟨none,0,Z,Z,Z⟩
 replace h4:=Qdm h4
 refine kt<|sq<|QR Z Z Z Zq Z Q1F Qz Q1X Z (zs:=[]) (by kernel_rfl) Z (out:=[]) Z fun g5=>wP Z<|wl_row (sz:=3) (m:=0) R_V [] 0 Z (fun F w hφ=>Z) Z (by decide) (H':=[_]) Z<|Q86 0 0 Z Z Z Zq Z Z Z Z Z Q1F tR_57 Z Z (by simp;omega) (by simp;omega) (H2:=fun p7 c7=>[_]) (fun _ _=>Z) fun p7 c7=>Qx (S':=V5 ..) Z Z Z Z Z<|nk3 2 4 0 Z<|Qm<|Q2p (Hr:=[.own 57 3 R_V (.slice p7 (l).length c7) l]) [0] results68 (Q1w Z) ?_ (asK [] Z) Z Z (.inl Z)
 exact ⟨_,_,Z,Z,Z⟩
theorem QeD {N:Nat} {a0:Int} {z:OA} {qn1:Nat} {a1:Nat} {l1:List Int} {qp3:OA} {qn4:Nat} {qc5:Nat} {l2:List V} {aB:Nat} {qp7:OA} {qn8:Nat} {qc9:Nat} {l3:List Ql} (e:Q8Z N a0 l1 l2 l3=some ()):QY prog 33 [.agg #[.int .i64 a0,.slice z qn1 a1],.slice qp3 qn4 qc5,.pointer (some ⟨aB,0,none⟩)] [] [.own 3 1 Q3B (.slice z qn1 a1) l1,.own 57 3 R_V (.slice qp3 qn4 qc5) l2,.blk aB [.slice qp7 qn8 qc9] 31,Q23 QZ 41 2 (.slice qp7 qn8 qc9) l3] (fun v p q=>∃ o0 o1,R0 (.tuple #[]) [] [.own 57 3 R_V (.slice qp3 qn4 qc5) l2,.blk aB [.slice o0 ((l3++[(⟨a0,l1⟩ : Ql)]).length) o1] 31,Q23 QZ 41 2 (.slice o0 ((l3++[(⟨a0,l1⟩ : Ql)]).length) o1) (l3++[(⟨a0,l1⟩ : Ql)])] v p q):=by
 unfold Q8Z at e
 refine Qt func33 Z ntmps33 Z (S:=V3 ..) Z fun C=>sq<|wB Z fun g3=>nk2 3 2 Z<|Qe<|wD 3 0 Z tS_31 tA_31 Z<|wM 0 0 [_,_] Z tS_41 tA_41 Z<|QR Z Z Z Zq Z tE_31 tS_41 tZ_41 Z (zs:=[.int .i64 0,V1]) (by kernel_rfl) Z (out:=[_,_]) Z fun g7=>Qar 5 Z fun aD _=>?_
 subst aD
 refine Q1Z 2 Z fun aC _=>?_
 subst aC
 refine Qc4 5 Z fun a7 a9=>kg e fun aG e=>?_
 have a8:List.map (fun x:Ql×(OA×Nat)=>x.1) (a7++[((⟨a0,l1⟩ : Ql),(z,a1))])=l3++[(⟨a0,l1⟩ : Ql)]:=pair_app a9 (us:=[(⟨a0,l1⟩ : Ql)]) rfl
 have aA:a7.length+([((⟨a0,l1⟩ : Ql),(z,a1))] : List (Ql×(OA×Nat))).length≤4398046511104:=by rw [Q81 a9];exact aG
 refine Q1V (R:=QZ.pair) ([((⟨a0,l1⟩ : Ql),(z,a1))]) 6 1 Z Z Z Zq Z Z Z Z Z (fun F w hφ=>⟨[.int .i64 a0,.slice z l1.length a1],[],Z,Z,Z,Z⟩) tE_31 tR_41 Z Z (Nat.le_trans aA (by decide)) (Nat.le_trans (Nat.mul_le_mul_right _ aA) (by decide)) (H2:=fun p8 c8=>(V7 ..)) (fun _ _=>Z) fun p8 c8=>Q4K 1 Z (H':=V6 ..) Z<|wl_as (d:=8) (v':=.slice p8 ((l3++[(⟨a0,l1⟩ : Ql)]).length) c8) (S':=V5 ..) Z Z (by rw [Q81 a8])<|Q3U 5 (φ':=.own 41 2 QZ.pair (.slice p8 ((l3++[(⟨a0,l1⟩ : Ql)]).length) c8) (a7++[((⟨a0,l1⟩ : Ql),(z,a1))])) Z (by rw [Q81 a8]) (H':=V6 ..) Z<|wl_pick [2,0,1,3,4,5] Z (H':=V6 ..) Z<|wl_sh [bagF QZ (a7++[((⟨a0,l1⟩ : Ql),(z,a1))]) none,_,_,_,_] (fun _ h=>QC.bagPush (T:=QZ) (x:=(⟨a0,l1⟩ : Ql)) (r:=(z,a1)) (zs:=a7) (H:=V5 ..) h 0 Z)<|wl_sh [_,_,_,Q23 QZ 41 2 (.slice p8 ((l3++[(⟨a0,l1⟩ : Ql)]).length) c8) (l3++[(⟨a0,l1⟩ : Ql)])] (fun _ h=>h.treeIn 4 0 Z Z Z a8)<|wS 2 0 Z tS_31 (all':=[_]) Z (H':=V4 ..) Z<|Q2 ?_
 have j:=(Zi e).symm
 refine re0 [1,2,3] [] results33 ⟨p8,c8,Z,Z,Z⟩ Z
theorem w_naive_all_2_s {N:Nat} {qp0:OA} {qc1:Nat} {l0:List Int} {qp2:OA} {qc3:Nat} {l1:List V} {qg4:Nat} {qg5:Nat} {qp6:OA} {qn7:Nat} {qc8:Nat} {l2:List Ql} {qg9:Nat} {a3:Int} (e:Qav N l0 l1 l2 a3=some ()):QY prog 66 [.slice qp0 l0.length qc1,.slice qp2 l1.length qc3,.pointer (some ⟨qg4,0,none⟩),.pointer (some ⟨qg9,0,none⟩)] [.sli 1 Q3B qp0 qc1 l0,.sli 3 R_V qp2 qc3 l1] [.blk qg4 [.func (.func 33) #[] #[.pointer (some ⟨qg5,0,none⟩)]] 88,.blk qg5 [.slice qp6 qn7 qc8] 31,Q23 QZ 41 2 (.slice qp6 qn7 qc8) l2,.blk qg9 [.int .i64 a3] 3] (fun v p q=>∃ o0 o1,R0 (.tuple #[]) [] [.blk qg4 [.func (.func 33) #[] #[.pointer (some ⟨qg5,0,none⟩)]] 88,.blk qg5 [.slice o0 ((l2++[(⟨a3,l0⟩ : Ql)]).length) o1] 31,Q23 QZ 41 2 (.slice o0 ((l2++[(⟨a3,l0⟩ : Ql)]).length) o1) (l2++[(⟨a3,l0⟩ : Ql)]),.blk qg9 [.int .i64 a3] 3] v p q):=by
 unfold Qav at e
 refine Qt func66 Z ntmps66 Z (S:=V4 ..) Z fun C=>kg e fun hg9 e=>kg e fun hg12 e=>kn e fun _ hc13 e=>?_
 try dsimp only at e
 refine QG [0,1,2,4,5] Z Z fun z=>xD z 0 0 0 Z tS_88 tA_88 Z<|xD z 1 3 0 Z QV Q13 Z<|xP z 2 Z<|xP z 5 Z<|xS z 3 Z<|wC [] [0,1,2,3] Z fn_67 Z (Clone67f_s qp0 qc1 l0 hg9) (asK [0] Z) Z (H':=V4 ..) Z ?_
 rintro _ _ _ ⟨p9,c9,rfl,rfl,rfl⟩
 refine Q2<|wxx 0 [4,1] Z<|QaN z 4 Z Z Z Zq Z Z tZ_41 tP_41 Z (out:=[_,_]) Z<|xS z 6 Z<|wC [] [0,1,2,3,4] Z fn_68 Z (Clone68f_s qp2 qc3 l1 hg12) (asK [1] Z) Z (H':=V5 ..) Z ?_
 rintro _ _ _ ⟨p12,c12,rfl,rfl,rfl⟩
 refine Q2<|wxx 0 [5,2] Z<|xS z 7 Z<|Q1B [1,0,3,4] [2,5] Z Z Z Zq Z Z Z fn_33 Z Z (@QeD N a3 p9 l0.length c9 l0 p12 l1.length c12 l1 qg5 qp6 qn7 qc8 l2 hc13) (asK [] Z) Z (H':=[_,_]) Z ?_
 rintro _ _ _ ⟨p13_0,c13_1,rfl,rfl,rfl⟩
 refine Q2<|wxx 0 [4] Z<|Qu z Z ?_
 have j:=(Zi e).symm
 refine re0 [3,1,2,4] [] results66 ⟨p13_0,c13_1,Z,Z,Z⟩ Z
theorem Qey {N o3:Nat} {a0 a1 o0 o1:Int} {a2 o2:ByteArray} (e:Q9B N a0 a1 a2=some (o0,o1,o2,o3)):QY prog 80 [.agg #[.int .u8 a0,.int .i64 a1,.string a2]] [] [] (R0 (.tuple #[.agg #[.int .u8 o0,.int .i64 o1,.string o2],.int .i64 (o3:Int)]) [] []):=by
 unfold Q9B at e
 refine Qt func80 Z ntmps80 Z (S:=[_]) Z fun C=>sq<|wB Z fun g1=>QH Z Z Z Zq Z Q1X Z fun g2=>wP Z<|nk2 2 1 Z<|Q5<|sq<|wM 1 0 (V3 ..) Z Qz Q17 Z<|kn e fun v5 hc5 e=>c0 [] [0,1] Z fn_64 hc5 Q7m [] [_,_] Z<|wP Z<|nk3 6 2 1 Z ?_
 refine Qs e Z (fun e=>?_) fun e=>?_
 ·
  refine k1 2 Z<|sq<|Q1v Z Z Z Zq Z Q1X Q8t Z (out:=V3 ..) Z<|wS 0 0 Z Qz (all':=V3 ..) Z (H':=[_,_]) Z<|wP Z<|nk2 3 2 Z<|Qm<|Q3 ?_
  cases (Zi e)
  refine Q1P (Hr:=[]) [] results80 (QU 0 Z Z Qz Q17 Z Z) (Q1w Z) ⟨Z,Z,Z⟩ (asK [] Z) Z Z (.inl Z)
 ·
  refine k2 2 1 Z<|kt<|sq<|wM 1 0 (V3 ..) Z Qz Q17 Z<|wS 0 0 Z Qz (all':=V3 ..) Z (H':=[_,_]) Z<|wP Z<|nk2 3 2 Z<|Qm ?_
  cases (Zi e)
  refine Q1P (Hr:=[]) [] results80 (QU 0 Z Z Qz Q17 Z Z) (Q1w Z) ⟨Z,Z,Z⟩ (asK [] Z) Z Z (.inl Z)
theorem w_expr_Eval_1_s {N:Nat} {qg0:Nat} {a0:Int} {a1:Int} {a2:Int} {a3:ByteArray} {a4:Int} {a5:Int} {qp1:OA} {qc2:Nat} {l6:List Q4} {o0:Int} {o1:Int} {o2:ByteArray} {o3:Nat} (e:Qau N a0 a1 a2 a3 a4 a5 l6=some (o0,o1,o2,o3)):QY prog 79 [.pointer (some ⟨qg0,0,none⟩)] [.sli 7 Qj qp1 qc2 l6] [.blk qg0 [.int .u8 a0,.int .u8 a1,.int .i64 a2,.string a3,.int .i64 a4,.int .u8 a5,.slice qp1 l6.length qc2] 65] (R0 (.tuple #[.agg #[.int .u8 o0,.int .i64 o1,.string o2],.int .i64 (o3:Int)]) [.sli 7 Qj qp1 qc2 l6] [.blk qg0 [.int .u8 a0,.int .u8 a1,.int .i64 a2,.string a3,.int .i64 a4,.int .u8 a5,.slice qp1 l6.length qc2] 65]):=by
 unfold Qau at e
 refine Qt func79 Z ntmps79 Z (S:=[_]) Z fun C=>sq<|QH Z Z Z Zq Z Q1X Z fun g1=>wP Z<|nk2 1 0 Z<|sq<|wF Z Qaw<|wM 1 1 (V3 ..) Z Qz Q17 Z ?_
 obtain ⟨⟨v5_0,v5_1,v5_2,v5_3⟩,hc5,e⟩:=Qy e
 try dsimp only at e
 refine c0 [] [0,1] Z fn_80 hc5 Qey [] [_,_] Z<|wP2 Z<|wS 0 0 Z Qz (all':=V3 ..) Z (H':=[_,_]) Z<|wP Z<|nk2 2 1 Z<|Qm ?_
 cases (Zi e)
 refine Q1P (Hr:=[_]) [1] results79 (QU 0 Z Z Qz Q17 Z Z) (Q1w Z) ⟨Z,Z,Z⟩ (asK [0] Z) Z Z (.inl Z)
theorem w_expr_Eval_2_s {N:Nat} {a6:Nat} {a0:Int} {a1:Int} {a2:Int} {a3:ByteArray} {a4:Int} {a5:Int} {qp1:OA} {qc2:Nat} {l6:List Q4} {a7:Nat} {qp4:OA} {qc5:Nat} {l7:List V} {o0:Int} {o1:Int} {o2:ByteArray} {o3:Nat} (e:Q7A N a0 a1 a2 a3 a4 a5 l6 l7=some (o0,o1,o2,o3)):QY prog 81 [.pointer (some ⟨a6,0,none⟩),.pointer (some ⟨a7,0,none⟩)] [.sli 7 Qj qp1 qc2 l6,.sli 3 R_V qp4 qc5 l7] [.blk a6 [.int .u8 a0,.int .u8 a1,.int .i64 a2,.string a3,.int .i64 a4,.int .u8 a5,.slice qp1 l6.length qc2] 65,.blk a7 [.slice qp4 l7.length qc5] 43] (R0 (.tuple #[.agg #[.int .u8 o0,.int .i64 o1,.string o2],.int .i64 (o3:Int)]) [.sli 7 Qj qp1 qc2 l6,.sli 3 R_V qp4 qc5 l7] [.blk a6 [.int .u8 a0,.int .u8 a1,.int .i64 a2,.string a3,.int .i64 a4,.int .u8 a5,.slice qp1 l6.length qc2] 65,.blk a7 [.slice qp4 l7.length qc5] 43]):=by
 unfold Q7A at e
 refine Qt func81 Z ntmps81 Z (S:=[_,_]) Z fun C=>sq<|QH Z Z Z Zq Z Q1X Z fun g2=>wP Z<|nk3 2 0 1 Z<|Q5<|Q5<|kn e fun a8 e hLj_1=>?_
 refine cut (σ:=Bool) a8 (fun z=>(z,[(2,.pointer (some ⟨g2,0,none⟩)),(0,.pointer (some ⟨a6,0,none⟩)),(1,.pointer (some ⟨a7,0,none⟩)),(13,.bool z)],[.sli 7 Qj qp1 qc2 l6,.sli 3 R_V qp4 qc5 l7],[.blk g2 [.int .u8 0,.int .i64 0,.string EB] 57,.blk a6 [.int .u8 a0,.int .u8 a1,.int .i64 a2,.string a3,.int .i64 a4,.int .u8 a5,.slice qp1 l6.length qc2] 65,.blk a7 [.slice qp4 l7.length qc5] 43])) ?_ ?_
 refine Qe<|wF Z Q7g<|wD 1 4 Z QV Q13 Z<|wP2 Z ?_
 refine QE e (fun e=>?_) fun e=>?_
 refine wO4 Z<|wO Z<|wP Z<|Q2 ?_
 refine jM true e [2,0,1,13] [0,1] Z
 refine wF Z Q7g<|wD 1 4 Z QV Q13 Z<|wD 2 0 Z Q6n Q6E Z<|wN Z Q1F<|wP2 Z<|Q2 ?_
 refine jM (decide (a4 ≥ (l7.length:Int))) e [2,0,1,13] [0,1] Z
 rintro z j
 try dsimp only at j ⊢
 have e:=hLj_1
 try rw [j] at e
 refine Qs e Z (fun e=>?_) fun e=>?_
 ·
  refine k1 2 Z<|sq<|Q1v Z Z Z Zq Z Q1X Q8t Z (out:=V3 ..) Z<|wS 0 0 Z Qz (all':=V3 ..) Z (H':=V3 ..) Z<|wP Z<|nk2 3 2 Z<|Qm<|Q3 ?_
  cases (Zi e)
  refine Q1P (Hr:=[_,_]) [1,2] results81 (QU 0 Z Z Qz Q17 Z Z) (Q1w Z) ⟨Z,Z,Z⟩ (asK [0,1] Z) Z Z (.inl Z)
 ·
  refine k3 2 0 1 Z<|kt<|sq<|wD 2 0 Z Q6n Q6E Z<|wF Z Q7g<|wD 1 4 Z QV Q13 Z<|kg e fun a9 e=>kn e fun aL aA e=>Qbv 1 a4.toNat Z Z Z Zq Z Z Z Z (Q2K a9) aA Q1F Qz fun aM aN aK aD=>Q1i Q24 1 Z fun aO aB _=>?_
  subst aB
  refine wLd 0 0 (V3 ..) Z Qz Q17 Z ?_
  obtain ⟨⟨aE,aF,aG,aH⟩,aC,e⟩:=Qy e
  try dsimp only at e
  refine c0 [] [0,1,2] Z fn_80 aC Qey [] (V3 ..) Z<|wP2 Z<|wS 0 0 Z Qz (all':=V3 ..) Z (H':=V3 ..) Z<|wP Z<|nk2 3 2 Z<|Qm ?_
  cases (Zi e)
  refine Q1P (Hr:=[_,_]) [1,2] results81 (QU 0 Z Z Qz Q17 Z Z) (Q1w Z) ⟨Z,Z,Z⟩ (asK [2,3] Z) Z Z (.inl Z)
theorem Qap {N:Nat} {a0:Int} (e:Q8R N a0=some ()):QY prog 119 [.int .i64 a0] [] [] (R0 (.agg #[.int .u8 1,.int .i64 a0,.string EB]) [] []):=by
 unfold Q8R at e
 refine Qt func119 Z ntmps119 Z (S:=[_]) Z fun C=>sq<|QH Z Z Z Zq Z Q1X Z fun g2=>nt<|sq<|wP Z<|Q1v Z Z Z Zq Z Q1X Q8t Z (out:=V3 ..) Z<|wS 0 0 Z Qz (all':=V3 ..) Z (H':=[_]) Z<|nk1 2 Z<|Qm ?_
 have j:=(Zi e).symm
 refine Q2p (Hr:=[]) [] results119 (QU 0 Z Z Qz Q17 Z Z) ⟨Z,Z,Z⟩ (asK [] Z) Z Z (.inl Z)
theorem QaZ {N:Nat} {a0:Bool} {o0:Int} (e:Q7E N a0=some o0):QY prog 117 [.bool a0] [] [] (R0 (.agg #[.int .u8 1,.int .i64 o0,.string EB]) [] []):=by
 unfold Q7E at e
 refine Qt func117 Z ntmps117 Z (S:=[_]) Z fun C=>sq<|QH Z Z Z Zq Z Q1X Z fun g2=>nt<|Q5<|sq<|wP Z<|nk2 3 2 Z ?_
 refine Qs e Z (fun e=>?_) fun e=>?_
 refine k1 2 Z<|sq<|kn e fun _ hc4 e=>?_
 try dsimp only at e
 refine c0 [] [0] Z fn_119 hc4 Qap [] [_] Z<|wS 0 0 Z Qz (all':=V3 ..) Z (H':=[_]) Z<|nk1 2 Z<|Qm<|Q3 ?_
 obtain rfl:=Zi e
 refine Q2p (Hr:=[]) [] results117 (QU 0 Z Z Qz Q17 Z Z) ⟨Z,Z,Z⟩ (asK [] Z) Z Z (.inl Z)
 refine k1 2 Z<|kt<|sq<|kn e fun _ hc5 e=>?_
 try dsimp only at e
 refine c0 [] [0] Z fn_119 hc5 Qap [] [_] Z<|wS 0 0 Z Qz (all':=V3 ..) Z (H':=[_]) Z<|nk1 2 Z<|Qm ?_
 obtain rfl:=Zi e
 refine Q2p (Hr:=[]) [] results117 (QU 0 Z Z Qz Q17 Z Z) ⟨Z,Z,Z⟩ (asK [] Z) Z Z (.inl Z)
theorem Q4j {N:Nat} {a0:Int} {r_:(Unit⊕(Unit⊕(Unit⊕(Unit⊕(Unit⊕(Unit⊕(Unit⊕(Unit⊕(Unit⊕Unit)))))))))} (e:Q4g N a0=some r_):QY prog 118 [.int .u8 a0] [] [] (fun v Φr Hr=>match r_ with | .inl ()=>v=.func (.func 148) #[] #[]∧Φr=[]∧Hr=[] | .inr (.inl ())=>v=.func (.func 149) #[] #[]∧Φr=[]∧Hr=[] | .inr (.inr (.inl ()))=>v=.func (.func 150) #[] #[]∧Φr=[]∧Hr=[] | .inr (.inr (.inr (.inl ())))=>v=.func (.func 151) #[] #[]∧Φr=[]∧Hr=[] | .inr (.inr (.inr (.inr (.inl ()))))=>∃ (o0:Nat),v=.func (.func 152) #[] #[.pointer (some ⟨o0,0,none⟩)]∧Φr=[]∧Hr=[.blk o0 [.func (.func 147) #[] #[]] 220] | .inr (.inr (.inr (.inr (.inr (.inl ())))))=>∃ (o0:Nat),v=.func (.func 153) #[] #[.pointer (some ⟨o0,0,none⟩)]∧Φr=[]∧Hr=[.blk o0 [.func (.func 147) #[] #[]] 220] | .inr (.inr (.inr (.inr (.inr (.inr (.inl ()))))))=>∃ (o0:Nat),v=.func (.func 154) #[] #[.pointer (some ⟨o0,0,none⟩)]∧Φr=[]∧Hr=[.blk o0 [.func (.func 147) #[] #[]] 220] | .inr (.inr (.inr (.inr (.inr (.inr (.inr (.inl ())))))))=>∃ (o0:Nat),v=.func (.func 155) #[] #[.pointer (some ⟨o0,0,none⟩)]∧Φr=[]∧Hr=[.blk o0 [.func (.func 147) #[] #[]] 220] | .inr (.inr (.inr (.inr (.inr (.inr (.inr (.inr (.inl ()))))))))=>∃ (o0:Nat),v=.func (.func 156) #[] #[.pointer (some ⟨o0,0,none⟩)]∧Φr=[]∧Hr=[.blk o0 [.func (.func 147) #[] #[]] 220] | .inr (.inr (.inr (.inr (.inr (.inr (.inr (.inr (.inr ()))))))))=>v=.nilFunc∧Φr=[]∧Hr=[]):=by
 unfold Q4g at e
 refine Qt func118 Z ntmps118 Z (S:=[_]) Z fun C=>sq<|wP Z<|nk1 0 Z<|sq<|QH Z Z Z Zq Z tZ_220 Z fun z=>wS 0 0 Z tS_220 (all':=[_]) Z (H':=[_]) Z<|nt<|sq<|wl_makeMapE (Q9R (Q6F tI_62)) false Q9A Z Z Z Zq Z fun g4=>Q6A (i:=1) (u:=.func (.func 148) #[] #[]) (cs:=[.func (.func 148) #[] #[]]) 0 Z Z (.inr Z) Z Z Z Z Q8h trivial Z (fun F w hφ=>⟨Z,Z⟩) (H':=[mapE (Q9R (Q6F tI_62)) false Q9A g4 ([(1,.func (.func 148) #[] #[])]),.blk z [.func (.func 147) #[] #[]] 220]) Z<|Q6A (i:=2) (u:=.func (.func 149) #[] #[]) (cs:=[.func (.func 149) #[] #[]]) 0 Z Z (.inr Z) Z Z Z Z Q8h trivial Z (fun F w hφ=>⟨Z,Z⟩) (H':=[mapE (Q9R (Q6F tI_62)) false Q9A g4 ([(1,.func (.func 148) #[] #[]),(2,.func (.func 149) #[] #[])]),.blk z [.func (.func 147) #[] #[]] 220]) Z<|Q6A (i:=3) (u:=.func (.func 150) #[] #[]) (cs:=[.func (.func 150) #[] #[]]) 0 Z Z (.inr Z) Z Z Z Z Q8h trivial Z (fun F w hφ=>⟨Z,Z⟩) (H':=[mapE (Q9R (Q6F tI_62)) false Q9A g4 ([(1,.func (.func 148) #[] #[]),(2,.func (.func 149) #[] #[]),(3,.func (.func 150) #[] #[])]),.blk z [.func (.func 147) #[] #[]] 220]) Z<|Q6A (i:=4) (u:=.func (.func 151) #[] #[]) (cs:=[.func (.func 151) #[] #[]]) 0 Z Z (.inr Z) Z Z Z Z Q8h trivial Z (fun F w hφ=>⟨Z,Z⟩) (H':=[mapE (Q9R (Q6F tI_62)) false Q9A g4 ([(1,.func (.func 148) #[] #[]),(2,.func (.func 149) #[] #[]),(3,.func (.func 150) #[] #[]),(4,.func (.func 151) #[] #[])]),.blk z [.func (.func 147) #[] #[]] 220]) Z<|Q26 Z Z Z Zq Z Z<|Q6A (i:=7) (u:=.func (.func 152) #[] #[.pointer (some ⟨z,0,none⟩)]) (cs:=[.func (.func 152) #[] #[.pointer (some ⟨z,0,none⟩)]]) 0 Z Z (.inr Z) Z Z Z Z Q8h trivial Z (fun F w hφ=>⟨Z,Z⟩) (H':=[mapE (Q9R (Q6F tI_62)) false Q9A g4 ([(1,.func (.func 148) #[] #[]),(2,.func (.func 149) #[] #[]),(3,.func (.func 150) #[] #[]),(4,.func (.func 151) #[] #[]),(7,.func (.func 152) #[] #[.pointer (some ⟨z,0,none⟩)])]),.blk z [.func (.func 147) #[] #[]] 220]) Z<|Q26 Z Z Z Zq Z Z<|Q6A (i:=8) (u:=.func (.func 153) #[] #[.pointer (some ⟨z,0,none⟩)]) (cs:=[.func (.func 153) #[] #[.pointer (some ⟨z,0,none⟩)]]) 0 Z Z (.inr Z) Z Z Z Z Q8h trivial Z (fun F w hφ=>⟨Z,Z⟩) (H':=[mapE (Q9R (Q6F tI_62)) false Q9A g4 ([(1,.func (.func 148) #[] #[]),(2,.func (.func 149) #[] #[]),(3,.func (.func 150) #[] #[]),(4,.func (.func 151) #[] #[]),(7,.func (.func 152) #[] #[.pointer (some ⟨z,0,none⟩)]),(8,.func (.func 153) #[] #[.pointer (some ⟨z,0,none⟩)])]),.blk z [.func (.func 147) #[] #[]] 220]) Z<|Q26 Z Z Z Zq Z Z<|Q6A (i:=9) (u:=.func (.func 154) #[] #[.pointer (some ⟨z,0,none⟩)]) (cs:=[.func (.func 154) #[] #[.pointer (some ⟨z,0,none⟩)]]) 0 Z Z (.inr Z) Z Z Z Z Q8h trivial Z (fun F w hφ=>⟨Z,Z⟩) (H':=[mapE (Q9R (Q6F tI_62)) false Q9A g4 ([(1,.func (.func 148) #[] #[]),(2,.func (.func 149) #[] #[]),(3,.func (.func 150) #[] #[]),(4,.func (.func 151) #[] #[]),(7,.func (.func 152) #[] #[.pointer (some ⟨z,0,none⟩)]),(8,.func (.func 153) #[] #[.pointer (some ⟨z,0,none⟩)]),(9,.func (.func 154) #[] #[.pointer (some ⟨z,0,none⟩)])]),.blk z [.func (.func 147) #[] #[]] 220]) Z<|Q26 Z Z Z Zq Z Z<|Q6A (i:=10) (u:=.func (.func 155) #[] #[.pointer (some ⟨z,0,none⟩)]) (cs:=[.func (.func 155) #[] #[.pointer (some ⟨z,0,none⟩)]]) 0 Z Z (.inr Z) Z Z Z Z Q8h trivial Z (fun F w hφ=>⟨Z,Z⟩) (H':=[mapE (Q9R (Q6F tI_62)) false Q9A g4 ([(1,.func (.func 148) #[] #[]),(2,.func (.func 149) #[] #[]),(3,.func (.func 150) #[] #[]),(4,.func (.func 151) #[] #[]),(7,.func (.func 152) #[] #[.pointer (some ⟨z,0,none⟩)]),(8,.func (.func 153) #[] #[.pointer (some ⟨z,0,none⟩)]),(9,.func (.func 154) #[] #[.pointer (some ⟨z,0,none⟩)]),(10,.func (.func 155) #[] #[.pointer (some ⟨z,0,none⟩)])]),.blk z [.func (.func 147) #[] #[]] 220]) Z<|Q26 Z Z Z Zq Z Z<|Q6A (i:=11) (u:=.func (.func 156) #[] #[.pointer (some ⟨z,0,none⟩)]) (cs:=[.func (.func 156) #[] #[.pointer (some ⟨z,0,none⟩)]]) 0 Z Z (.inr Z) Z Z Z Z Q8h trivial Z (fun F w hφ=>⟨Z,Z⟩) (H':=[mapE (Q9R (Q6F tI_62)) false Q9A g4 ([(1,.func (.func 148) #[] #[]),(2,.func (.func 149) #[] #[]),(3,.func (.func 150) #[] #[]),(4,.func (.func 151) #[] #[]),(7,.func (.func 152) #[] #[.pointer (some ⟨z,0,none⟩)]),(8,.func (.func 153) #[] #[.pointer (some ⟨z,0,none⟩)]),(9,.func (.func 154) #[] #[.pointer (some ⟨z,0,none⟩)]),(10,.func (.func 155) #[] #[.pointer (some ⟨z,0,none⟩)]),(11,.func (.func 156) #[] #[.pointer (some ⟨z,0,none⟩)])]),.blk z [.func (.func 147) #[] #[]] 220]) Z ?_
 refine wP2 Z ?_
 rcases Q19 e with ⟨a1,e⟩ | ⟨a1,e⟩
 refine Q5f (i:=a0) (a:=(.func (.func 148) #[] #[])) Q4i 0 Z Z Z Zq Z Z Z Z Q8h trivial (by rw [eq_of_beq a1];rfl) (u:=fun _=>.func (.func 148) #[] #[]) (fun _=>Z) (v:=fun _=>.func (.func 148) #[] #[]) (fun _=>Z) fun _ _=>wP Z<|nk1 2 Z<|Qm ?_
 have j:=(Zi e).symm
 subst j
 dsimp only
 refine re1 [] [] results118 Z ⟨Z,Z,Z⟩ Z
 rcases Q19 e with ⟨a5,e⟩ | ⟨a5,e⟩
 refine Q5f (i:=a0) (a:=(.func (.func 149) #[] #[])) Q4i 0 Z Z Z Zq Z Z Z Z Q8h trivial (by rw [eq_of_beq a5];rfl) (u:=fun _=>.func (.func 149) #[] #[]) (fun _=>Z) (v:=fun _=>.func (.func 149) #[] #[]) (fun _=>Z) fun _ _=>wP Z<|nk1 2 Z<|Qm ?_
 have j:=(Zi e).symm
 subst j
 dsimp only
 refine re1 [] [] results118 Z ⟨Z,Z,Z⟩ Z
 rcases Q19 e with ⟨a6,e⟩ | ⟨a6,e⟩
 refine Q5f (i:=a0) (a:=(.func (.func 150) #[] #[])) Q4i 0 Z Z Z Zq Z Z Z Z Q8h trivial (by rw [eq_of_beq a6];rfl) (u:=fun _=>.func (.func 150) #[] #[]) (fun _=>Z) (v:=fun _=>.func (.func 150) #[] #[]) (fun _=>Z) fun _ _=>wP Z<|nk1 2 Z<|Qm ?_
 have j:=(Zi e).symm
 subst j
 dsimp only
 refine re1 [] [] results118 Z ⟨Z,Z,Z⟩ Z
 rcases Q19 e with ⟨a7,e⟩ | ⟨a7,e⟩
 refine Q5f (i:=a0) (a:=(.func (.func 151) #[] #[])) Q4i 0 Z Z Z Zq Z Z Z Z Q8h trivial (by rw [eq_of_beq a7];rfl) (u:=fun _=>.func (.func 151) #[] #[]) (fun _=>Z) (v:=fun _=>.func (.func 151) #[] #[]) (fun _=>Z) fun _ _=>wP Z<|nk1 2 Z<|Qm ?_
 have j:=(Zi e).symm
 subst j
 dsimp only
 refine re1 [] [] results118 Z ⟨Z,Z,Z⟩ Z
 rcases Q19 e with ⟨a8,e⟩ | ⟨a8,e⟩
 refine Q5f (i:=a0) (a:=(.func (.func 152) #[] #[.pointer (some ⟨z,0,none⟩)])) Q4i 0 Z Z Z Zq Z Z Z Z Q8h trivial (by rw [eq_of_beq a8];rfl) (u:=fun _=>.func (.func 152) #[] #[.pointer (some ⟨z,0,none⟩)]) (fun _=>Z) (v:=fun _=>.func (.func 152) #[] #[.pointer (some ⟨z,0,none⟩)]) (fun _=>Z) fun _ _=>wP Z<|nk1 2 Z<|Qm ?_
 have j:=(Zi e).symm
 subst j
 dsimp only
 refine re1 [1] [] results118 Z ⟨z,Z,Z,Z⟩ Z
 rcases Q19 e with ⟨a9,e⟩ | ⟨a9,e⟩
 refine Q5f (i:=a0) (a:=(.func (.func 153) #[] #[.pointer (some ⟨z,0,none⟩)])) Q4i 0 Z Z Z Zq Z Z Z Z Q8h trivial (by rw [eq_of_beq a9];rfl) (u:=fun _=>.func (.func 153) #[] #[.pointer (some ⟨z,0,none⟩)]) (fun _=>Z) (v:=fun _=>.func (.func 153) #[] #[.pointer (some ⟨z,0,none⟩)]) (fun _=>Z) fun _ _=>wP Z<|nk1 2 Z<|Qm ?_
 have j:=(Zi e).symm
 subst j
 dsimp only
 refine re1 [1] [] results118 Z ⟨z,Z,Z,Z⟩ Z
 rcases Q19 e with ⟨aA,e⟩ | ⟨aA,e⟩
 refine Q5f (i:=a0) (a:=(.func (.func 154) #[] #[.pointer (some ⟨z,0,none⟩)])) Q4i 0 Z Z Z Zq Z Z Z Z Q8h trivial (by rw [eq_of_beq aA];rfl) (u:=fun _=>.func (.func 154) #[] #[.pointer (some ⟨z,0,none⟩)]) (fun _=>Z) (v:=fun _=>.func (.func 154) #[] #[.pointer (some ⟨z,0,none⟩)]) (fun _=>Z) fun _ _=>wP Z<|nk1 2 Z<|Qm ?_
 have j:=(Zi e).symm
 subst j
 dsimp only
 refine re1 [1] [] results118 Z ⟨z,Z,Z,Z⟩ Z
 rcases Q19 e with ⟨aB,e⟩ | ⟨aB,e⟩
 refine Q5f (i:=a0) (a:=(.func (.func 155) #[] #[.pointer (some ⟨z,0,none⟩)])) Q4i 0 Z Z Z Zq Z Z Z Z Q8h trivial (by rw [eq_of_beq aB];rfl) (u:=fun _=>.func (.func 155) #[] #[.pointer (some ⟨z,0,none⟩)]) (fun _=>Z) (v:=fun _=>.func (.func 155) #[] #[.pointer (some ⟨z,0,none⟩)]) (fun _=>Z) fun _ _=>wP Z<|nk1 2 Z<|Qm ?_
 have j:=(Zi e).symm
 subst j
 dsimp only
 refine re1 [1] [] results118 Z ⟨z,Z,Z,Z⟩ Z
 rcases Q19 e with ⟨aC,e⟩ | ⟨aC,e⟩
 refine Q5f (i:=a0) (a:=(.func (.func 156) #[] #[.pointer (some ⟨z,0,none⟩)])) Q4i 0 Z Z Z Zq Z Z Z Z Q8h trivial (by rw [eq_of_beq aC];rfl) (u:=fun _=>.func (.func 156) #[] #[.pointer (some ⟨z,0,none⟩)]) (fun _=>Z) (v:=fun _=>.func (.func 156) #[] #[.pointer (some ⟨z,0,none⟩)]) (fun _=>Z) fun _ _=>wP Z<|nk1 2 Z<|Qm ?_
 have j:=(Zi e).symm
 subst j
 dsimp only
 refine re1 [1] [] results118 Z ⟨z,Z,Z,Z⟩ Z
 refine wl_lookNoE (i:=a0) 0 Z Z Z Zq Z Z Z Z tZ_183 Q8h trivial (by simp [Qcs,(ne_of_beq_false a1).symm,(ne_of_beq_false a5).symm,(ne_of_beq_false a6).symm,(ne_of_beq_false a7).symm,(ne_of_beq_false a8).symm,(ne_of_beq_false a9).symm,(ne_of_beq_false aA).symm,(ne_of_beq_false aB).symm,(ne_of_beq_false aC).symm]) (v:=.nilFunc) Z<|wP Z<|nk1 2 Z<|Qm ?_
 have j:=(Zi e).symm
 subst j
 dsimp only
 refine re1 [] [] results118 Z ⟨Z,Z,Z⟩ Z
theorem w_value_does_s0 {N:Nat} {a0:Int} (e:Q4g N a0=some (.inl ())):QY prog 118 [.int .u8 a0] [] [] (R0 (.func (.func 148) #[] #[]) [] []):=Q4j e
theorem w_value_does_s1 {N:Nat} {a0:Int} (e:Q4g N a0=some (.inr (.inl ()))):QY prog 118 [.int .u8 a0] [] [] (R0 (.func (.func 149) #[] #[]) [] []):=Q4j e
theorem w_value_does_s2 {N:Nat} {a0:Int} (e:Q4g N a0=some (.inr (.inr (.inl ())))):QY prog 118 [.int .u8 a0] [] [] (R0 (.func (.func 150) #[] #[]) [] []):=Q4j e
theorem w_value_does_s3 {N:Nat} {a0:Int} (e:Q4g N a0=some (.inr (.inr (.inr (.inl ()))))):QY prog 118 [.int .u8 a0] [] [] (R0 (.func (.func 151) #[] #[]) [] []):=Q4j e
theorem w_value_does_s4 {N:Nat} {a0:Int} (e:Q4g N a0=some (.inr (.inr (.inr (.inr (.inl ())))))):QY prog 118 [.int .u8 a0] [] [] (fun v p q=>∃ o0,R0 (.func (.func 152) #[] #[.pointer (some ⟨o0,0,none⟩)]) [] [.blk o0 [.func (.func 147) #[] #[]] 220] v p q):=Q4j e
theorem w_value_does_s5 {N:Nat} {a0:Int} (e:Q4g N a0=some (.inr (.inr (.inr (.inr (.inr (.inl ()))))))):QY prog 118 [.int .u8 a0] [] [] (fun v p q=>∃ o0,R0 (.func (.func 153) #[] #[.pointer (some ⟨o0,0,none⟩)]) [] [.blk o0 [.func (.func 147) #[] #[]] 220] v p q):=Q4j e
theorem w_value_does_s6 {N:Nat} {a0:Int} (e:Q4g N a0=some (.inr (.inr (.inr (.inr (.inr (.inr (.inl ())))))))):QY prog 118 [.int .u8 a0] [] [] (fun v p q=>∃ o0,R0 (.func (.func 154) #[] #[.pointer (some ⟨o0,0,none⟩)]) [] [.blk o0 [.func (.func 147) #[] #[]] 220] v p q):=Q4j e
theorem w_value_does_s7 {N:Nat} {a0:Int} (e:Q4g N a0=some (.inr (.inr (.inr (.inr (.inr (.inr (.inr (.inl ()))))))))):QY prog 118 [.int .u8 a0] [] [] (fun v p q=>∃ o0,R0 (.func (.func 155) #[] #[.pointer (some ⟨o0,0,none⟩)]) [] [.blk o0 [.func (.func 147) #[] #[]] 220] v p q):=Q4j e
theorem w_value_does_s8 {N:Nat} {a0:Int} (e:Q4g N a0=some (.inr (.inr (.inr (.inr (.inr (.inr (.inr (.inr (.inl ())))))))))):QY prog 118 [.int .u8 a0] [] [] (fun v p q=>∃ o0,R0 (.func (.func 156) #[] #[.pointer (some ⟨o0,0,none⟩)]) [] [.blk o0 [.func (.func 147) #[] #[]] 220] v p q):=Q4j e
theorem w_value_does_2_s {N:Nat} {a0:Int} {a1:Int} (e:QbC N a0 a1=some ()):QY prog 148 [.int .i64 a0,.int .i64 a1] [] [] (R0 (.tuple #[.int .i64 (IntKind.wrap .i64 (a0+a1)),.bool ((decide ((IntKind.wrap .i64 (a0+a1)) < a0))==(decide (a1 < 0)))]) [] []):=by
 unfold QbC at e
 refine Qt func148 Z ntmps148 Z (S:=[_,_]) Z fun C=>sq<|wP2 Z<|nk2 0 1 Z<|sq<|wP2 Z<|wP2 Z<|wP2 Z<|wP2 Z<|wP2 Z<|Q9g Z Z Z Zq Z Z Z (eqlB _ _ (decide ((IntKind.wrap .i64 (a0+a1)) < a0)) (decide (a1 < 0)))<|wP2 Z<|nk2 5 4 Z<|Qm ?_
 have j:=(Zi e).symm
 refine re2 [] [] results148 Z ⟨Z,Z,Z⟩ Z
theorem w_value_does_3_s {N:Nat} {a0:Int} {a1:Int} (e:QbD N a0 a1=some ()):QY prog 149 [.int .i64 a0,.int .i64 a1] [] [] (R0 (.tuple #[.int .i64 (IntKind.wrap .i64 (a0 - a1)),.bool ((decide ((IntKind.wrap .i64 (a0 - a1)) > a0))==(decide (a1 < 0)))]) [] []):=by
 unfold QbD at e
 refine Qt func149 Z ntmps149 Z (S:=[_,_]) Z fun C=>sq<|wP2 Z<|nk2 0 1 Z<|sq<|wP2 Z<|wP2 Z<|wP2 Z<|wP2 Z<|wP2 Z<|Q9g Z Z Z Zq Z Z Z (eqlB _ _ (decide ((IntKind.wrap .i64 (a0 - a1)) > a0)) (decide (a1 < 0)))<|wP2 Z<|nk2 5 4 Z<|Qm ?_
 have j:=(Zi e).symm
 refine re2 [] [] results149 Z ⟨Z,Z,Z⟩ Z
theorem w_value_product_s {N:Nat} {a0:Int} {a1:Int} {o0:Int} {o1:Bool} (e:Q6y N a0 a1=some (o0,o1)):QY prog 150 [.int .i64 a0,.int .i64 a1] [] [] (R0 (.tuple #[.int .i64 o0,.bool o1]) [] []):=by
 unfold Q6y at e
 refine Qt func150 Z ntmps150 Z (S:=[_,_]) Z fun C=>sq<|wP2 Z<|nk2 0 1 Z<|sq<|wP Z<|Q64 Z Z Z Zq (rk_conv Z Z tI_2 tI_246)<|wP Z<|Q64 Z Z Z Zq (rk_conv Z Z tI_2 tI_246)<|wP2 Z<|nk4 7 6 0 1 Z<|Q5<|kn e fun a8 e hLj_1=>?_
 refine cut (σ:=Int) a8 (fun z=>(z,[(7,.int .u64 (IntKind.wrap .u64 a1)),(6,.int .u64 z),(0,.int .i64 a0),(1,.int .i64 a1)],[],[])) ?_ ?_
 refine sq<|wP2 Z<|nk5 15 7 6 0 1 Z ?_
 refine Qs e Z (fun e=>?_) fun e=>?_
 refine k4 7 6 0 1 Z<|Qe<|wP Z<|Q64 Z Z Z Zq (rk_neg Z Z)<|Qx (S':=V5 ..) Z Z Z Z Z<|Q2 ?_
 refine jM (IntKind.wrap .u64 (0 - (IntKind.wrap .u64 a0))) e [7,6,0,1] [] Z
 refine k4 7 6 0 1 Z<|QT ?_
 refine jM (IntKind.wrap .u64 a0) e [7,6,0,1] [] Z
 rintro z j
 try dsimp only at j ⊢
 have e:=hLj_1
 try rw [j] at e
 refine Q5<|kn e fun a9 e hLj_2=>?_
 refine cut (σ:=Int) a9 (fun a5=>(a5,[(7,.int .u64 a5),(6,.int .u64 z),(0,.int .i64 a0),(1,.int .i64 a1)],[],[])) ?_ ?_
 refine sq<|wP2 Z<|nk5 19 7 6 0 1 Z ?_
 refine Qs e Z (fun e=>?_) fun e=>?_
 refine k4 7 6 0 1 Z<|Qe<|wP Z<|Q64 Z Z Z Zq (rk_neg Z Z)<|Qx (S':=V5 ..) Z Z Z Z Z<|Q2 ?_
 refine jM (IntKind.wrap .u64 (0 - (IntKind.wrap .u64 a1))) e [7,6,0,1] [] Z
 refine k4 7 6 0 1 Z<|QT ?_
 refine jM (IntKind.wrap .u64 a1) e [7,6,0,1] [] Z
 rintro a5 j
 try dsimp only at j ⊢
 have e:=hLj_2
 try rw [j] at e
 refine sq<|wP2 Z<|kg e fun a6 e=>kg e fun a7 e=>wC [] [] Z fn_195 Z (sh_Mul64 z a5 a6 a7) (asK [] Z) Z (H':=[]) Z ?_
 rintro _ _ _ ⟨rfl,rfl,rfl⟩
 refine wP2 Z<|wP2 Z<|wP Z<|nk4 9 8 0 1 Z<|Q5<|sq<|wP2 Z<|wP2 Z<|Q9g Z Z Z Zq Z Z Z (neqB _ _ (decide (a0 < 0)) (decide (a1 < 0)))<|nk3 32 9 8 Z ?_
 refine Qs e Z (fun e=>?_) fun e=>?_
 refine k2 9 8 Z<|sq<|wP Z<|Q64 Z Z Z Zq (rk_neg Z Z)<|Q64 Z Z Z Zq (rk_conv Z Z tI_246 tI_2)<|wP2 Z<|wP Z ?_
 refine QE e (fun e=>?_) fun e=>?_
 refine wP2 Z<|wP2 Z<|wP Z<|nk2 5 4 Z<|Qm<|Q3 ?_
 have j:=(Zi e).symm
 obtain ⟨rfl,rfl⟩:=Pj j.symm
 refine re2 [] [] results150 Z ⟨Z,Z,Z⟩ Z
 refine wO2 Z<|wP2 Z<|wP Z<|nk2 5 4 Z<|Qm<|Q3 ?_
 have j:=(Zi e).symm
 obtain ⟨rfl,rfl⟩:=Pj j.symm
 refine re2 [] [] results150 Z ⟨Z,Z,Z⟩ Z
 refine k2 9 8 Z<|kt<|sq<|wP Z<|Q64 Z Z Z Zq (rk_conv Z Z tI_246 tI_2)<|wP2 Z<|wP Z ?_
 refine QE e (fun e=>?_) fun e=>?_
 refine wP2 Z<|wP2 Z<|wP Z<|nk2 5 4 Z<|Qm ?_
 have j:=(Zi e).symm
 obtain ⟨rfl,rfl⟩:=Pj j.symm
 refine re2 [] [] results150 Z ⟨Z,Z,Z⟩ Z
 refine wO2 Z<|wP2 Z<|wP Z<|nk2 5 4 Z<|Qm ?_
 have j:=(Zi e).symm
 obtain ⟨rfl,rfl⟩:=Pj j.symm
 refine re2 [] [] results150 Z ⟨Z,Z,Z⟩ Z
theorem w_value_does_4_s {N:Nat} {a0:Int} {a1:Int} (e:QbE N a0 a1=some ()):QY prog 151 [.int .i64 a0,.int .i64 a1] [] [] (R0 (.tuple #[.int .i64 (IntKind.wrap .i64 (0 - a0)),.bool (a0 !=-9223372036854775808)]) [] []):=by
 unfold QbE at e
 refine Qt func151 Z ntmps151 Z (S:=[_,_]) Z fun C=>sq<|wP2 Z<|nk1 0 Z<|sq<|wP Z<|Q64 Z Z Z Zq (rk_neg Z Z)<|wP2 Z<|wP2 Z<|nk2 5 4 Z<|Qm ?_
 have j:=(Zi e).symm
 refine re2 [] [] results151 Z ⟨Z,Z,Z⟩ Z
theorem Q5I {N:Nat} {a0:Bool} {o0:Int} (e:Q1N N a0=some o0):QY prog 147 [.bool a0] [] [] (R0 (.tuple #[.int .i64 o0,.bool true]) [] []):=by
 unfold Q1N at e
 refine Qt func147 Z ntmps147 Z (S:=[_]) Z fun C=>sq<|wP2 Z<|nk1 0 Z<|sq<|wP Z<|kn e fun v5 hc5 e=>c0 [] [] Z fn_117 hc5 QaZ [] [] Z<|Q64 Z Z Z Zq (rk_field Z Z tFT_57_1 Q92 Q95 (v:=.int .i64 v5) Z)<|wP2 Z<|nk2 3 2 Z<|Qm ?_
 obtain rfl:=Zi e
 refine re2 [] [] results147 Z ⟨Z,Z,Z⟩ Z
theorem w_value_does_5_s {N:Nat} {a0:Int} {a1:Int} {qg0:Nat} {o0:Int} (e:Q9S N a0 a1=some o0):QY prog 152 [.int .i64 a0,.int .i64 a1,.pointer (some ⟨qg0,0,none⟩)] [] [.blk qg0 [.func (.func 147) #[] #[]] 220] (R0 (.tuple #[.int .i64 o0,.bool true]) [] [.blk qg0 [.func (.func 147) #[] #[]] 220]):=by
 unfold Q9S at e
 refine Qt func152 Z ntmps152 Z (S:=V3 ..) Z fun C=>sq<|wP2 Z<|nk3 0 1 2 Z<|sq<|wD 0 0 Z tS_220 tA_220 Z<|wP2 Z<|wP Z ?_
 obtain ⟨v11,hc11,e⟩:=Qy e
 refine Q1B [] [0] Z Z Z Zq Z Z Z fn_147 Z Z (@Q5I N (decide (a0 < a1)) _ hc11) (asK [] Z) Z (H':=[_]) Z ?_
 rintro _ _ _ ⟨rfl,rfl,rfl⟩
 refine wP2 Z<|wP2 Z<|nk2 6 5 Z<|Qm ?_
 obtain rfl:=Zi e
 refine re2 [0] [] results152 Z ⟨Z,Z,Z⟩ Z
theorem w_value_does_6_s {N:Nat} {a0:Int} {a1:Int} {qg0:Nat} {o0:Int} (e:Q9T N a0 a1=some o0):QY prog 153 [.int .i64 a0,.int .i64 a1,.pointer (some ⟨qg0,0,none⟩)] [] [.blk qg0 [.func (.func 147) #[] #[]] 220] (R0 (.tuple #[.int .i64 o0,.bool true]) [] [.blk qg0 [.func (.func 147) #[] #[]] 220]):=by
 unfold Q9T at e
 refine Qt func153 Z ntmps153 Z (S:=V3 ..) Z fun C=>sq<|wP2 Z<|nk3 0 1 2 Z<|sq<|wD 0 0 Z tS_220 tA_220 Z<|wP2 Z<|wP Z ?_
 obtain ⟨v11,hc11,e⟩:=Qy e
 refine Q1B [] [0] Z Z Z Zq Z Z Z fn_147 Z Z (@Q5I N (decide (a0≤a1)) _ hc11) (asK [] Z) Z (H':=[_]) Z ?_
 rintro _ _ _ ⟨rfl,rfl,rfl⟩
 refine wP2 Z<|wP2 Z<|nk2 6 5 Z<|Qm ?_
 obtain rfl:=Zi e
 refine re2 [0] [] results153 Z ⟨Z,Z,Z⟩ Z
theorem w_value_does_7_s {N:Nat} {a0:Int} {a1:Int} {qg0:Nat} {o0:Int} (e:Q9U N a0 a1=some o0):QY prog 154 [.int .i64 a0,.int .i64 a1,.pointer (some ⟨qg0,0,none⟩)] [] [.blk qg0 [.func (.func 147) #[] #[]] 220] (R0 (.tuple #[.int .i64 o0,.bool true]) [] [.blk qg0 [.func (.func 147) #[] #[]] 220]):=by
 unfold Q9U at e
 refine Qt func154 Z ntmps154 Z (S:=V3 ..) Z fun C=>sq<|wP2 Z<|nk3 0 1 2 Z<|sq<|wD 0 0 Z tS_220 tA_220 Z<|wP2 Z<|wP Z ?_
 refine QE e (fun e=>?_) fun e=>?_
 refine wP2 Z<|wP Z ?_
 obtain ⟨v14,hc14,e⟩:=Qy e
 refine Q1B [] [0] Z Z Z Zq Z Z Z fn_147 Z Z (@Q5I N (a1 !=0) _ hc14) (asK [] Z) Z (H':=[_]) Z ?_
 rintro _ _ _ ⟨rfl,rfl,rfl⟩
 refine wP2 Z<|wP2 Z<|nk2 6 5 Z<|Qm ?_
 obtain rfl:=Zi e
 refine re2 [0] [] results154 Z ⟨Z,Z,Z⟩ Z
 refine wO2 Z<|wP Z ?_
 obtain ⟨v14,hc14,e⟩:=Qy e
 refine Q1B [] [0] Z Z Z Zq Z Z Z fn_147 Z Z (@Q5I N false _ hc14) (asK [] Z) Z (H':=[_]) Z ?_
 rintro _ _ _ ⟨rfl,rfl,rfl⟩
 refine wP2 Z<|wP2 Z<|nk2 6 5 Z<|Qm ?_
 obtain rfl:=Zi e
 refine re2 [0] [] results154 Z ⟨Z,Z,Z⟩ Z
theorem w_value_does_8_s {N:Nat} {a0:Int} {a1:Int} {qg0:Nat} {o0:Int} (e:Q9V N a0 a1=some o0):QY prog 155 [.int .i64 a0,.int .i64 a1,.pointer (some ⟨qg0,0,none⟩)] [] [.blk qg0 [.func (.func 147) #[] #[]] 220] (R0 (.tuple #[.int .i64 o0,.bool true]) [] [.blk qg0 [.func (.func 147) #[] #[]] 220]):=by
 unfold Q9V at e
 refine Qt func155 Z ntmps155 Z (S:=V3 ..) Z fun C=>sq<|wP2 Z<|nk3 0 1 2 Z<|sq<|wD 0 0 Z tS_220 tA_220 Z<|wP2 Z<|wP Z ?_
 refine QE e (fun e=>?_) fun e=>?_
 refine wO2 Z<|wP Z ?_
 obtain ⟨v14,hc14,e⟩:=Qy e
 refine Q1B [] [0] Z Z Z Zq Z Z Z fn_147 Z Z (@Q5I N true _ hc14) (asK [] Z) Z (H':=[_]) Z ?_
 rintro _ _ _ ⟨rfl,rfl,rfl⟩
 refine wP2 Z<|wP2 Z<|nk2 6 5 Z<|Qm ?_
 obtain rfl:=Zi e
 refine re2 [0] [] results155 Z ⟨Z,Z,Z⟩ Z
 refine wP2 Z<|wP Z ?_
 obtain ⟨v14,hc14,e⟩:=Qy e
 refine Q1B [] [0] Z Z Z Zq Z Z Z fn_147 Z Z (@Q5I N (a1 !=0) _ hc14) (asK [] Z) Z (H':=[_]) Z ?_
 rintro _ _ _ ⟨rfl,rfl,rfl⟩
 refine wP2 Z<|wP2 Z<|nk2 6 5 Z<|Qm ?_
 obtain rfl:=Zi e
 refine re2 [0] [] results155 Z ⟨Z,Z,Z⟩ Z
theorem w_value_does_9_s {N:Nat} {a0:Int} {a1:Int} {qg0:Nat} {o0:Int} (e:Q9W N a0 a1=some o0):QY prog 156 [.int .i64 a0,.int .i64 a1,.pointer (some ⟨qg0,0,none⟩)] [] [.blk qg0 [.func (.func 147) #[] #[]] 220] (R0 (.tuple #[.int .i64 o0,.bool true]) [] [.blk qg0 [.func (.func 147) #[] #[]] 220]):=by
 unfold Q9W at e
 refine Qt func156 Z ntmps156 Z (S:=V3 ..) Z fun C=>sq<|wP2 Z<|nk2 0 2 Z<|sq<|wD 0 0 Z tS_220 tA_220 Z<|wP2 Z ?_
 obtain ⟨v10,hc10,e⟩:=Qy e
 refine Q1B [] [0] Z Z Z Zq Z Z Z fn_147 Z Z (@Q5I N (a0==0) _ hc10) (asK [] Z) Z (H':=[_]) Z ?_
 rintro _ _ _ ⟨rfl,rfl,rfl⟩
 refine wP2 Z<|wP2 Z<|nk2 6 5 Z<|Qm ?_
 obtain rfl:=Zi e
 refine re2 [0] [] results156 Z ⟨Z,Z,Z⟩ Z
end Go.Proofs.YtbgodclhmgmcgaaGreatDoor
