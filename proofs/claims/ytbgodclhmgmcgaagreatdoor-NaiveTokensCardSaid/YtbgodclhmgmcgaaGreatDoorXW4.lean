import Derived.Test.YtbgodclhmgmcgaaGreatDoorXW3
namespace Go.Proofs.YtbgodclhmgmcgaaGreatDoor
open Tryz
open Go.RowKit
set_option maxRecDepth 100000
set_option maxHeartbeats 4000000
def Q7o (rc:Int→Int→Int→ByteArray→Int→Int→(List Q4)→Int→Option (Bool)):Prop:=∀ (a0:Int)(a1:Int)(a2:Int)(a3:ByteArray)(a4:Int)(a5:Int)(qp0:OA)(qc1:Nat)(l6:List Q4)(a7:Int)(o0:Bool),rc a0 a1 a2 a3 a4 a5 l6 a7=some o0→QY prog 111 [.agg #[.int .u8 a0,.int .u8 a1,.int .i64 a2,.string a3,.int .i64 a4,.int .u8 a5,.slice qp0 l6.length qc1],.int .i64 a7] [.sli 7 Qj qp0 qc1 l6] [] (R0 (.bool o0) [] [])
theorem Qc2 (N:Nat)(rc:Int→Int→Int→ByteArray→Int→Int→(List Q4)→Int→Option (Bool))(ih:Q7o rc)(qp0:OA)(qc1:Nat)(l0:List Q4)(a1:Int)(o0:Bool)(e:Q4c N rc l0 a1=some o0):QY prog 112 [.slice qp0 l0.length qc1,.int .i64 a1] [.sli 7 Qj qp0 qc1 l0] [] (R0 (.bool o0) [] []):=by
 unfold Q4c at e
 refine Qt func112 Z ntmps112 Z (S:=[_,_]) Z fun C=>sq<|wP Z<|nk2 0 1 Z<|Q5<|ks e fun bj_1 e hLj_1=>?_
 refine cut (σ:=Unit) bj_1 (fun _=>(.inl (),[],[],[])) ?_ ?_
 refine sq<|wP Z<|nt<|Qk<|lop (σ:=Nat) (Q39 N l0 rc a1) (fun u1_5=>(u1_5,[(5,.int .i64 (u1_5:Int)),(0,.slice qp0 l0.length qc1),(1,.int .i64 a1)],[.sli 7 Qj qp0 qc1 l0],[])) 0 e [5,0,1] [0] Z fun u1_5 mu1 bu1 e hLu1=>?_
 unfold Q39 at e
 try dsimp only at e ⊢
 refine Q5<|sq<|wP2 Z<|wN Z Q1g<|wP Z<|Qi (Nlt u1_5 l0.length)<|nk4 9 5 0 1 Z ?_
 refine Qs e Z (fun e=>?_) fun e=>?_
 refine k3 5 0 1 Z<|kt<|Q5<|Qk<|sq<|wP2 Z<|kn e fun x14 hx14 e=>wI 0 u1_5 Z hx14 Q1g Q1t fun b14 q14 cs14 hlx14=>Q1i Q1G 1 Z fun r14 er14 _=>?_
 subst er14
 refine wLd 1 0 (V7 ..) Z Q1t Q3z Z<|wP Z<|kn e fun v17 hc17 e=>wC [] [] Z fn_111 Z (ih x14.kind x14.value.k x14.value.n x14.value.s x14.var x14.op r14.1 r14.2 x14.kids a1 _ hc17) (asK [0] Z) Z (H':=[]) Z ?_
 rintro _ _ _ ⟨rfl,rfl,rfl⟩
 refine wP Z<|nk4 18 5 0 1 Z ?_
 refine Qs e Z (fun e=>?_) fun e=>?_
 refine k0 Z<|sq<|wP Z<|nr<|Qg<|Q3<|rb<|Q3 ?_
 obtain rfl:=(Qb hLj_1 (Qb hLu1 (zs e))).symm
 refine re1 [] [] results112 Z ⟨Z,Z,Z⟩ Z
 refine k3 5 0 1 Z<|QT<|Q6<|Qv<|Qe<|wP2 Z<|kg e fun hg11 e=>Qi (QD (a:=u1_5) (b:=1) hg11)<|Qx (S':=V4 ..) Z Z Z Z Z<|Q2 ?_
 refine rnd (u1_5+1) (Qp hLu1 (zs e)) [5,0,1] [3] Z
 refine k0 Z<|QQ<|Q7<|Q7<|Qq ?_
 refine jn () (Qb hLu1 (zs e)) [] [] Z
 rintro _ j
 try dsimp only at j ⊢
 have e:=Qp hLj_1 j
 try dsimp only at e
 refine sq<|wP Z<|nr ?_
 obtain rfl:=Zi e
 refine re1 [] [] results112 Z ⟨Z,Z,Z⟩ Z
theorem QcQ (N:Nat)(rc:Int→Int→Int→ByteArray→Int→Int→(List Q4)→Int→Option (Bool))(ih:Q7o rc):Q7o (Q4Z N rc):=by
 intro a0 a1 a2 a3 a4 a5 qp0 qc1 l6 a7 o0 e
 unfold Q4Z at e
 refine Qt func111 Z ntmps111 Z (S:=[_,_]) Z fun C=>sq<|wB Z fun g2=>wP Z<|nk2 2 1 Z<|sq<|Q1v Z Z Z Zq Z Q1X Q8t Z (out:=V3 ..) Z<|QH Z Z Z Zq Z Q1X Z fun g5=>wS 0 0 Z Qz (all':=V3 ..) Z (H':=[_,_]) Z<|nk3 5 2 1 Z<|Q5<|sq<|wF Z Qcz<|wD 1 0 Z tS_61 tA_61 Z<|nk4 9 5 2 1 Z<|Qk<|sq<|wP2 Z<|nk5 10 9 5 2 1 Z ?_
 refine Qs e Z (fun e=>?_) fun e=>?_
 refine k1 2 Z<|Q5<|kn e fun aB e hLj_1=>?_
 unfold Q7V at e
 refine cut (σ:=Bool) aB (fun a8=>(a8,[(4,.bool a8)],[],[])) ?_ ?_
 refine Qe<|wF Z Qaw<|wM 1 1 (V3 ..) Z Qz Q17 Z<|kn e fun aM aC e=>c0 [] [0,1] Z fn_72 aC Q4E [] [_,_] Z<|wP Z ?_
 refine QE e (fun e=>?_) fun e=>?_
 refine wF Z Q7g<|wD 1 4 Z QV Q13 Z<|wP2 Z<|wP Z ?_
 refine QE e (fun e=>?_) fun e=>?_
 refine wF Z Q6S<|wD 1 5 Z Qa2 Qa0 Z<|wP2 Z<|wP Z ?_
 refine QE e (fun e=>?_) fun e=>?_
 refine wF Z Q60<|wD 1 6 Z Q4k Q4M Z<|wN Z Q1g<|wP Z<|Qi (Neq l6.length 0)<|wP2 Z<|Q2<|Qo [] Z (H':=[]) Z ?_
 refine jM (l6.length==0) e [4] [] Z
 refine wO4 Z<|wP2 Z<|Q2<|Qo [] Z (H':=[]) Z ?_
 refine jM false e [4] [] Z
 refine wO2 Z<|wO Z<|wP2 Z<|wO4 Z<|wP2 Z<|Q2<|Qo [] Z (H':=[]) Z ?_
 refine jM false e [4] [] Z
 refine wO2 Z<|wO Z<|wP2 Z<|wO2 Z<|wO Z<|wP2 Z<|wO4 Z<|wP2 Z<|Q2<|Qo [] Z (H':=[]) Z ?_
 refine jM false e [4] [] Z
 rintro a8 j
 try dsimp only at j ⊢
 have e:=hLj_1
 try rw [j] at e
 refine Qm<|Qg<|Q3 ?_
 obtain rfl:=Zi e
 refine re1 [] [] results111 Z ⟨Z,Z,Z⟩ Z
 refine k4 9 5 2 1 Z<|sq<|wP2 Z<|nk5 31 9 5 2 1 Z ?_
 refine Qs e Z (fun e=>?_) fun e=>?_
 refine k3 5 2 1 Z<|Q5<|kn e fun aD e hLj_2=>?_
 unfold Q7W at e
 refine cut (σ:=Bool) aD (fun a9=>(a9,[(4,.bool a9)],[],[])) ?_ ?_
 refine Qe<|wF Z Qaw<|wM 1 1 (V3 ..) Z Qz Q17 Z<|wM 0 0 (V3 ..) Z Qz Q17 Z<|Q9g Z Z Z Zq Z Z Z (eqlV _ _ (⟨a1,a2,a3⟩ : V) (⟨0,0,EB⟩ : V))<|wP Z ?_
 refine QE e (fun e=>?_) fun e=>?_
 refine wF Z Q7g<|wD 1 4 Z QV Q13 Z<|wP2 Z<|wP Z ?_
 refine QE e (fun e=>?_) fun e=>?_
 refine wF Z Q7g<|wD 1 4 Z QV Q13 Z<|wP2 Z<|wP2 Z ?_
 refine QE e (fun e=>?_) fun e=>?_
 refine wF Z Q6S<|wD 1 5 Z Qa2 Qa0 Z<|wP2 Z<|wP Z ?_
 refine QE e (fun e=>?_) fun e=>?_
 refine wF Z Q60<|wD 1 6 Z Q4k Q4M Z<|wN Z Q1g<|wP Z<|Qi (Neq l6.length 0)<|wP2 Z<|Q2<|Qo [] Z (H':=[]) Z ?_
 refine jM (l6.length==0) e [4] [] Z
 refine wO4 Z<|wP2 Z<|Q2<|Qo [] Z (H':=[]) Z ?_
 refine jM false e [4] [] Z
 refine wO2 Z<|wO Z<|wP2 Z<|wO4 Z<|wP2 Z<|Q2<|Qo [] Z (H':=[]) Z ?_
 refine jM false e [4] [] Z
 refine wO4 Z<|wP2 Z<|wO2 Z<|wO Z<|wP2 Z<|wO4 Z<|wP2 Z<|Q2<|Qo [] Z (H':=[]) Z ?_
 refine jM false e [4] [] Z
 refine wO2 Z<|wO Z<|wP2 Z<|wO4 Z<|wP2 Z<|wO2 Z<|wO Z<|wP2 Z<|wO4 Z<|wP2 Z<|Q2<|Qo [] Z (H':=[]) Z ?_
 refine jM false e [4] [] Z
 rintro a9 j
 try dsimp only at j ⊢
 have e:=hLj_2
 try rw [j] at e
 refine Qm<|Qg<|Q3 ?_
 obtain rfl:=Zi e
 refine re1 [] [] results111 Z ⟨Z,Z,Z⟩ Z
 refine k4 9 5 2 1 Z<|sq<|wP2 Z<|nk4 59 5 2 1 Z ?_
 refine Qs e Z (fun e=>?_) fun e=>?_
 refine k3 5 2 1 Z<|sq<|wP Z<|nt<|Q5<|kn e fun aE e hLj_3=>?_
 unfold Q6c at e
 refine cut (σ:=Nat) aE (fun z=>(z,[(5,.pointer (some ⟨g5,0,none⟩)),(2,.pointer (some ⟨g2,0,none⟩)),(1,.int .i64 a7),(6,.int .i64 (z:Int))],[.sli 7 Qj qp0 qc1 l6],[.blk g5 [.int .u8 0,.int .i64 0,.string EB] 57,.blk g2 [.int .u8 a0,.int .u8 a1,.int .i64 a2,.string a3,.int .i64 a4,.int .u8 a5,.slice qp0 l6.length qc1] 65])) ?_ ?_
 refine Q5<|kn e fun aF e hLj_4=>?_
 refine cut (σ:=Bool) aF (fun a6=>(a6,[(5,.pointer (some ⟨g5,0,none⟩)),(2,.pointer (some ⟨g2,0,none⟩)),(1,.int .i64 a7),(6,.int .i64 2),(68,.bool a6)],[.sli 7 Qj qp0 qc1 l6],[.blk g5 [.int .u8 0,.int .i64 0,.string EB] 57,.blk g2 [.int .u8 a0,.int .u8 a1,.int .i64 a2,.string a3,.int .i64 a4,.int .u8 a5,.slice qp0 l6.length qc1] 65])) ?_ ?_
 refine Qe<|wF Z Q6S<|wD 1 5 Z Qa2 Qa0 Z<|wP2 Z ?_
 refine QE e (fun e=>?_) fun e=>?_
 refine wO2 Z<|wO Z<|wP Z<|Q2 ?_
 refine jM true e [5,2,1,6,68] [0] Z
 refine wF Z Q6S<|wD 1 5 Z Qa2 Qa0 Z<|wP2 Z<|Q2 ?_
 refine jM (a5==11) e [5,2,1,6,68] [0] Z
 rintro a6 j
 try dsimp only at j ⊢
 have e:=hLj_4
 try rw [j] at e
 refine Qs e Z (fun e=>?_) fun e=>?_
 refine k3 5 2 1 Z<|Qe<|wP Z<|Q2 ?_
 refine jM 1 e [5,2,1,6] [0] Z
 refine k4 5 2 1 6 Z<|QT ?_
 refine jM 2 e [5,2,1,6] [0] Z
 rintro z j
 try dsimp only at j ⊢
 have e:=hLj_3
 try rw [j] at e
 refine Q5<|kn e fun aG e hLj_5=>?_
 unfold Q7X at e
 refine cut (σ:=Bool) aG (fun aA=>(aA,[(4,.bool aA)],[],[])) ?_ ?_
 refine Qe<|wF Z Qaw<|wM 1 1 (V3 ..) Z Qz Q17 Z<|wM 0 0 (V3 ..) Z Qz Q17 Z<|Q9g Z Z Z Zq Z Z Z (eqlV _ _ (⟨a1,a2,a3⟩ : V) (⟨0,0,EB⟩ : V))<|wP Z ?_
 refine QE e (fun e=>?_) fun e=>?_
 refine wF Z Q7g<|wD 1 4 Z QV Q13 Z<|wP2 Z<|wP Z ?_
 refine QE e (fun e=>?_) fun e=>?_
 refine wF Z Q6S<|wD 1 5 Z Qa2 Qa0 Z<|wP2 Z<|wP Z ?_
 refine QE e (fun e=>?_) fun e=>?_
 refine wF Z Q6S<|wD 1 5 Z Qa2 Qa0 Z<|wP2 Z<|wP Z ?_
 refine QE e (fun e=>?_) fun e=>?_
 refine wF Z Q60<|wD 1 6 Z Q4k Q4M Z<|wN Z Q1g<|wP2 Z<|Qi (Neq l6.length z)<|wP2 Z ?_
 refine QE e (fun e=>?_) fun e=>?_
 refine wF Z Q60<|wD 1 6 Z Q4k Q4M Z<|wP Z<|kn e fun aL aH e=>wC [] [0,1] Z fn_112 Z (Qc2 N rc ih qp0 qc1 l6 a7 _ aH) (asK [0] Z) Z (H':=[_,_]) Z ?_
 rintro _ _ _ ⟨rfl,rfl,rfl⟩
 refine wP2 Z<|Q2<|Qo [] Z (H':=[]) Z ?_
 refine jM aL e [4] [] Z
 refine wO4 Z<|wP2 Z<|Q2<|Qo [] Z (H':=[]) Z ?_
 refine jM false e [4] [] Z
 refine wO4 Z<|wO Z<|wP2 Z<|wO4 Z<|wP2 Z<|Q2<|Qo [] Z (H':=[]) Z ?_
 refine jM false e [4] [] Z
 refine wO2 Z<|wO Z<|wP2 Z<|wO4 Z<|wO Z<|wP2 Z<|wO4 Z<|wP2 Z<|Q2<|Qo [] Z (H':=[]) Z ?_
 refine jM false e [4] [] Z
 refine wO2 Z<|wO Z<|wP2 Z<|wO2 Z<|wO Z<|wP2 Z<|wO4 Z<|wO Z<|wP2 Z<|wO4 Z<|wP2 Z<|Q2<|Qo [] Z (H':=[]) Z ?_
 refine jM false e [4] [] Z
 refine wO2 Z<|wO Z<|wP2 Z<|wO2 Z<|wO Z<|wP2 Z<|wO2 Z<|wO Z<|wP2 Z<|wO4 Z<|wO Z<|wP2 Z<|wO4 Z<|wP2 Z<|Q2<|Qo [] Z (H':=[]) Z ?_
 refine jM false e [4] [] Z
 rintro aA j
 try dsimp only at j ⊢
 have e:=hLj_5
 try rw [j] at e
 refine Qm<|Qg<|Q3 ?_
 obtain rfl:=Zi e
 refine re1 [] [] results111 Z ⟨Z,Z,Z⟩ Z
 refine k0 Z<|QT<|Q6<|Qv<|sq<|wP Z<|nr ?_
 obtain rfl:=Zi e
 refine re1 [] [] results111 Z ⟨Z,Z,Z⟩ Z
theorem Qa4 : ∀ (N:Nat),Q7o (Q2w N):=by
 intro N
 induction N with
 | zero=>intro a0 a1 a2 a3 a4 a5 qp0 qc1 l6 a7 o0 e;cases e
 | succ N ih=>exact QcQ N (Q2w N) ih
theorem Q9I {N qc1:Nat} {qp0:OA} {l0:List Q4} {a1:Int} {o0:Bool} (e:Q3Y N l0 a1=some o0):QY prog 112 [.slice qp0 l0.length qc1,.int .i64 a1] [.sli 7 Qj qp0 qc1 l0] [] (R0 (.bool o0) [] []):=by
 unfold Q3Y at e
 refine Qt func112 Z ntmps112 Z (S:=[_,_]) Z fun C=>sq<|wP Z<|nk2 0 1 Z<|Q5<|ks e fun bj_1 e hLj_1=>?_
 refine cut (σ:=Unit) bj_1 (fun _=>(.inl (),[],[],[])) ?_ ?_
 refine sq<|wP Z<|nt<|Qk<|lop (σ:=Nat) (Q4b N l0 a1) (fun u1_5=>(u1_5,[(5,.int .i64 (u1_5:Int)),(0,.slice qp0 l0.length qc1),(1,.int .i64 a1)],[.sli 7 Qj qp0 qc1 l0],[])) 0 e [5,0,1] [0] Z fun u1_5 mu1 bu1 e hLu1=>?_
 unfold Q4b at e
 try dsimp only at e ⊢
 refine Q5<|sq<|wP2 Z<|wN Z Q1g<|wP Z<|Qi (Nlt u1_5 l0.length)<|nk4 9 5 0 1 Z ?_
 refine Qs e Z (fun e=>?_) fun e=>?_
 refine k3 5 0 1 Z<|kt<|Q5<|Qk<|sq<|wP2 Z<|kn e fun x14 hx14 e=>wI 0 u1_5 Z hx14 Q1g Q1t fun b14 q14 cs14 hlx14=>Q1i Q1G 1 Z fun r14 er14 _=>?_
 subst er14
 refine wLd 1 0 (V7 ..) Z Q1t Q3z Z<|wP Z<|kn e fun v17 hc17 e=>wC [] [] Z fn_111 Z (Qa4 N x14.kind x14.value.k x14.value.n x14.value.s x14.var x14.op r14.1 r14.2 x14.kids a1 _ hc17) (asK [0] Z) Z (H':=[]) Z ?_
 rintro _ _ _ ⟨rfl,rfl,rfl⟩
 refine wP Z<|nk4 18 5 0 1 Z ?_
 refine Qs e Z (fun e=>?_) fun e=>?_
 refine k0 Z<|sq<|wP Z<|nr<|Qg<|Q3<|rb<|Q3 ?_
 obtain rfl:=(Qb hLj_1 (Qb hLu1 (zs e))).symm
 refine re1 [] [] results112 Z ⟨Z,Z,Z⟩ Z
 refine k3 5 0 1 Z<|QT<|Q6<|Qv<|Qe<|wP2 Z<|kg e fun hg11 e=>Qi (QD (a:=u1_5) (b:=1) hg11)<|Qx (S':=V4 ..) Z Z Z Z Z<|Q2 ?_
 refine rnd (u1_5+1) (Qp hLu1 (zs e)) [5,0,1] [3] Z
 refine k0 Z<|QQ<|Q7<|Q7<|Qq ?_
 refine jn () (Qb hLu1 (zs e)) [] [] Z
 rintro _ j
 try dsimp only at j ⊢
 have e:=Qp hLj_1 j
 try dsimp only at e
 refine sq<|wP Z<|nr ?_
 obtain rfl:=Zi e
 refine re1 [] [] results112 Z ⟨Z,Z,Z⟩ Z
theorem QdC {N qc1 qc3 qc5:Nat} {qp0 qp2 qp4:OA} {l0:List Q8} {a1:ByteArray} {a2 a3:Int} {l4:List Qn} {l5:List QO} {o0:Bool} (e:Q69 N l0 a1 a2 a3 l4 l5=some o0):QY prog 71 [.slice qp0 l0.length qc1,.agg #[.string a1,.int .i64 a2,.int .i64 a3,.slice qp2 l4.length qc3,.slice qp4 l5.length qc5]] [.sli 2 Qd qp0 qc1 l0,.sli 10 QB qp2 qc3 l4,.sli 4 QF qp4 qc5 l5] [] (R0 (.bool o0) [] []):=by
 unfold Q69 at e
 refine Qt func71 Z ntmps71 Z (S:=[_,_]) Z fun C=>sq<|wB Z fun g3=>wP Z<|nk2 3 0 Z<|Q5<|Q5<|kn e fun aX e hLj_1=>?_
 unfold Q6d at e
 refine cut (σ:=Bool) aX (fun aG=>(aG,[(3,.pointer (some ⟨g3,0,none⟩)),(0,.slice qp0 l0.length qc1),(40,.bool aG)],[.sli 10 QB qp2 qc3 l4,.sli 4 QF qp4 qc5 l5,.sli 2 Qd qp0 qc1 l0],[.blk g3 [.string a1,.int .i64 a2,.int .i64 a3,.slice qp2 l4.length qc3,.slice qp4 l5.length qc5] 52])) ?_ ?_
 refine Qe<|wF Z Qba<|wD 0 0 Z tS_9 tA_9 Z<|kn e fun bW aY e=>c0 [] [0] Z fn_70 aY Q85 [] [_] Z<|wP2 Z ?_
 refine QE e (fun e=>?_) fun e=>?_
 refine wO2 Z<|wO Z<|wP2 Z<|wO2 Z<|wO Z<|wP2 Z<|wO4 Z<|wP2 Z<|wO4 Z<|wP Z<|Q2 ?_
 refine jM true e [3,0,40] [1,2,0] Z
 refine wF Z tF_52_1<|wD 0 1 Z QV Q13 Z<|wP2 Z<|wP Z ?_
 refine QE e (fun e=>?_) fun e=>?_
 refine wO2 Z<|wO Z<|wP2 Z<|wO4 Z<|wP2 Z<|wO4 Z<|wP Z<|Q2 ?_
 refine jM true e [3,0,40] [1,2,0] Z
 refine wF Z tF_52_1<|wD 0 1 Z QV Q13 Z<|wP2 Z<|wP Z ?_
 refine QE e (fun e=>?_) fun e=>?_
 refine wO4 Z<|wP2 Z<|wO4 Z<|wP Z<|Q2 ?_
 refine jM true e [3,0,40] [1,2,0] Z
 refine wF Z Q6R<|wD 0 3 Z Qa1 Qaa Z<|wN Z Q4d<|wP Z<|Qi (Ngt l4.length 8)<|wP2 Z ?_
 refine QE e (fun e=>?_) fun e=>?_
 refine wO4 Z<|wP Z<|Q2 ?_
 refine jM true e [3,0,40] [1,2,0] Z
 refine wF Z Q8G<|wD 0 4 Z QcB tA_50 Z<|wN Z Q5e<|wP Z<|Qi (Ngt l5.length 8)<|wP Z<|Q2 ?_
 refine jM (decide (8 < l5.length)) e [3,0,40] [1,2,0] Z
 rintro aG j
 try dsimp only at j ⊢
 have e:=hLj_1
 try rw [j] at e
 refine Qs e Z (fun e=>?_) fun e=>?_
 refine k0 Z<|sq<|wP Z<|nr<|Q3 ?_
 obtain rfl:=Zi e
 refine re1 [] [] results71 Z ⟨Z,Z,Z⟩ Z
 refine k2 3 0 Z<|kt<|sq<|wP2 Z<|nt<|Q5<|ks e fun aZ e hLj_2=>?_
 refine cut (σ:=Int×Nat) aZ (fun (aA,aB)=>(.inl (aA,aB),[(3,.pointer (some ⟨g3,0,none⟩)),(0,.slice qp0 l0.length qc1),(5,.int .i64 aA),(6,.int .i64 (aB:Int))],[.sli 10 QB qp2 qc3 l4,.sli 4 QF qp4 qc5 l5,.sli 2 Qd qp0 qc1 l0],[.blk g3 [.string a1,.int .i64 a2,.int .i64 a3,.slice qp2 l4.length qc3,.slice qp4 l5.length qc5] 52])) ?_ ?_
 refine sq<|wP Z<|nt<|Qk<|lop (σ:=Nat×Nat×Int) (Q2k N l4 l0) (fun (a6,a7,a9)=>((a6,a7,a9),[(7,.int .i64 (a6:Int)),(6,.int .i64 (a7:Int)),(5,.int .i64 a9),(3,.pointer (some ⟨g3,0,none⟩)),(0,.slice qp0 l0.length qc1)],[.sli 10 QB qp2 qc3 l4,.sli 4 QF qp4 qc5 l5,.sli 2 Qd qp0 qc1 l0],[.blk g3 [.string a1,.int .i64 a2,.int .i64 a3,.slice qp2 l4.length qc3,.slice qp4 l5.length qc5] 52])) (0,0,0) e [7,6,5,3,0] [0,1,2] Z fun s_ bX bY e hLu1=>?_
 obtain ⟨a6,a7,a9⟩:=s_
 unfold Q2k at e
 try dsimp only at e ⊢
 refine Q5<|sq<|wP Z<|wF Z Q6R<|wD 0 3 Z Qa1 Qaa Z<|wN Z Q4d<|wP Z<|Qi (Nlt a6 l4.length)<|nk6 45 7 6 5 3 0 Z ?_
 refine Qs e Z (fun e=>?_) fun e=>?_
 refine k5 7 6 5 3 0 Z<|kt<|Q5<|ks e fun b0 e hLj_3=>?_
 unfold Q6e at e
 refine cut (σ:=Nat×Int) b0 (fun (aH,aI)=>(.inl (aH,aI),[(7,.int .i64 (a6:Int)),(6,.int .i64 (aH:Int)),(5,.int .i64 aI),(3,.pointer (some ⟨g3,0,none⟩)),(0,.slice qp0 l0.length qc1)],[.sli 10 QB qp2 qc3 l4,.sli 4 QF qp4 qc5 l5,.sli 2 Qd qp0 qc1 l0],[.blk g3 [.string a1,.int .i64 a2,.int .i64 a3,.slice qp2 l4.length qc3,.slice qp4 l5.length qc5] 52])) ?_ ?_
 refine Qk<|sq<|wF Z Q6R<|wD 0 3 Z Qa1 Qaa Z<|wP Z<|kn e fun a0 b1 e=>wI 0 a6 Z b1 Q4d Q3Q fun bZ c5 bQ bL=>Q1i Q33 1 Z fun a5 b2 _=>?_
 subst b2
 refine wLd 2 0 (V10 ..) Z Q3Q Q9b Z<|QH Z Z Z Zq Z tZ_67 Z fun g8=>wS 0 0 Z Q3Q (all':=V10 ..) Z (H':=[_,_]) Z<|nk6 8 7 6 5 3 0 Z<|sq<|wF Z Q8H<|wD 0 0 Z QcC Qcw Z<|nk7 54 8 7 6 5 3 0 Z<|Qk<|Q5<|kn e fun b3 e hLj_4=>?_
 refine cut (σ:=Bool) b3 (fun aJ=>(aJ,[(54,.int .u8 (a0.kind)),(8,.pointer (some ⟨g8,0,none⟩)),(7,.int .i64 (a6:Int)),(6,.int .i64 (a7:Int)),(5,.int .i64 a9),(3,.pointer (some ⟨g3,0,none⟩)),(0,.slice qp0 l0.length qc1),(55,.bool aJ)],[.sli 5 Q1p a5.1.1 a5.1.2 a0.args,.sli 7 Qj a5.2.1 a5.2.2 a0.test.kids,.sli 10 QB qp2 qc3 l4,.sli 4 QF qp4 qc5 l5,.sli 2 Qd qp0 qc1 l0],[.blk g8 [.int .u8 (a0.kind),.int .i64 (a0.type),.slice a5.1.1 a0.args.length a5.1.2,.int .u8 (a0.test.kind),.int .u8 (a0.test.value.k),.int .i64 (a0.test.value.n),.string a0.test.value.s,.int .i64 (a0.test.var),.int .u8 (a0.test.op),.slice a5.2.1 a0.test.kids.length a5.2.2] 67,.blk g3 [.string a1,.int .i64 a2,.int .i64 a3,.slice qp2 l4.length qc3,.slice qp4 l5.length qc5] 52])) ?_ ?_
 refine sq<|wP2 Z<|nk8 55 54 8 7 6 5 3 0 Z ?_
 refine Qs e Z (fun e=>?_) fun e=>?_
 refine QT ?_
 refine jM (a0.kind==1) e [54,8,7,6,5,3,0,55] [0,1,4,5,6] Z
 refine k7 54 8 7 6 5 3 0 Z<|Qe<|wP2 Z<|Q2 ?_
 refine jM (a0.kind==2) e [54,8,7,6,5,3,0,55] [0,1,4,5,6] Z
 rintro aJ j
 try dsimp only at j ⊢
 have e:=hLj_4
 try rw [j] at e
 refine Qs e Z (fun e=>?_) fun e=>?_
 refine k6 8 7 6 5 3 0 Z<|Q5<|Q5<|kn e fun b4 e hLj_5=>?_
 refine cut (σ:=Bool) b4 (fun aK=>(aK,[(8,.pointer (some ⟨g8,0,none⟩)),(7,.int .i64 (a6:Int)),(6,.int .i64 (a7:Int)),(5,.int .i64 a9),(3,.pointer (some ⟨g3,0,none⟩)),(0,.slice qp0 l0.length qc1),(71,.bool aK)],[.sli 5 Q1p a5.1.1 a5.1.2 a0.args,.sli 7 Qj a5.2.1 a5.2.2 a0.test.kids,.sli 10 QB qp2 qc3 l4,.sli 4 QF qp4 qc5 l5,.sli 2 Qd qp0 qc1 l0],[.blk g8 [.int .u8 (a0.kind),.int .i64 (a0.type),.slice a5.1.1 a0.args.length a5.1.2,.int .u8 (a0.test.kind),.int .u8 (a0.test.value.k),.int .i64 (a0.test.value.n),.string a0.test.value.s,.int .i64 (a0.test.var),.int .u8 (a0.test.op),.slice a5.2.1 a0.test.kids.length a5.2.2] 67,.blk g3 [.string a1,.int .i64 a2,.int .i64 a3,.slice qp2 l4.length qc3,.slice qp4 l5.length qc5] 52])) ?_ ?_
 refine Qe<|wP Z<|wF Z QcA<|wD 0 1 Z QV Q13 Z<|wF Z Q7h<|wD 0 2 Z Qad QaD Z<|wN Z Q4O<|kn e fun c7 b5 e=>c0 [] [0,1] Z fn_108 b5 Q9q [4] [_,_] Z<|wP2 Z ?_
 refine QE e (fun e=>?_) fun e=>?_
 refine wO4 Z<|wP Z<|Q2 ?_
 refine jM true e [8,7,6,5,3,0,71] [0,1,2,3,4] Z
 refine wF Z Q8I<|wM 0 3 (V7 ..) Z Q1t Q3z Z<|kn e fun bM b6 e=>c0 [] [0,1] Z fn_109 b6 QdD [1] [_,_] Z<|wP2 Z<|Q2 ?_
 refine jM (!bM) e [8,7,6,5,3,0,71] [0,1,2,3,4] Z
 rintro aK j
 try dsimp only at j ⊢
 have e:=hLj_5
 try rw [j] at e
 refine Qs e Z (fun e=>?_) fun e=>?_
 refine k0 Z<|sq<|wP Z<|nr<|rb<|Qg<|Q3<|rb<|Q3 ?_
 obtain rfl:=(Qb hLj_2 (Qb hLu1 (Qb hLj_3 (zs e)))).symm
 refine re1 [] [] results71 Z ⟨Z,Z,Z⟩ Z
 refine k6 8 7 6 5 3 0 Z<|kt<|Q5<|ks e fun b7 e hLj_6=>?_
 refine cut (σ:=Int) b7 (fun aD=>(.inl aD,[(8,.pointer (some ⟨g8,0,none⟩)),(7,.int .i64 (a6:Int)),(6,.int .i64 (a7:Int)),(5,.int .i64 aD),(3,.pointer (some ⟨g3,0,none⟩)),(0,.slice qp0 l0.length qc1)],[.sli 5 Q1p a5.1.1 a5.1.2 a0.args,.sli 7 Qj a5.2.1 a5.2.2 a0.test.kids,.sli 10 QB qp2 qc3 l4,.sli 4 QF qp4 qc5 l5,.sli 2 Qd qp0 qc1 l0],[.blk g8 [.int .u8 (a0.kind),.int .i64 (a0.type),.slice a5.1.1 a0.args.length a5.1.2,.int .u8 (a0.test.kind),.int .u8 (a0.test.value.k),.int .i64 (a0.test.value.n),.string a0.test.value.s,.int .i64 (a0.test.var),.int .u8 (a0.test.op),.slice a5.2.1 a0.test.kids.length a5.2.2] 67,.blk g3 [.string a1,.int .i64 a2,.int .i64 a3,.slice qp2 l4.length qc3,.slice qp4 l5.length qc5] 52])) ?_ ?_
 refine sq<|wP Z<|nt<|Qk<|lop (σ:=Nat×Int) (Q2l N a0) (fun (aE,aN)=>((aE,aN),[(9,.int .i64 (aE:Int)),(8,.pointer (some ⟨g8,0,none⟩)),(7,.int .i64 (a6:Int)),(6,.int .i64 (a7:Int)),(5,.int .i64 aN),(3,.pointer (some ⟨g3,0,none⟩)),(0,.slice qp0 l0.length qc1)],[.sli 5 Q1p a5.1.1 a5.1.2 a0.args,.sli 7 Qj a5.2.1 a5.2.2 a0.test.kids,.sli 10 QB qp2 qc3 l4,.sli 4 QF qp4 qc5 l5,.sli 2 Qd qp0 qc1 l0],[.blk g8 [.int .u8 (a0.kind),.int .i64 (a0.type),.slice a5.1.1 a0.args.length a5.1.2,.int .u8 (a0.test.kind),.int .u8 (a0.test.value.k),.int .i64 (a0.test.value.n),.string a0.test.value.s,.int .i64 (a0.test.var),.int .u8 (a0.test.op),.slice a5.2.1 a0.test.kids.length a5.2.2] 67,.blk g3 [.string a1,.int .i64 a2,.int .i64 a3,.slice qp2 l4.length qc3,.slice qp4 l5.length qc5] 52])) (0,a9) e [9,8,7,6,5,3,0] [0,1,2,3,4] Z fun s_ c8 c9 e hLu2=>?_
 obtain ⟨aE,aN⟩:=s_
 unfold Q2l at e
 try dsimp only at e ⊢
 refine Q5<|sq<|wP Z<|wF Z Q7h<|wD 0 2 Z Qad QaD Z<|wN Z Q4O<|wP Z<|Qi (Nlt aE a0.args.length)<|nk8 76 9 8 7 6 5 3 0 Z ?_
 refine Qs e Z (fun e=>?_) fun e=>?_
 refine k7 9 8 7 6 5 3 0 Z<|kt<|Q5<|Qk<|Q5<|kn e fun cA b8 e=>?_
 obtain ⟨⟨aP,bN⟩,b9,e⟩:=Qy e
 try dsimp only at e
 refine QG [0,1,2,3,4,5,6,7,8,10,11,12] Z Z fun z=>xF z 0 Z Q7h<|xD z 1 0 2 Z Qad QaD Z<|xP z 2 Z<|xI z 3 0 aE Z b8 Q4O Q7i fun cB cC bR bO=>QJ Q5P 1 Z fun cD bA _=>?_
 subst bA
 refine xL z 4 0 0 (V5 ..) Z Q7i tA_59 Z<|xP z 5 Z<|xF z 6 Z Q8H<|xD z 7 0 0 Z QcC Qcw Z<|xP z 8 Z<|xS z 9 Z<|c0 [] [0,1] Z fn_110 b9 QdN [] [_,_] Z<|Q2<|wxx 0 [0,0] Z<|xP2 z 10 Z<|xP z 12 Z<|xS z 13 Z<|wP Z<|Q2<|wxx 0 [] Z<|xS z 14 Z<|wP Z<|Q2<|wxx 0 [] Z<|Qu z Z<|Qv<|k8 11 10 9 8 7 6 3 0 Z<|Q5<|sq ?_
 refine wP2 Z<|nk8 93 10 9 8 7 6 3 0 Z ?_
 refine Qs e Z (fun e=>?_) fun e=>?_
 refine k0 Z<|sq<|wP Z<|nr<|rb<|Q3<|rb<|rb<|Qg<|Q3<|rb<|Q3 ?_
 obtain rfl:=(Qb hLj_2 (Qb hLu1 (Qb hLj_3 (Qb hLj_6 (Qb hLu2 (zs e)))))).symm
 refine re1 [] [] results71 Z ⟨Z,Z,Z⟩ Z
 refine k7 10 9 8 7 6 3 0 Z<|kt<|Qe<|wP2 Z<|Q2<|Q6<|Qv<|k7 5 9 8 7 6 3 0 Z<|Qe<|wP2 Z<|kg e fun bB e=>Qi (QD (a:=aE) (b:=1) bB)<|Qx (S':=V8 ..) Z Z Z Z Z<|Q2 ?_
 refine rnd (aE+1,aP) (Qp hLu2 (zs e)) [9,8,7,6,5,3,0] [2,3,4,5,6] Z
 refine k6 8 7 6 5 3 0 Z<|QQ<|Q7<|Q7<|Qq ?_
 refine jn aN (Qb hLu2 (zs e)) [8,7,6,5,3,0] [0,1,2,3,4] Z
 rintro aD j
 try dsimp only at j ⊢
 have e:=Qp hLj_6 j
 refine sq<|wF Z Q8H<|wD 0 0 Z QcC Qcw Z<|wP Z<|nk6 97 7 6 5 3 0 Z ?_
 refine Qs e Z (fun e=>?_) fun e=>?_
 refine k5 7 6 5 3 0 Z<|Qe<|wP2 Z<|kg e fun bC e=>Qi (QD (a:=a7) (b:=1) bC)<|Qx (S':=V6 ..) Z Z Z Z Z<|Q2<|Q6<|Q6<|Qo [1] Z (H':=[_]) Z ?_
 refine jM (a7+1,aD) e [7,6,5,3,0] [2,3,4] Z
 refine k5 7 6 5 3 0 Z<|QT<|Q6<|Q6<|Qo [1] Z (H':=[_]) Z ?_
 refine jM (a7,aD) e [7,6,5,3,0] [2,3,4] Z
 refine k7 54 8 7 6 5 3 0 Z<|sq<|wP2 Z<|nk7 100 8 7 6 5 3 0 Z ?_
 refine Qs e Z (fun e=>?_) fun e=>?_
 refine k6 8 7 6 5 3 0 Z<|Q5<|kn e fun bD e hLj_7=>?_
 unfold Q6f at e
 refine cut (σ:=Bool) bD (fun aF=>(aF,[(7,.int .i64 (a6:Int)),(6,.int .i64 (a7:Int)),(5,.int .i64 a9),(3,.pointer (some ⟨g3,0,none⟩)),(0,.slice qp0 l0.length qc1),(117,.bool aF)],[.sli 10 QB qp2 qc3 l4,.sli 4 QF qp4 qc5 l5,.sli 2 Qd qp0 qc1 l0],[.blk g3 [.string a1,.int .i64 a2,.int .i64 a3,.slice qp2 l4.length qc3,.slice qp4 l5.length qc5] 52])) ?_ ?_
 refine Qe<|wF Z QcA<|wD 0 1 Z QV Q13 Z<|wP2 Z ?_
 refine QE e (fun e=>?_) fun e=>?_
 refine wO4 Z<|wP2 Z<|wO4 Z<|wO Z<|wP Z<|Q2<|Qo [1] Z (H':=[_]) Z ?_
 refine jM true e [7,6,5,3,0,117] [2,3,4] Z
 refine wF Z Q7h<|wD 0 2 Z Qad QaD Z<|wN Z Q4O<|wP Z<|Qi (Nne a0.args.length 0)<|wP2 Z ?_
 refine QE e (fun e=>?_) fun e=>?_
 refine wO4 Z<|wO Z<|wP Z<|Q2<|Qo [1] Z (H':=[_]) Z ?_
 refine jM true e [7,6,5,3,0,117] [2,3,4] Z
 refine wF Z Q8I<|wM 0 3 (V7 ..) Z Q1t Q3z Z<|wP Z<|kn e fun bE aQ e=>wC [] [0,1] Z fn_111 Z (Qa4 N a0.test.kind a0.test.value.k a0.test.value.n a0.test.value.s a0.test.var a0.test.op a5.2.1 a5.2.2 a0.test.kids a9 _ aQ) (asK [1] Z) Z (H':=[_,_]) Z ?_
 rintro _ _ _ ⟨rfl,rfl,rfl⟩
 refine wP2 Z<|Q2<|Qo [1] Z (H':=[_]) Z ?_
 refine jM (!bE) e [7,6,5,3,0,117] [2,3,4] Z
 rintro aF j
 try dsimp only at j ⊢
 have e:=hLj_7
 try rw [j] at e
 refine Qs e Z (fun e=>?_) fun e=>?_
 refine k0 Z<|sq<|wP Z<|nr<|Qg<|Qg<|Q3<|rb<|Q3 ?_
 obtain rfl:=(Qb hLj_2 (Qb hLu1 (Qb hLj_3 (zs e)))).symm
 refine re1 [] [] results71 Z ⟨Z,Z,Z⟩ Z
 refine k5 7 6 5 3 0 Z<|QT<|Q6<|Q6 ?_
 refine jM (a7,a9) e [7,6,5,3,0] [0,1,2] Z
 refine k0 Z<|sq<|wP Z<|nr<|Qg<|Qg<|Q3<|rb<|Q3 ?_
 obtain rfl:=(Qb hLj_2 (Qb hLu1 (Qb hLj_3 (zs e)))).symm
 refine re1 [] [] results71 Z ⟨Z,Z,Z⟩ Z
 rintro ⟨aH,aI⟩ j
 try dsimp only at j ⊢
 have e:=Qp hLj_3 j
 try dsimp only at e
 refine Qe<|wP2 Z<|kg e fun bF e=>Qi (QD (a:=a6) (b:=1) bF)<|Qx (S':=V6 ..) Z Z Z Z Z<|Q2 ?_
 refine rnd (a6+1,aH,aI) (Qp hLu1 (zs e)) [7,6,5,3,0] [0,1,2] Z
 refine k4 6 5 3 0 Z<|QQ<|Q7<|Q7<|Qq ?_
 refine jn (a9,a7) (Qb hLu1 (zs e)) [3,0,5,6] [0,1,2] Z
 rintro ⟨aA,aB⟩ j
 try dsimp only at j ⊢
 have e:=Qp hLj_2 j
 try dsimp only at e
 refine Q5<|ks e fun bG e hLj_8=>?_
 refine cut (σ:=Unit) bG (fun _=>(.inl (),[(3,.pointer (some ⟨g3,0,none⟩)),(5,.int .i64 aA)],[.sli 10 QB qp2 qc3 l4,.sli 4 QF qp4 qc5 l5],[.blk g3 [.string a1,.int .i64 a2,.int .i64 a3,.slice qp2 l4.length qc3,.slice qp4 l5.length qc5] 52])) ?_ ?_
 refine sq<|wP Z<|nt<|Qk<|lop (σ:=Nat) (Q4B N l5 l0 aA aB) (fun a8=>(a8,[(12,.int .i64 (a8:Int)),(3,.pointer (some ⟨g3,0,none⟩)),(0,.slice qp0 l0.length qc1),(5,.int .i64 aA),(6,.int .i64 (aB:Int))],[.sli 10 QB qp2 qc3 l4,.sli 4 QF qp4 qc5 l5,.sli 2 Qd qp0 qc1 l0],[.blk g3 [.string a1,.int .i64 a2,.int .i64 a3,.slice qp2 l4.length qc3,.slice qp4 l5.length qc5] 52])) 0 e [12,3,0,5,6] [0,1,2] Z fun a8 cE cF e hLu3=>?_
 unfold Q4B at e
 try dsimp only at e ⊢
 refine Q5<|sq<|wP Z<|wF Z Q8G<|wD 0 4 Z QcB tA_50 Z<|wN Z Q5e<|wP Z<|Qi (Nlt a8 l5.length)<|nk6 122 12 3 0 5 6 Z ?_
 refine Qs e Z (fun e=>?_) fun e=>?_
 refine k5 12 3 0 5 6 Z<|kt<|Q5<|Qk<|sq<|wF Z Q8G<|wD 0 4 Z QcB tA_50 Z<|wP Z<|kn e fun aM aR e=>wI 1 a8 Z aR Q5e Q6o fun bS bT bP bK=>Q1i Q6Y 1 Z fun bU aS _=>?_
 subst aS
 refine wLd 1 0 (V4 ..) Z Q6o Qb1 Z<|QH Z Z Z Zq Z tZ_81 Z fun cG=>wS 0 0 Z Q6o (all':=V4 ..) Z (H':=[_,_]) Z<|nk6 13 12 3 0 5 6 Z<|sq<|wP Z<|nt<|Q5<|kn e fun bH e hLj_9=>?_
 unfold Q6g at e
 refine cut (σ:=Bool) bH (fun aL=>(aL,[(12,.int .i64 (a8:Int)),(3,.pointer (some ⟨g3,0,none⟩)),(0,.slice qp0 l0.length qc1),(5,.int .i64 aA),(6,.int .i64 (aB:Int)),(14,.bool aL)],[.sli 10 QB qp2 qc3 l4,.sli 4 QF qp4 qc5 l5,.sli 2 Qd qp0 qc1 l0],[.blk g3 [.string a1,.int .i64 a2,.int .i64 a3,.slice qp2 l4.length qc3,.slice qp4 l5.length qc5] 52])) ?_ ?_
 refine sq<|wF Z tF_81_0<|wD 0 0 Z tS_79 tA_79 Z<|nk8 131 14 13 12 3 0 5 6 Z<|Qk<|sq<|wP2 Z<|nk9 132 131 14 13 12 3 0 5 6 Z ?_
 refine Qs e Z (fun e=>?_) fun e=>?_
 refine k6 13 12 3 0 5 6 Z<|Qe<|wF Z Q94<|wD 0 2 Z QV Q13 Z<|wP2 Z ?_
 refine QE e (fun e=>?_) fun e=>?_
 refine wP Z<|wF Z Q93<|wD 0 1 Z QV Q13 Z<|wF Z Q61<|wD 0 3 Z Q4k Q4M Z<|wN Z Q1g<|kn e fun bV aT e=>c0 [] [0,1] Z fn_108 aT Q9q [5] [_,_] Z<|wP2 Z ?_
 refine QE e (fun e=>?_) fun e=>?_
 refine wF Z Q61<|wD 0 3 Z Q4k Q4M Z<|wP Z<|kn e fun bI aU e=>c0 [] [0,1] Z fn_112 aU Q9I [0] [_,_] Z<|wP2 Z<|Q2<|Q6<|Qo [1] Z (H':=[_]) Z ?_
 refine jM bI e [12,3,0,5,6,14] [3,4,5] Z
 refine wO4 Z<|wP2 Z<|Q2<|Q6<|Qo [1] Z (H':=[_]) Z ?_
 refine jM false e [12,3,0,5,6,14] [3,4,5] Z
 refine wO4 Z<|wO2 Z<|wO Z<|wP2 Z<|wO4 Z<|wP2 Z<|Q2<|Q6<|Qo [1] Z (H':=[_]) Z ?_
 refine jM false e [12,3,0,5,6,14] [3,4,5] Z
 refine k8 131 14 13 12 3 0 5 6 Z<|sq<|wP2 Z<|nk9 152 131 14 13 12 3 0 5 6 Z ?_
 refine Qs e Z (fun e=>?_) fun e=>?_
 refine k6 13 12 3 0 5 6 Z<|Qe<|wF Z Q93<|wD 0 1 Z QV Q13 Z<|wP2 Z ?_
 refine QE e (fun e=>?_) fun e=>?_
 refine wF Z Q61<|wD 0 3 Z Q4k Q4M Z<|wN Z Q1g<|wP Z<|Qi (Neq aM.exprs.length 0)<|wP2 Z ?_
 refine QE e (fun e=>?_) fun e=>?_
 refine wF Z Q94<|wD 0 2 Z QV Q13 Z<|wP2 Z<|wP Z ?_
 refine QE e (fun e=>?_) fun e=>?_
 refine wF Z Q94<|wD 0 2 Z QV Q13 Z<|wP2 Z<|wP2 Z<|Q2<|Q6<|Qo [1] Z (H':=[_]) Z ?_
 refine jM (decide (aM.which < (aB:Int))) e [12,3,0,5,6,14] [3,4,5] Z
 refine wO4 Z<|wP2 Z<|Q2<|Q6<|Qo [1] Z (H':=[_]) Z ?_
 refine jM false e [12,3,0,5,6,14] [3,4,5] Z
 refine wO2 Z<|wO Z<|wP2 Z<|wO4 Z<|wP2 Z<|Q2<|Q6<|Qo [1] Z (H':=[_]) Z ?_
 refine jM false e [12,3,0,5,6,14] [3,4,5] Z
 refine wO4 Z<|wP2 Z<|wO2 Z<|wO Z<|wP2 Z<|wO4 Z<|wP2 Z<|Q2<|Q6<|Qo [1] Z (H':=[_]) Z ?_
 refine jM false e [12,3,0,5,6,14] [3,4,5] Z
 refine k8 131 14 13 12 3 0 5 6 Z<|sq<|wP2 Z<|nk9 174 131 14 13 12 3 0 5 6 Z ?_
 refine Qs e Z (fun e=>?_) fun e=>?_
 refine k6 13 12 3 0 5 6 Z<|Qe<|wF Z Q93<|wD 0 1 Z QV Q13 Z<|wP2 Z ?_
 refine QE e (fun e=>?_) fun e=>?_
 refine wF Z Q94<|wD 0 2 Z QV Q13 Z<|wP2 Z<|wP Z ?_
 refine QE e (fun e=>?_) fun e=>?_
 refine wF Z Q61<|wD 0 3 Z Q4k Q4M Z<|wN Z Q1g<|wP Z<|Qi (Ngt aM.exprs.length 0)<|wP2 Z ?_
 refine QE e (fun e=>?_) fun e=>?_
 refine wF Z Q61<|wD 0 3 Z Q4k Q4M Z<|wP Z<|kn e fun bJ aV e=>c0 [] [0,1] Z fn_112 aV Q9I [0] [_,_] Z<|wP2 Z<|Q2<|Q6<|Qo [1] Z (H':=[_]) Z ?_
 refine jM bJ e [12,3,0,5,6,14] [3,4,5] Z
 refine wO4 Z<|wP2 Z<|Q2<|Q6<|Qo [1] Z (H':=[_]) Z ?_
 refine jM false e [12,3,0,5,6,14] [3,4,5] Z
 refine wO4 Z<|wP2 Z<|wO4 Z<|wP2 Z<|Q2<|Q6<|Qo [1] Z (H':=[_]) Z ?_
 refine jM false e [12,3,0,5,6,14] [3,4,5] Z
 refine wO2 Z<|wO Z<|wP2 Z<|wO4 Z<|wP2 Z<|wO4 Z<|wP2 Z<|Q2<|Q6<|Qo [1] Z (H':=[_]) Z ?_
 refine jM false e [12,3,0,5,6,14] [3,4,5] Z
 refine k8 131 14 13 12 3 0 5 6 Z<|sq<|wP2 Z<|nk8 196 14 13 12 3 0 5 6 Z ?_
 refine Qs e Z (fun e=>?_) fun e=>?_
 refine k6 13 12 3 0 5 6 Z<|Qe<|wF Z Q93<|wD 0 1 Z QV Q13 Z<|wP2 Z ?_
 refine QE e (fun e=>?_) fun e=>?_
 refine wF Z Q94<|wD 0 2 Z QV Q13 Z<|wP2 Z<|wP Z ?_
 refine QE e (fun e=>?_) fun e=>?_
 refine wF Z Q61<|wD 0 3 Z Q4k Q4M Z<|wN Z Q1g<|wP Z<|Qi (Neq aM.exprs.length 0)<|wP2 Z<|Q2<|Q6<|Qo [1] Z (H':=[_]) Z ?_
 refine jM (aM.exprs.length==0) e [12,3,0,5,6,14] [3,4,5] Z
 refine wO4 Z<|wP2 Z<|Q2<|Q6<|Qo [1] Z (H':=[_]) Z ?_
 refine jM false e [12,3,0,5,6,14] [3,4,5] Z
 refine wO2 Z<|wO Z<|wP2 Z<|wO4 Z<|wP2 Z<|Q2<|Q6<|Qo [1] Z (H':=[_]) Z ?_
 refine jM false e [12,3,0,5,6,14] [3,4,5] Z
 refine k6 14 12 3 0 5 6 Z<|QT<|Q6<|Qo [1] Z (H':=[_]) Z ?_
 refine jM false e [12,3,0,5,6,14] [3,4,5] Z
 rintro aL j
 try dsimp only at j ⊢
 have e:=hLj_9
 try rw [j] at e
 refine sq<|wP2 Z<|nk6 213 12 3 0 5 6 Z ?_
 refine Qs e Z (fun e=>?_) fun e=>?_
 refine k0 Z<|sq<|wP Z<|nr<|Qg<|Q3<|rb<|Q3 ?_
 obtain rfl:=(Qb hLj_8 (Qb hLu3 (zs e))).symm
 refine re1 [] [] results71 Z ⟨Z,Z,Z⟩ Z
 refine k5 12 3 0 5 6 Z<|QT<|Q6<|Qv<|Qe<|wP2 Z<|kg e fun aW e=>Qi (QD (a:=a8) (b:=1) aW)<|Qx (S':=V6 ..) Z Z Z Z Z<|Q2 ?_
 refine rnd (a8+1) (Qp hLu3 (zs e)) [12,3,0,5,6] [0,1,2] Z
 refine k2 3 5 Z<|QQ<|Q7<|Q7<|Qq ?_
 refine jn () (Qb hLu3 (zs e)) [3,5] [0,1] Z
 rintro _ j
 try dsimp only at j ⊢
 have e:=Qp hLj_8 j
 try dsimp only at e
 refine sq<|wF Z Qcx<|wD 0 2 Z QV Q13 Z<|wP2 Z<|wP Z ?_
 refine QE e (fun e=>?_) fun e=>?_
 refine wP2 Z<|wP2 Z<|nk1 4 Z<|Qm ?_
 obtain rfl:=Zi e
 refine re1 [] [] results71 Z ⟨Z,Z,Z⟩ Z
 refine wO2 Z<|wP2 Z<|nk1 4 Z<|Qm ?_
 obtain rfl:=Zi e
 refine re1 [] [] results71 Z ⟨Z,Z,Z⟩ Z
theorem Qdb {N qc1 qc3:Nat} {qp0 qp2:OA} {l0:List Q8} {l1:List Qf} {o0:Bool} (e:Q5w N l0 l1=some o0):QY prog 34 [.agg #[.slice qp0 l0.length qc1,.slice qp2 l1.length qc3]] [.sli 2 Qd qp0 qc1 l0,.sli 5 Qh qp2 qc3 l1] [] (R0 (.bool o0) [] []):=by
 unfold Q5w at e
 refine Qt func34 Z ntmps34 Z (S:=[_]) Z fun C=>sq<|wB Z fun g1=>wP Z<|nk1 1 Z<|Q5<|Q5<|kn e fun aB e hLj_1=>?_
 refine cut (σ:=Bool) aB (fun a7=>(a7,[(1,.pointer (some ⟨g1,0,none⟩)),(17,.bool a7)],[.sli 2 Qd qp0 qc1 l0,.sli 5 Qh qp2 qc3 l1],[.blk g1 [.slice qp0 l0.length qc1,.slice qp2 l1.length qc3] 25])) ?_ ?_
 refine Qe<|wF Z Q4h<|wD 0 0 Z Q8u Q8F Z<|wN Z Q3d<|wP Z<|Qi (Ngt l0.length 32)<|wP Z ?_
 refine QE e (fun e=>?_) fun e=>?_
 refine wO4 Z<|wP Z<|Q2 ?_
 refine jM true e [1,17] [0,1] Z
 refine wF Z Q5Z<|wD 0 1 Z Q9o Q9C Z<|wN Z Q3e<|wP Z<|Qi (Ngt l1.length 64)<|wP Z<|Q2 ?_
 refine jM (decide (64 < l1.length)) e [1,17] [0,1] Z
 rintro a7 j
 try dsimp only at j ⊢
 have e:=hLj_1
 try rw [j] at e
 refine Qs e Z (fun e=>?_) fun e=>?_
 refine k0 Z<|sq<|wP Z<|nr<|Q3 ?_
 obtain rfl:=Zi e
 refine re1 [] [] results34 Z ⟨Z,Z,Z⟩ Z
 refine k1 1 Z<|kt<|Q5<|ks e fun aC e hLj_2=>?_
 refine cut (σ:=Unit) aC (fun _=>(.inl (),[(1,.pointer (some ⟨g1,0,none⟩))],[.sli 2 Qd qp0 qc1 l0,.sli 5 Qh qp2 qc3 l1],[.blk g1 [.slice qp0 l0.length qc1,.slice qp2 l1.length qc3] 25])) ?_ ?_
 refine sq<|wP Z<|nt<|Qk<|lop (σ:=Nat) (Q28 N l0) (fun a0=>(a0,[(3,.int .i64 (a0:Int)),(1,.pointer (some ⟨g1,0,none⟩))],[.sli 2 Qd qp0 qc1 l0,.sli 5 Qh qp2 qc3 l1],[.blk g1 [.slice qp0 l0.length qc1,.slice qp2 l1.length qc3] 25])) 0 e [3,1] [0,1] Z fun a0 b8 b9 e hLu1=>?_
 unfold Q28 at e
 try dsimp only at e ⊢
 refine Q5<|sq<|wP Z<|wF Z Q4h<|wD 0 0 Z Q8u Q8F Z<|wN Z Q3d<|wP Z<|Qi (Nlt a0 l0.length)<|nk3 22 3 1 Z ?_
 refine Qs e Z (fun e=>?_) fun e=>?_
 refine k2 3 1 Z<|kt<|Q5<|ks e fun aD e hLj_3=>?_
 unfold Q7C at e
 refine cut (σ:=Unit) aD (fun _=>(.inl (),[(3,.int .i64 (a0:Int)),(1,.pointer (some ⟨g1,0,none⟩))],[.sli 2 Qd qp0 qc1 l0,.sli 5 Qh qp2 qc3 l1],[.blk g1 [.slice qp0 l0.length qc1,.slice qp2 l1.length qc3] 25])) ?_ ?_
 refine Qk<|sq<|wF Z Q4h<|wD 0 0 Z Q8u Q8F Z<|wP Z<|kn e fun aA aE e=>wI 0 a0 Z aE Q3d Q7a fun bA bB b3 aY=>Q1i Q1z 1 Z fun bC aF _=>?_
 subst aF
 refine wLd 0 0 [_,_] Z Q7a tA_69 Z<|QH Z Z Z Zq Z tZ_69 Z fun g4=>wS 0 0 Z Q7a (all':=[_,_]) Z (H':=[_,_]) Z<|nk3 4 3 1 Z<|Q5<|Q5<|kn e fun aG e hLj_4=>?_
 unfold Q5U at e
 refine cut (σ:=Bool) aG (fun a8=>(a8,[(4,.pointer (some ⟨g4,0,none⟩)),(3,.int .i64 (a0:Int)),(1,.pointer (some ⟨g1,0,none⟩)),(43,.bool a8)],[.sli 2 Qd qp0 qc1 l0,.sli 5 Qh qp2 qc3 l1],[.blk g4 [.string aA.name,.int .i64 (aA.fields)] 69,.blk g1 [.slice qp0 l0.length qc1,.slice qp2 l1.length qc3] 25])) ?_ ?_
 refine Qe<|wF Z Qbb<|wD 0 0 Z tS_9 tA_9 Z<|kn e fun bD aH e=>c0 [] [0,1] Z fn_70 aH Q85 [] [_,_] Z<|wP2 Z ?_
 refine QE e (fun e=>?_) fun e=>?_
 refine wO2 Z<|wO Z<|wP2 Z<|wO2 Z<|wO Z<|wP Z<|Q2 ?_
 refine jM true e [4,3,1,43] [2,3] Z
 refine wF Z Q9s<|wD 0 1 Z QV Q13 Z<|wP2 Z<|wP Z ?_
 refine QE e (fun e=>?_) fun e=>?_
 refine wO2 Z<|wO Z<|wP Z<|Q2 ?_
 refine jM true e [4,3,1,43] [2,3] Z
 refine wF Z Q9s<|wD 0 1 Z QV Q13 Z<|wP2 Z<|Q2 ?_
 refine jM (decide (aA.fields > 6)) e [4,3,1,43] [2,3] Z
 rintro a8 j
 try dsimp only at j ⊢
 have e:=hLj_4
 try rw [j] at e
 refine Qs e Z (fun e=>?_) fun e=>?_
 refine k0 Z<|sq<|wP Z<|nr<|rb<|Q3<|rb<|Q3 ?_
 obtain rfl:=(Qb hLj_2 (Qb hLu1 (Qb hLj_3 (zs e)))).symm
 refine re1 [] [] results34 Z ⟨Z,Z,Z⟩ Z
 refine k3 4 3 1 Z<|kt<|sq<|wP Z<|nt<|Qk<|lop (σ:=Nat) (Q2S N a0 l0 aA) (fun a5=>(a5,[(5,.int .i64 (a5:Int)),(4,.pointer (some ⟨g4,0,none⟩)),(3,.int .i64 (a0:Int)),(1,.pointer (some ⟨g1,0,none⟩))],[.sli 2 Qd qp0 qc1 l0,.sli 5 Qh qp2 qc3 l1],[.blk g4 [.string aA.name,.int .i64 (aA.fields)] 69,.blk g1 [.slice qp0 l0.length qc1,.slice qp2 l1.length qc3] 25])) 0 e [5,4,3,1] [0,1] Z fun a5 bE bF e hLu2=>?_
 unfold Q2S at e
 try dsimp only at e ⊢
 refine Q5<|sq<|wP2 Z<|wP Z<|Qi (Nlt a5 a0)<|nk5 46 5 4 3 1 Z ?_
 refine Qs e Z (fun e=>?_) fun e=>?_
 refine k4 5 4 3 1 Z<|kt<|Q5<|Qk<|Q5<|kn e fun bG aI e=>QG [0,1,2,3,4,5,6,7,8] Z Z fun z=>xF z 0 Z Q4h<|xD z 1 1 0 Z Q8u Q8F Z<|xP z 2 Z<|xI z 3 0 a5 Z aI Q3d Q7a fun bH bI b4 aZ=>QJ Q1z 1 Z fun bJ aJ _=>?_
 subst aJ
 refine xF z 4 Z Qbb<|xL z 5 0 0 [_] Z tS_9 tA_9 Z<|xF z 6 Z Qbb<|xD z 7 0 0 Z tS_9 tA_9 Z<|xP z 8 Z<|Qu z Z<|Qv<|k5 57 5 4 3 1 Z ?_
 refine Qs e Z (fun e=>?_) fun e=>?_
 refine k0 Z<|sq<|wP Z<|nr<|Qg<|Q3<|rb<|Qg<|Q3<|rb<|Q3 ?_
 obtain rfl:=(Qb hLj_2 (Qb hLu1 (Qb hLj_3 (Qb hLu2 (zs e))))).symm
 refine re1 [] [] results34 Z ⟨Z,Z,Z⟩ Z
 refine k4 5 4 3 1 Z<|QT<|Q6<|Qv<|Qe<|wP2 Z<|kg e fun aK e=>Qi (QD (a:=a5) (b:=1) aK)<|Qx (S':=V5 ..) Z Z Z Z Z<|Q2 ?_
 refine rnd (a5+1) (Qp hLu2 (zs e)) [5,4,3,1] [2,3] Z
 refine k2 3 1 Z<|QQ<|Q7<|Q7<|Qq<|Q6<|Qo [1] Z (H':=[_]) Z ?_
 refine jn () (Qb hLu2 (zs e)) [3,1] [0,1] Z
 rintro _ j
 try dsimp only at j ⊢
 have e:=Qp hLj_3 j
 try dsimp only at e
 refine Qe<|wP2 Z<|kg e fun aL e=>Qi (QD (a:=a0) (b:=1) aL)<|Qx (S':=V3 ..) Z Z Z Z Z<|Q2 ?_
 refine rnd (a0+1) (Qp hLu1 (zs e)) [3,1] [0,1] Z
 refine k1 1 Z<|QQ<|Q7<|Q7<|Qq ?_
 refine jn () (Qb hLu1 (zs e)) [1] [0,1] Z
 rintro _ j
 try dsimp only at j ⊢
 have e:=Qp hLj_2 j
 try dsimp only at e
 refine Q5<|ks e fun aM e hLj_5=>?_
 refine cut (σ:=Unit) aM (fun _=>(.inl (),[],[],[])) ?_ ?_
 refine sq<|wP Z<|nt<|Qk<|lop (σ:=Nat) (Q29 N l1 l0) (fun a1=>(a1,[(6,.int .i64 (a1:Int)),(1,.pointer (some ⟨g1,0,none⟩))],[.sli 2 Qd qp0 qc1 l0,.sli 5 Qh qp2 qc3 l1],[.blk g1 [.slice qp0 l0.length qc1,.slice qp2 l1.length qc3] 25])) 0 e [6,1] [0,1] Z fun a1 bK bL e hLu3=>?_
 unfold Q29 at e
 try dsimp only at e ⊢
 refine Q5<|sq<|wP Z<|wF Z Q5Z<|wD 0 1 Z Q9o Q9C Z<|wN Z Q3e<|wP Z<|Qi (Nlt a1 l1.length)<|nk3 62 6 1 Z ?_
 refine Qs e Z (fun e=>?_) fun e=>?_
 refine k2 6 1 Z<|kt<|Q5<|Qk<|Q5<|ks e fun aN e hLj_6=>?_
 refine cut (σ:=Unit) aN (fun _=>(.inl (),[(6,.int .i64 (a1:Int)),(1,.pointer (some ⟨g1,0,none⟩))],[.sli 2 Qd qp0 qc1 l0,.sli 5 Qh qp2 qc3 l1],[.blk g1 [.slice qp0 l0.length qc1,.slice qp2 l1.length qc3] 25])) ?_ ?_
 refine sq<|wP Z<|nt<|Qk<|lop (σ:=Nat) (Q2T N a1 l1) (fun a6=>(a6,[(7,.int .i64 (a6:Int)),(6,.int .i64 (a1:Int)),(1,.pointer (some ⟨g1,0,none⟩))],[.sli 2 Qd qp0 qc1 l0,.sli 5 Qh qp2 qc3 l1],[.blk g1 [.slice qp0 l0.length qc1,.slice qp2 l1.length qc3] 25])) 0 e [7,6,1] [0,1] Z fun a6 bM bN e hLu4=>?_
 unfold Q2T at e
 try dsimp only at e ⊢
 refine Q5<|sq<|wP2 Z<|wP Z<|Qi (Nlt a6 a1)<|nk4 67 7 6 1 Z ?_
 refine Qs e Z (fun e=>?_) fun e=>?_
 refine k3 7 6 1 Z<|kt<|Q5<|Qk<|Q5<|kn e fun bO aO e=>kn e fun bP aP e=>QG [0,1,2,3,4,5,6,7,8,9,10,11,12] Z Z fun z=>xF z 0 Z Q5Z<|xD z 1 0 1 Z Q9o Q9C Z<|xP z 2 Z<|xI z 3 1 a6 Z aO Q3e Q2X fun bQ bR b5 b0=>QJ Q1T 1 Z fun bS aQ _=>?_
 subst aQ
 refine xF z 4 Z Qba<|xL z 5 2 0 [_] Z tS_9 tA_9 Z<|xF z 6 Z Q5Z<|xD z 7 0 1 Z Q9o Q9C Z<|xP z 8 Z<|xI z 9 5 a1 Z aP Q3e Q2X fun bT bU b6 b1=>QJ Q1T 1 Z fun bV aR _=>?_
 subst aR
 refine xF z 10 Z Qba<|xL z 11 2 0 [_] Z tS_9 tA_9 Z<|xP z 12 Z<|Qu z Z<|Qv<|k4 82 7 6 1 Z ?_
 refine Qs e Z (fun e=>?_) fun e=>?_
 refine k0 Z<|sq<|wP Z<|nr<|Qg<|Q3<|rb<|rb<|Q3<|rb<|Q3 ?_
 obtain rfl:=(Qb hLj_5 (Qb hLu3 (Qb hLj_6 (Qb hLu4 (zs e))))).symm
 refine re1 [] [] results34 Z ⟨Z,Z,Z⟩ Z
 refine k3 7 6 1 Z<|QT<|Q6<|Qv<|Qe<|wP2 Z<|kg e fun aS e=>Qi (QD (a:=a6) (b:=1) aS)<|Qx (S':=V4 ..) Z Z Z Z Z<|Q2 ?_
 refine rnd (a6+1) (Qp hLu4 (zs e)) [7,6,1] [8,9] Z
 refine k2 6 1 Z<|QQ<|Q7<|Q7<|Qq ?_
 refine jn () (Qb hLu4 (zs e)) [6,1] [0,1] Z
 rintro _ j
 try dsimp only at j ⊢
 have e:=Qp hLj_6 j
 try dsimp only at e
 refine Q5<|kn e fun bW aT e=>kn e fun bX aU e=>QG [0,1,2,3,4,5,6,8] Z Z fun z=>xF z 0 Z Q4h<|xD z 1 0 0 Z Q8u Q8F Z<|xF z 2 Z Q5Z<|xD z 3 0 1 Z Q9o Q9C Z<|xP z 4 Z<|xI z 5 1 a1 Z aT Q3e Q2X fun bY bZ b7 b2=>QJ Q1T 1 Z fun c5 aV _=>?_
 subst aV
 refine xL z 6 2 0 (V5 ..) Z Q2X Q8U Z<|xS z 7 Z<|c0 [] [0] Z fn_71 aU QdC [4,0,1] [_] Z<|Q2<|wxx 0 [0] Z<|xP z 8 Z<|Qu z Z<|Qv<|k3 91 6 1 Z ?_
 refine Qs e Z (fun e=>?_) fun e=>?_
 refine k0 Z<|sq<|wP Z<|nr<|Qg<|Q3<|rb<|Q3 ?_
 obtain rfl:=(Qb hLj_5 (Qb hLu3 (zs e))).symm
 refine re1 [] [] results34 Z ⟨Z,Z,Z⟩ Z
 refine k2 6 1 Z<|QT<|Q6<|Qv<|Qe<|wP2 Z<|kg e fun aW e=>Qi (QD (a:=a1) (b:=1) aW)<|Qx (S':=V3 ..) Z Z Z Z Z<|Q2 ?_
 refine rnd (a1+1) (Qp hLu3 (zs e)) [6,1] [4,5] Z
 refine k0 Z<|QQ<|Q7<|Q7<|Qq<|Qo [] Z (H':=[]) Z ?_
 refine jn () (Qb hLu3 (zs e)) [] [] Z
 rintro _ j
 try dsimp only at j ⊢
 have e:=Qp hLj_5 j
 try dsimp only at e
 refine sq<|wP Z<|nr ?_
 obtain rfl:=Zi e
 refine re1 [] [] results34 Z ⟨Z,Z,Z⟩ Z
theorem Qdc {N qc1 qc3 qc5:Nat} {qp0 qp2 qp4:OA} {l0:List Q8} {l1:List Qf} {l2:List QP} {o0:Bool} (e:Q5x N l0 l1 l2=some o0):QY prog 35 [.agg #[.slice qp0 l0.length qc1,.slice qp2 l1.length qc3],.slice qp4 l2.length qc5] [.sli 2 Qd qp0 qc1 l0,.sli 5 Qh qp2 qc3 l1,.sli 3 Q14 qp4 qc5 l2] [] (R0 (.bool o0) [] []):=by
 unfold Q5x at e
 refine Qt func35 Z ntmps35 Z (S:=[_,_]) Z fun C=>sq<|wB Z fun g2=>wP Z<|nk2 2 1 Z<|sq<|wP Z<|nt<|Q5<|ks e fun aF e hLj_1=>?_
 refine cut (σ:=Unit) aF (fun _=>(.inl (),[],[],[])) ?_ ?_
 refine sq<|wP Z<|nt<|Qk<|lop (σ:=Nat×Int) (Q2a N l2 l0) (fun (a0,aC)=>((a0,aC),[(6,.int .i64 (a0:Int)),(5,.int .i64 aC),(2,.pointer (some ⟨g2,0,none⟩)),(1,.slice qp4 l2.length qc5)],[.sli 2 Qd qp0 qc1 l0,.sli 5 Qh qp2 qc3 l1,.sli 3 Q14 qp4 qc5 l2],[.blk g2 [.slice qp0 l0.length qc1,.slice qp2 l1.length qc3] 25])) (0,0) e [6,5,2,1] [0,1,2] Z fun s_ b0 b1 e hLu1=>?_
 obtain ⟨a0,aC⟩:=s_
 unfold Q2a at e
 try dsimp only at e ⊢
 refine Q5<|sq<|wP2 Z<|wN Z Q4N<|wP Z<|Qi (Nlt a0 l2.length)<|nk5 12 6 5 2 1 Z ?_
 refine Qs e Z (fun e=>?_) fun e=>?_
 refine k4 6 5 2 1 Z<|kt<|Q5<|ks e fun aG e hLj_2=>?_
 unfold Q7D at e
 refine cut (σ:=Int) aG (fun a7=>(.inl a7,[(6,.int .i64 (a0:Int)),(5,.int .i64 a7),(2,.pointer (some ⟨g2,0,none⟩)),(1,.slice qp4 l2.length qc5)],[.sli 2 Qd qp0 qc1 l0,.sli 5 Qh qp2 qc3 l1,.sli 3 Q14 qp4 qc5 l2],[.blk g2 [.slice qp0 l0.length qc1,.slice qp2 l1.length qc3] 25])) ?_ ?_
 refine Qk<|sq<|wP2 Z<|kn e fun a1 aH e=>wI 2 a0 Z aH Q4N Q4l fun b2 b3 aX aT=>Q1i Q40 1 Z fun a9 aI _=>?_
 subst aI
 refine wLd 1 0 (V3 ..) Z Q4l Qab Z<|QH Z Z Z Zq Z tZ_71 Z fun g7=>wS 0 0 Z Q4l (all':=V3 ..) Z (H':=[_,_]) Z<|nk5 7 6 5 2 1 Z<|Q5<|Q5<|kn e fun aJ e hLj_3=>?_
 unfold Q5V at e
 refine cut (σ:=Bool) aJ (fun a8=>(a8,[(7,.pointer (some ⟨g7,0,none⟩)),(6,.int .i64 (a0:Int)),(2,.pointer (some ⟨g2,0,none⟩)),(1,.slice qp4 l2.length qc5),(53,.bool a8)],[.sli 3 R_V a9.1 a9.2 a1.args,.sli 2 Qd qp0 qc1 l0,.sli 5 Qh qp2 qc3 l1,.sli 3 Q14 qp4 qc5 l2],[.blk g7 [.int .i64 (a1.id),.int .i64 (a1.ty),.slice a9.1 a1.args.length a9.2] 71,.blk g2 [.slice qp0 l0.length qc1,.slice qp2 l1.length qc3] 25])) ?_ ?_
 rcases Q19 e with ⟨a6,e⟩ | ⟨a6,e⟩
 refine QG [0,1,2,3,4,5,6,7,8,9,10,11,12,13,14,15,16,17,18,19,20,21,22,23,24,25,26,27,28,29,30,31,32,33,34] Z Z fun z=>xF z 0 Z Q3X<|xD z 1 0 0 Z QV Q13 Z<|xP2 z 2 Z<|xP z 4 Z<|QA (QL a6)<|xO2 z 5 Z<|xO z 7 Z<|xP2 z 8 Z<|xO2 z 10 Z<|xO z 12 Z<|xP2 z 13 Z<|xO2 z 15 Z<|xO2 z 17 Z<|xO2 z 19 Z<|xP2 z 21 Z<|xO2 z 23 Z<|xO2 z 25 Z<|xO2 z 27 Z<|xO2 z 29 Z<|xO2 z 31 Z<|xO z 33 Z<|xP z 34 Z<|Qu z Z ?_
 refine jM true e [7,6,2,1,53] [0,3,4,5] Z
 rcases Q19 e with ⟨aA,e⟩ | ⟨aA,e⟩
 refine QG [0,1,2,3,4,5,6,7,8,9,10,11,12,13,14,15,16,17,18,19,20,21,22,23,24,25,26,27,28,29,30,31,32,33,34] Z Z fun z=>xF z 0 Z Q3X<|xD z 1 0 0 Z QV Q13 Z<|xP2 z 2 Z<|xP z 4 Z<|QA (QL a6)<|xF z 5 Z Q3X<|xD z 6 0 0 Z QV Q13 Z<|xP2 z 7 Z<|xP z 9 Z<|QA (QL aA)<|xO2 z 10 Z<|xO z 12 Z<|xP2 z 13 Z<|xO2 z 15 Z<|xO2 z 17 Z<|xO2 z 19 Z<|xP2 z 21 Z<|xO2 z 23 Z<|xO2 z 25 Z<|xO2 z 27 Z<|xO2 z 29 Z<|xO2 z 31 Z<|xO z 33 Z ?_
 refine xP z 34 Z<|Qu z Z ?_
 refine jM true e [7,6,2,1,53] [0,3,4,5] Z
 rcases Q19 e with ⟨aB,e⟩ | ⟨aB,e⟩
 refine QG [0,1,2,3,4,5,6,7,8,9,10,11,12,13,14,15,16,17,18,19,20,21,22,23,24,25,26,27,28,29,30,31,32,33,34] Z Z fun z=>xF z 0 Z Q3X<|xD z 1 0 0 Z QV Q13 Z<|xP2 z 2 Z<|xP z 4 Z<|QA (QL a6)<|xF z 5 Z Q3X<|xD z 6 0 0 Z QV Q13 Z<|xP2 z 7 Z<|xP z 9 Z<|QA (QL aA)<|xF z 10 Z Q6T<|xD z 11 0 1 Z QV Q13 Z<|xP2 z 12 Z<|xP z 14 Z<|QA (QL aB)<|xO2 z 15 Z<|xO2 z 17 Z<|xO2 z 19 Z<|xP2 z 21 Z<|xO2 z 23 Z<|xO2 z 25 Z<|xO2 z 27 Z<|xO2 z 29 Z ?_
 refine xO2 z 31 Z<|xO z 33 Z<|xP z 34 Z<|Qu z Z ?_
 refine jM true e [7,6,2,1,53] [0,3,4,5] Z
 rcases Q19 e with ⟨aD,e⟩ | ⟨aD,e⟩
 refine QG [0,1,2,3,4,5,6,7,8,9,10,11,12,13,14,15,16,17,18,19,20,21,22,23,24,25,26,27,28,29,30,31,32,33,34] Z Z fun z=>xF z 0 Z Q3X<|xD z 1 0 0 Z QV Q13 Z<|xP2 z 2 Z<|xP z 4 Z<|QA (QL a6)<|xF z 5 Z Q3X<|xD z 6 0 0 Z QV Q13 Z<|xP2 z 7 Z<|xP z 9 Z<|QA (QL aA)<|xF z 10 Z Q6T<|xD z 11 0 1 Z QV Q13 Z<|xP2 z 12 Z<|xP z 14 Z<|QA (QL aB)<|xF z 15 Z Q6T<|xD z 16 0 1 Z QV Q13 Z<|xF z 17 Z Q4h<|xD z 18 1 0 Z Q8u Q8F Z<|xN z 19 Z Q3d<|xP2 z 20 Z<|xP z 22 Z<|QA (QL aD) ?_
 refine xO2 z 23 Z<|xO2 z 25 Z<|xO2 z 27 Z<|xO2 z 29 Z<|xO2 z 31 Z<|xO z 33 Z<|xP z 34 Z<|Qu z Z ?_
 refine jM true e [7,6,2,1,53] [0,3,4,5] Z
 refine kg e fun aK e=>kn e fun aU aL e=>QG [0,1,2,3,4,5,6,7,8,9,10,11,12,13,14,15,16,17,18,19,20,21,22,23,24,25,26,27,28,29,30,31,32,33,34] Z Z fun z=>xF z 0 Z Q3X<|xD z 1 0 0 Z QV Q13 Z<|xP2 z 2 Z<|xP z 4 Z<|QA (QL a6)<|xF z 5 Z Q3X<|xD z 6 0 0 Z QV Q13 Z<|xP2 z 7 Z<|xP z 9 Z<|QA (QL aA)<|xF z 10 Z Q6T<|xD z 11 0 1 Z QV Q13 Z<|xP2 z 12 Z<|xP z 14 Z<|QA (QL aB)<|xF z 15 Z Q6T<|xD z 16 0 1 Z QV Q13 Z<|xF z 17 Z Q4h<|xD z 18 1 0 Z Q8u Q8F Z<|xN z 19 Z Q3d<|xP2 z 20 Z ?_
 refine xP z 22 Z<|QA (QL aD)<|xF z 23 Z Q6m<|xD z 24 0 2 Z Q6n Q6E Z<|xN z 25 Z Q1F<|xF z 26 Z Q4h<|xD z 27 1 0 Z Q8u Q8F Z<|xF z 28 Z Q6T<|xD z 29 0 1 Z QV Q13 Z<|Qbw z 30 3 a1.ty.toNat Z Z Z Zq Z Z Z Z Z (Q2K aK) aL Q3d Q7a fun b4 b5 aY aV=>QJ Q1z 1 Z fun b6 aM _=>?_
 subst aM
 refine xF z 31 Z Q9s<|xL z 32 0 1 [_] Z QV Q13 Z<|xP2 z 33 Z<|Qu z Z ?_
 refine jM ((a1.args.length:Int) !=aU.fields) e [7,6,2,1,53] [2,5,6,7] Z
 rintro a8 j
 try dsimp only at j ⊢
 have e:=hLj_3
 try rw [j] at e
 refine Qs e Z (fun e=>?_) fun e=>?_
 refine k0 Z<|sq<|wP Z<|nr<|rb<|Q3<|rb<|Q3 ?_
 obtain rfl:=(Qb hLj_1 (Qb hLu1 (Qb hLj_2 (zs e)))).symm
 refine re1 [] [] results35 Z ⟨Z,Z,Z⟩ Z
 refine k4 7 6 2 1 Z<|kt<|sq<|wF Z Q3X<|wD 0 0 Z QV Q13 Z<|wP Z<|nk5 5 7 6 2 1 Z<|sq<|wP Z<|nt<|Qk<|lop (σ:=Nat) (Q2U N a1) (fun a5=>(a5,[(8,.int .i64 (a5:Int)),(5,.int .i64 (a1.id)),(7,.pointer (some ⟨g7,0,none⟩)),(6,.int .i64 (a0:Int)),(2,.pointer (some ⟨g2,0,none⟩)),(1,.slice qp4 l2.length qc5)],[.sli 3 R_V a9.1 a9.2 a1.args,.sli 2 Qd qp0 qc1 l0,.sli 5 Qh qp2 qc3 l1,.sli 3 Q14 qp4 qc5 l2],[.blk g7 [.int .i64 (a1.id),.int .i64 (a1.ty),.slice a9.1 a1.args.length a9.2] 71,.blk g2 [.slice qp0 l0.length qc1,.slice qp2 l1.length qc3] 25])) 0 e [8,5,7,6,2,1] [0,1,2,3] Z fun a5 b7 b8 e hLu2=>?_
 unfold Q2U at e
 try dsimp only at e ⊢
 refine Q5<|sq<|wP Z<|wF Z Q6m<|wD 0 2 Z Q6n Q6E Z<|wN Z Q1F<|wP Z<|Qi (Nlt a5 a1.args.length)<|nk7 60 8 5 7 6 2 1 Z ?_
 refine Qs e Z (fun e=>?_) fun e=>?_
 refine k6 8 5 7 6 2 1 Z<|kt<|Q5<|Qk<|sq<|wF Z Q6m<|wD 0 2 Z Q6n Q6E Z<|wP Z<|kn e fun b9 aN e=>wI 0 a5 Z aN Q1F Qz fun bA bB aZ aW=>Q1i Q24 1 Z fun bC aO _=>?_
 subst aO
 refine wLd 0 0 (V3 ..) Z Qz Q17 Z<|kn e fun bD aP e=>c0 [] [0,1] Z fn_72 aP Q4E [] [_,_] Z<|wP Z<|nk7 69 8 5 7 6 2 1 Z ?_
 refine Qs e Z (fun e=>?_) fun e=>?_
 refine k0 Z<|sq<|wP Z<|nr<|Qg<|Q3<|rb<|Qg<|Q3<|rb<|Q3 ?_
 obtain rfl:=(Qb hLj_1 (Qb hLu1 (Qb hLj_2 (Qb hLu2 (zs e))))).symm
 refine re1 [] [] results35 Z ⟨Z,Z,Z⟩ Z
 refine k6 8 5 7 6 2 1 Z<|QT<|Q6<|Qv<|Qe<|wP2 Z<|kg e fun aQ e=>Qi (QD (a:=a5) (b:=1) aQ)<|Qx (S':=V7 ..) Z Z Z Z Z<|Q2 ?_
 refine rnd (a5+1) (Qp hLu2 (zs e)) [8,5,7,6,2,1] [2,3,4,5] Z
 refine k4 5 6 2 1 Z<|QQ<|Q7<|Q7<|Qq<|Q6<|Qo [1] Z (H':=[_]) Z ?_
 refine jn a1.id (Qb hLu2 (zs e)) [6,5,2,1] [1,2,3] Z
 rintro a7 j
 try dsimp only at j ⊢
 have e:=Qp hLj_2 j
 refine Qe<|wP2 Z<|kg e fun aR e=>Qi (QD (a:=a0) (b:=1) aR)<|Qx (S':=V5 ..) Z Z Z Z Z<|Q2 ?_
 refine rnd (a0+1,a7) (Qp hLu1 (zs e)) [6,5,2,1] [0,1,2] Z
 refine k0 Z<|QQ<|Q7<|Q7<|Qq<|Qo [] Z (H':=[]) Z ?_
 refine jn () (Qb hLu1 (zs e)) [] [] Z
 rintro _ j
 try dsimp only at j ⊢
 have e:=Qp hLj_1 j
 try dsimp only at e
 refine sq<|wP Z<|nr ?_
 obtain rfl:=Zi e
 refine re1 [] [] results35 Z ⟨Z,Z,Z⟩ Z
theorem Q7L {N:Nat} {a0:Int} (e:Q3F N a0=some ()):QY prog 159 [.int .i64 a0] [] [] (R0 (.agg #[.int .u8 1,.int .i64 a0,.string EB]) [] []):=by
 unfold Q3F at e
 refine Qt func159 Z ntmps159 Z (S:=[_]) Z fun C=>sq<|QH Z Z Z Zq Z Q1X Z fun g2=>nt<|sq<|wP Z<|Q1v Z Z Z Zq Z Q1X Q8t Z (out:=V3 ..) Z<|wS 0 0 Z Qz (all':=V3 ..) Z (H':=[_]) Z<|nk1 2 Z<|Qm ?_
 have j:=(Zi e).symm
 refine Q2p (Hr:=[]) [] results159 (QU 0 Z Z Qz Q17 Z Z) ⟨Z,Z,Z⟩ (asK [] Z) Z Z (.inl Z)
theorem Q1Y {N:Nat} {a0:Bool} {o0:Int} (e:Q1E N a0=some o0):QY prog 157 [.bool a0] [] [] (R0 (.agg #[.int .u8 1,.int .i64 o0,.string EB]) [] []):=by
 unfold Q1E at e
 refine Qt func157 Z ntmps157 Z (S:=[_]) Z fun C=>sq<|QH Z Z Z Zq Z Q1X Z fun g2=>nt<|Q5<|sq<|wP Z<|nk2 3 2 Z ?_
 refine Qs e Z (fun e=>?_) fun e=>?_
 refine k1 2 Z<|sq<|kn e fun _ hc4 e=>?_
 try dsimp only at e
 refine c0 [] [0] Z fn_159 hc4 Q7L [] [_] Z<|wS 0 0 Z Qz (all':=V3 ..) Z (H':=[_]) Z<|nk1 2 Z<|Qm<|Q3 ?_
 obtain rfl:=Zi e
 refine Q2p (Hr:=[]) [] results157 (QU 0 Z Z Qz Q17 Z Z) ⟨Z,Z,Z⟩ (asK [] Z) Z Z (.inl Z)
 refine k1 2 Z<|kt<|sq<|kn e fun _ hc5 e=>?_
 try dsimp only at e
 refine c0 [] [0] Z fn_159 hc5 Q7L [] [_] Z<|wS 0 0 Z Qz (all':=V3 ..) Z (H':=[_]) Z<|nk1 2 Z<|Qm ?_
 obtain rfl:=Zi e
 refine Q2p (Hr:=[]) [] results157 (QU 0 Z Z Qz Q17 Z Z) ⟨Z,Z,Z⟩ (asK [] Z) Z Z (.inl Z)
theorem Qae {N:Nat} {a0 a1 o0:Int} {o1:Bool} (e:Q5c N a0 a1=some (o0,o1)):QY prog 196 [.int .i64 a0,.int .i64 a1] [] [] (R0 (.tuple #[.int .i64 o0,.bool o1]) [] []):=by
 unfold Q5c at e
 refine Qt func196 Z ntmps196 Z (S:=[_,_]) Z fun C=>sq<|wP2 Z<|nk2 0 1 Z<|Q5<|Q5<|kn e fun bj_1 e hLj_1=>?_
 unfold Q6P at e
 refine cut (σ:=Bool) bj_1 (fun j_1_23=>(j_1_23,[(0,.int .i64 a0),(1,.int .i64 a1),(23,.bool j_1_23)],[],[])) ?_ ?_
 refine Qe<|wP2 Z<|wP Z ?_
 refine QE e (fun e=>?_) fun e=>?_
 refine wP2 Z<|wP Z<|kg e fun hg11 e=>Qi (i64_in hg11)<|wP2 Z<|wP Z ?_
 refine QE e (fun e=>?_) fun e=>?_
 refine wO4 Z<|wO4 Z<|wP Z<|Q2 ?_
 refine jM true e [0,1,23] [] Z
 refine wP2 Z<|wP Z ?_
 refine QE e (fun e=>?_) fun e=>?_
 refine wP2 Z<|wP Z<|kg e fun hg20 e=>Qi (i64_in hg20)<|wP2 Z<|wP Z<|Q2 ?_
 refine jM (decide (a0 < (-9223372036854775808 - a1))) e [0,1,23] [] Z
 refine wO4 Z<|wP2 Z<|Q2 ?_
 refine jM false e [0,1,23] [] Z
 refine wO4 Z<|wP2 Z<|wP2 Z<|wP Z ?_
 refine QE e (fun e=>?_) fun e=>?_
 refine wP2 Z<|wP Z<|kg e fun hg20 e=>Qi (i64_in hg20)<|wP2 Z<|wP Z<|Q2 ?_
 refine jM (decide (a0 < (-9223372036854775808 - a1))) e [0,1,23] [] Z
 refine wO4 Z<|wP2 Z<|Q2 ?_
 refine jM false e [0,1,23] [] Z
 rintro j_1_23 j
 try dsimp only at j ⊢
 have e:=hLj_1
 try rw [j] at e
 refine Qs e Z (fun e=>?_) fun e=>?_
 refine k0 Z<|sq<|wP2 Z<|nr<|Q3 ?_
 have j:=(Zi e).symm
 obtain ⟨rfl,rfl⟩:=Pj j.symm
 refine re2 [] [] results196 Z ⟨Z,Z,Z⟩ Z
 refine k2 0 1 Z<|kt<|sq<|wP2 Z<|wP Z<|kg e fun hg26 e=>Qi (i64_in hg26)<|wP2 Z<|nk2 5 4 Z<|Qm ?_
 have j:=(Zi e).symm
 obtain ⟨rfl,rfl⟩:=Pj j.symm
 refine re2 [] [] results196 Z ⟨Z,Z,Z⟩ Z
theorem Qcg {N:Nat} {a0 a1 o0:Int} {o1:Bool} (e:Q4A N a0 a1=some (o0,o1)):QY prog 197 [.int .i64 a0,.int .i64 a1] [] [] (R0 (.tuple #[.int .i64 o0,.bool o1]) [] []):=by
 unfold Q4A at e
 refine Qt func197 Z ntmps197 Z (S:=[_,_]) Z fun C=>sq<|wP2 Z<|nk2 0 1 Z<|Q5<|Q5<|kn e fun bj_1 e hLj_1=>?_
 refine cut (σ:=Bool) bj_1 (fun j_1_12=>(j_1_12,[(0,.int .i64 a0),(1,.int .i64 a1),(12,.bool j_1_12)],[],[])) ?_ ?_
 refine Qe<|wP2 Z<|wP Z ?_
 refine QE e (fun e=>?_) fun e=>?_
 refine wO2 Z<|wP Z<|Q2 ?_
 refine jM true e [0,1,12] [] Z
 refine wP2 Z<|wP Z<|Q2 ?_
 refine jM (a1==0) e [0,1,12] [] Z
 rintro j_1_12 j
 try dsimp only at j ⊢
 have e:=hLj_1
 try rw [j] at e
 refine Qs e Z (fun e=>?_) fun e=>?_
 refine k0 Z<|sq<|wP2 Z<|nr<|Q3 ?_
 have j:=(Zi e).symm
 obtain ⟨rfl,rfl⟩:=Pj j.symm
 refine re2 [] [] results197 Z ⟨Z,Z,Z⟩ Z
 refine k2 0 1 Z<|kt<|Q5<|sq<|wP2 Z<|nk3 14 0 1 Z ?_
 refine Qs e Z (fun e=>?_) fun e=>?_
 refine k1 1 Z<|sq<|wP Z<|Q64 Z Z Z Zq (rk_neg Z Z)<|wP2 Z<|wP2 Z<|nk2 5 4 Z<|Qm<|Q3 ?_
 have j:=(Zi e).symm
 obtain ⟨rfl,rfl⟩:=Pj j.symm
 refine re2 [] [] results197 Z ⟨Z,Z,Z⟩ Z
 refine k2 0 1 Z<|kt<|Q5<|sq<|wP2 Z<|nk3 20 0 1 Z ?_
 refine Qs e Z (fun e=>?_) fun e=>?_
 refine k1 0 Z<|sq<|wP Z<|Q64 Z Z Z Zq (rk_neg Z Z)<|wP2 Z<|wP2 Z<|nk2 5 4 Z<|Qm<|Q3 ?_
 have j:=(Zi e).symm
 obtain ⟨rfl,rfl⟩:=Pj j.symm
 refine re2 [] [] results197 Z ⟨Z,Z,Z⟩ Z
 refine k2 0 1 Z<|kt<|sq<|wP2 Z<|wP2 Z<|nk3 6 0 1 Z<|Q5<|kg e fun hg31 e=>QG [0,1,2,3,4,5] Z Z fun z=>xP2 z 0 Z<|xP z 2 Z<|Q8l z 3 Z Z Z Zq Z Z Z Z (run_quo hg31)<|xP2 z 4 Z<|xS z 6 Z<|wP Z<|Q2<|Q3b [] [] Z Z<|xS z 7 Z<|wP Z<|Q2<|Q3b [] [] Z Z<|Qu z Z<|Qv<|k2 5 4 Z ?_
 refine Qm ?_
 have j:=(Zi e).symm
 obtain ⟨rfl,rfl⟩:=Pj j.symm
 refine re2 [] [] results197 Z ⟨Z,Z,Z⟩ Z
theorem Qc1 {N:Nat} {a0 a1 a2 o0:Int} {o1:Bool} (e:Q1l N a0 a1 a2=some (o0,o1)):QY prog 158 [.int .u8 a0,.int .i64 a1,.int .i64 a2] [] [] (R0 (.tuple #[.int .i64 o0,.bool o1]) [] []):=by
 unfold Q1l at e
 refine Qt func158 Z ntmps158 Z (S:=V3 ..) Z fun C=>sq<|wP2 Z<|nk3 0 1 2 Z<|Q5<|sq<|wP Z<|nk3 8 1 2 Z<|Qk<|sq<|wP2 Z<|nk4 9 8 1 2 Z ?_
 refine Qs e Z (fun e=>?_) fun e=>?_
 refine k2 1 2 Z<|sq<|wP2 Z ?_
 obtain ⟨⟨v13_0,v13_1⟩,hc13,e⟩:=Qy e
 try dsimp only at e
 refine c0 [] [] Z fn_196 hc13 Qae [] [] Z<|wP2 Z<|wP2 Z<|nk2 7 6 Z<|Qm<|Qg<|Q3 ?_
 have j:=(Zi e).symm
 obtain ⟨rfl,rfl⟩:=Pj j.symm
 refine re2 [] [] results158 Z ⟨Z,Z,Z⟩ Z
 refine k3 8 1 2 Z<|sq<|wP2 Z<|nk4 16 8 1 2 Z ?_
 refine Qs e Z (fun e=>?_) fun e=>?_
 refine k2 1 2 Z<|Q5<|sq<|wP2 Z<|nk3 19 1 2 Z ?_
 refine Qs e Z (fun e=>?_) fun e=>?_
 refine k2 1 2 Z<|sq<|wP2 Z<|wP2 Z<|wP2 Z<|wP Z<|nk2 7 6 Z<|Qm<|rb<|Q3 ?_
 have j:=(Zi e).symm
 obtain ⟨rfl,rfl⟩:=Pj j.symm
 refine re2 [] [] results158 Z ⟨Z,Z,Z⟩ Z
 refine k2 1 2 Z<|kt<|sq<|wP2 Z<|Q64 Z Z Z Zq (rk_neg Z Z) ?_
 obtain ⟨⟨v28_0,v28_1⟩,hc28,e⟩:=Qy e
 try dsimp only at e
 refine c0 [] [] Z fn_196 hc28 Qae [] [] Z<|wP2 Z<|wP2 Z<|nk2 7 6 Z<|Qm<|Qg<|Q3 ?_
 have j:=(Zi e).symm
 obtain ⟨rfl,rfl⟩:=Pj j.symm
 refine re2 [] [] results158 Z ⟨Z,Z,Z⟩ Z
 refine k3 8 1 2 Z<|sq<|wP2 Z<|nk3 31 1 2 Z ?_
 refine Qs e Z (fun e=>?_) fun e=>?_
 refine k2 1 2 Z<|sq<|wP2 Z ?_
 obtain ⟨⟨v35_0,v35_1⟩,hc35,e⟩:=Qy e
 try dsimp only at e
 refine c0 [] [] Z fn_197 hc35 Qcg [] [] Z<|wP2 Z<|wP2 Z<|nk2 7 6 Z<|Qm<|Qg<|Q3 ?_
 have j:=(Zi e).symm
 obtain ⟨rfl,rfl⟩:=Pj j.symm
 refine re2 [] [] results158 Z ⟨Z,Z,Z⟩ Z
 refine k1 1 Z<|QT<|Q6<|Qv<|sq<|wP Z<|Q64 Z Z Z Zq (rk_neg Z Z)<|wP2 Z<|wP2 Z<|nk2 7 6 Z<|Qm ?_
 have j:=(Zi e).symm
 obtain ⟨rfl,rfl⟩:=Pj j.symm
 refine re2 [] [] results158 Z ⟨Z,Z,Z⟩ Z
theorem Qed {N:Nat} {a0:Int} {qp0:OA} {qc1:Nat} {l1:List V} {o0:Nat} {o1:Int} {o2:Nat} (e:Q77 N a0 l1=some (o0,o1,o2)):QY prog 122 [.int .u8 a0,.slice qp0 l1.length qc1] [.sli 3 R_V qp0 qc1 l1] [] (R0 (.tuple #[.agg #[.int .u8 (o0:Int),.int .i64 o1,.string EB],.int .i64 (o2:Int)]) [] []):=by
 unfold Q77 at e
 refine Qt func122 Z ntmps122 Z (S:=[_,_]) Z fun C=>sq<|QH Z Z Z Zq Z Q1X Z fun g4=>wP Z<|nk3 4 0 1 Z<|sq<|wP Z<|nt<|Q5<|kn e fun aN e hLj_1=>?_
 unfold Q7e at e
 refine cut (σ:=Nat) aN (fun a7=>(a7,[(4,.pointer (some ⟨g4,0,none⟩)),(0,.int .u8 a0),(1,.slice qp0 l1.length qc1),(6,.int .i64 (a7:Int))],[.sli 3 R_V qp0 qc1 l1],[.blk g4 [.int .u8 0,.int .i64 0,.string EB] 57])) ?_ ?_
 refine Q5<|kn e fun aO e hLj_2=>?_
 refine cut (σ:=Bool) aO (fun a9=>(a9,[(4,.pointer (some ⟨g4,0,none⟩)),(0,.int .u8 a0),(1,.slice qp0 l1.length qc1),(6,.int .i64 2),(18,.bool a9)],[.sli 3 R_V qp0 qc1 l1],[.blk g4 [.int .u8 0,.int .i64 0,.string EB] 57])) ?_ ?_
 refine Qe<|wP2 Z<|wP Z ?_
 refine QE e (fun e=>?_) fun e=>?_
 refine wO2 Z<|wP Z<|Q2 ?_
 refine jM true e [4,0,1,6,18] [0] Z
 refine wP2 Z<|wP Z<|Q2 ?_
 refine jM (a0==11) e [4,0,1,6,18] [0] Z
 rintro a9 j
 try dsimp only at j ⊢
 have e:=hLj_2
 try rw [j] at e
 refine Qs e Z (fun e=>?_) fun e=>?_
 refine k3 4 0 1 Z<|Qe<|wP Z<|Q2 ?_
 refine jM 1 e [4,0,1,6] [0] Z
 refine k4 4 0 1 6 Z<|QT ?_
 refine jM 2 e [4,0,1,6] [0] Z
 rintro a7 j
 try dsimp only at j ⊢
 have e:=hLj_1
 try rw [j] at e
 refine Q5<|Q5<|kn e fun aP e hLj_3=>?_
 refine cut (σ:=Bool) aP (fun aA=>(aA,[(4,.pointer (some ⟨g4,0,none⟩)),(0,.int .u8 a0),(1,.slice qp0 l1.length qc1),(30,.bool aA)],[.sli 3 R_V qp0 qc1 l1],[.blk g4 [.int .u8 0,.int .i64 0,.string EB] 57])) ?_ ?_
 refine Qe<|wP2 Z<|wP Z ?_
 refine QE e (fun e=>?_) fun e=>?_
 refine wO2 Z<|wP2 Z<|wO4 Z<|wP Z<|Q2 ?_
 refine jM true e [4,0,1,30] [0] Z
 refine wP2 Z<|wP2 Z ?_
 refine QE e (fun e=>?_) fun e=>?_
 refine wO4 Z<|wP Z<|Q2 ?_
 refine jM true e [4,0,1,30] [0] Z
 refine wP Z<|wN Z Q1F<|wP2 Z<|Qi (Nne l1.length a7)<|wP Z<|Q2 ?_
 refine jM (l1.length !=a7) e [4,0,1,30] [0] Z
 rintro aA j
 try dsimp only at j ⊢
 have e:=hLj_3
 try rw [j] at e
 refine Qs e Z (fun e=>?_) fun e=>?_
 ·
  refine k1 4 Z<|sq<|Q1v Z Z Z Zq Z Q1X Q8t Z (out:=V3 ..) Z<|wS 0 0 Z Qz (all':=V3 ..) Z (H':=[_]) Z<|wP Z<|nk2 5 4 Z<|Qm<|Q3 ?_
  cases (Zi e)
  refine Q1P (Hr:=[]) [] results122 (QU 0 Z Z Qz Q17 Z Z) (Q1w Z) ⟨Z,Z,Z⟩ (asK [] Z) Z Z (.inl Z)
 refine k3 4 0 1 Z<|kt<|sq<|wP Z<|nt<|Q5<|ks e fun aQ e hLj_4=>?_
 refine cut (σ:=Bool) aQ (fun a8=>(.inl a8,[(4,.pointer (some ⟨g4,0,none⟩)),(0,.int .u8 a0),(1,.slice qp0 l1.length qc1),(7,.bool a8)],[.sli 3 R_V qp0 qc1 l1],[.blk g4 [.int .u8 0,.int .i64 0,.string EB] 57])) ?_ ?_
 refine sq<|wP Z<|nt<|Qk<|lop (σ:=Nat×Bool) (Q5v N l1) (fun (a6,aI)=>((a6,aI),[(8,.int .i64 (a6:Int)),(7,.bool aI),(4,.pointer (some ⟨g4,0,none⟩)),(0,.int .u8 a0),(1,.slice qp0 l1.length qc1)],[.sli 3 R_V qp0 qc1 l1],[.blk g4 [.int .u8 0,.int .i64 0,.string EB] 57])) (0,false) e [8,7,4,0,1] [0] Z fun s_ bP bQ e hLu1=>?_
 obtain ⟨a6,aI⟩:=s_
 unfold Q5v at e
 try dsimp only at e ⊢
 refine Q5<|sq<|wP2 Z<|wN Z Q1F<|wP Z<|Qi (Nlt a6 l1.length)<|nk6 35 8 7 4 0 1 Z ?_
 refine Qs e Z (fun e=>?_) fun e=>?_
 refine k5 8 7 4 0 1 Z<|kt<|Q5<|ks e fun aR e hLj_5=>?_
 unfold Q7f at e
 refine cut (σ:=Bool) aR (fun aB=>(.inl aB,[(8,.int .i64 (a6:Int)),(7,.bool aB),(4,.pointer (some ⟨g4,0,none⟩)),(0,.int .u8 a0),(1,.slice qp0 l1.length qc1)],[.sli 3 R_V qp0 qc1 l1],[.blk g4 [.int .u8 0,.int .i64 0,.string EB] 57])) ?_ ?_
 refine Qk<|Q5<|sq<|wP2 Z<|kn e fun bR aS e=>wI 0 a6 Z aS Q1F Qz fun bS bT bK bC=>Q1i Q24 1 Z fun bU aT _=>?_
 subst aT
 refine wLd 0 0 (V3 ..) Z Qz Q17 Z<|kn e fun bV aU e=>c0 [] [0] Z fn_72 aU Q4E [] [_] Z<|wP Z<|nk6 43 8 7 4 0 1 Z ?_
 refine Qs e Z (fun e=>?_) fun e=>?_
 ·
  refine k1 4 Z<|sq<|Q1v Z Z Z Zq Z Q1X Q8t Z (out:=V3 ..) Z<|wS 0 0 Z Qz (all':=V3 ..) Z (H':=[_]) Z<|wP Z<|nk2 5 4 Z<|Qm<|rb<|Q3<|rb<|Q3 ?_
  cases (Qb hLj_4 (Qb hLu1 (Qb hLj_5 ((Zi e).symm)))).symm
  refine Q1P (Hr:=[]) [] results122 (QU 0 Z Z Qz Q17 Z Z) (Q1w Z) ⟨Z,Z,Z⟩ (asK [] Z) Z Z (.inl Z)
 refine k5 8 7 4 0 1 Z<|kt<|Qe<|wP2 Z ?_
 refine QE e (fun e=>?_) fun e=>?_
 refine wO4 Z<|wO2 Z<|wP Z<|Qx (S':=V13 ..) Z Z Z Z Z<|Q2<|Q6 ?_
 refine jM true e [8,7,4,0,1] [2] Z
 refine wP2 Z<|kn e fun bD aV e=>wI 2 a6 Z aV Q1F Qz fun bW bX bL bE=>Q1i Q24 1 Z fun bY aW _=>?_
 subst aW
 refine wF Z Qdx<|wLd 0 0 [_] Z tS_55 tA_55 Z<|wP2 Z<|Qx (S':=V13 ..) Z Z Z Z Z<|Q2<|Q6 ?_
 refine jM (bD.k==2) e [8,7,4,0,1] [4] Z
 rintro aB j
 try dsimp only at j ⊢
 have e:=Qp hLj_5 j
 refine Qe<|wP2 Z<|kg e fun aX e=>Qi (QD (a:=a6) (b:=1) aX)<|Qx (S':=V6 ..) Z Z Z Z Z<|Q2 ?_
 refine rnd (a6+1,aB) (Qp hLu1 (zs e)) [8,7,4,0,1] [0] Z
 refine k4 7 4 0 1 Z<|QQ<|Q7<|Q7<|Qq ?_
 refine jn aI (Qb hLu1 (zs e)) [4,0,1,7] [0] Z
 rintro a8 j
 try dsimp only at j ⊢
 have e:=Qp hLj_4 j
 refine Q5<|kn e fun aD aY e=>kg e fun aZ e=>kg e fun b0 e=>kn e fun aE b1 e=>?_
 refine wc_cut (σ:=Nat×Nat) (fun _=>True) (fun (a1,a5)=>[(10,.pointer (some ⟨a1,0,none⟩)),(9,.pointer (some ⟨a5,0,none⟩)),(4,.pointer (some ⟨g4,0,none⟩)),(0,.int .u8 a0),(7,.bool a8)]) (fun (a1,a5)=>[]) (fun (a1,a5)=>[.blk a1 [.int .u8 (aE.k),.int .i64 (aE.n),.string aE.s] 57,.blk a5 [.int .u8 (aD.k),.int .i64 (aD.n),.string aD.s] 57,.blk g4 [.int .u8 0,.int .i64 0,.string EB] 57]) ?_ ?_
 refine QG [0,1,2,3,4,5,6,7,8] Z Z fun z=>xP z 0 Z<|xI z 1 0 0 Z aY Q1F Qz fun bZ c5 bM bF=>QJ Q24 1 Z fun c7 b2 _=>?_
 subst b2
 refine xL z 2 0 0 (V3 ..) Z Qz Q17 Z<|xP2 z 3 Z<|xN z 5 Z Q1F<|xP z 6 Z<|QA (i64_in aZ)<|Qbw z 7 2 (((l1.length:Int) - 1).toNat) Z Z Z Zq Z Z Z Z Z (Q2K b0) b1 Q1F Qz fun c8 c9 bN bG=>QJ Q24 1 Z fun cA b3 _=>?_
 subst b3
 refine xL z 8 0 0 (V3 ..) Z Qz Q17 Z ?_
 refine Qa6 z 9 10 Z Z Z Z Z Z ?_ ?_
 refine QH Z Z Z Zq Z Q1X Z fun g9=>Q2<|wxx 0 [] Z<|xS z 10 Z<|QH Z Z Z Zq Z Q1X Z fun aJ=>Q2<|wxx 0 [] Z<|xS z 11 Z<|wS 1 0 Z Qz (all':=V3 ..) Z (H':=V3 ..) Z<|Q2<|wxx 0 [] Z<|xS z 12 Z<|wS 0 0 Z Qz (all':=V3 ..) Z (H':=V3 ..) Z<|Q2<|wxx 0 [] Z<|Qu z Z ?_
 refine Qbo (aJ,g9) trivial [10,9,4,0,7] Z (asK [] Z) Z
 refine QH Z Z Z Zq Z Q1X Z fun aJ=>Q2<|wxx 0 [] Z<|xS z 9 Z<|QH Z Z Z Zq Z Q1X Z fun g9=>Q2<|wxx 0 [] Z<|xS z 11 Z<|wS 0 0 Z Qz (all':=V3 ..) Z (H':=V3 ..) Z<|Q2<|wxx 0 [] Z<|xS z 12 Z<|wS 1 0 Z Qz (all':=V3 ..) Z (H':=V3 ..) Z<|Q2<|wxx 0 [] Z<|Qu z Z<|Qo [1,0,2] Z (H':=V3 ..) Z ?_
 refine Qbo (aJ,g9) trivial [10,9,4,0,7] Z (asK [] Z) Z
 rintro ⟨a1,a5⟩ _
 try dsimp only
 refine Q5<|Q5<|kn e fun b4 e hLj_7=>?_
 refine cut (σ:=Bool) b4 (fun aC=>(aC,[(10,.pointer (some ⟨a1,0,none⟩)),(9,.pointer (some ⟨a5,0,none⟩)),(4,.pointer (some ⟨g4,0,none⟩)),(0,.int .u8 a0),(7,.bool a8),(68,.bool aC)],[],[.blk a1 [.int .u8 (aE.k),.int .i64 (aE.n),.string aE.s] 57,.blk a5 [.int .u8 (aD.k),.int .i64 (aD.n),.string aD.s] 57,.blk g4 [.int .u8 0,.int .i64 0,.string EB] 57])) ?_ ?_
 refine Qe<|wP2 Z<|wP Z ?_
 refine QE e (fun e=>?_) fun e=>?_
 refine wO2 Z<|wP Z<|Q2 ?_
 refine jM true e [10,9,4,0,7,68] [] Z
 refine wP2 Z<|wP Z<|Q2 ?_
 refine jM (a0==6) e [10,9,4,0,7,68] [] Z
 rintro aC j
 try dsimp only at j ⊢
 have e:=hLj_7
 try rw [j] at e
 refine Qs e Z (fun e=>?_) fun e=>?_
 ·
  refine k4 10 9 4 0 Z<|sq<|wM 1 0 (V3 ..) Z Qz Q17 Z<|wM 0 0 (V3 ..) Z Qz Q17 Z<|Q9g Z Z Z Zq Z Z Z (eqlV _ _ aD aE)<|wP2 Z<|Q9g Z Z Z Zq Z Z Z (eqlB _ _ (decide (aD=aE)) (a0==5))<|kn e fun cB b5 e=>c0 [] [0,1,2] Z fn_157 b5 Q1Y [] (V3 ..) Z<|wS 2 0 Z Qz (all':=V3 ..) Z (H':=V3 ..) Z<|wP Z<|nk2 5 4 Z<|Qm<|Q3 ?_
  cases (Zi e)
  refine Q1P (Hr:=[]) [] results122 (QU 2 Z Z Qz Q17 Z Z) (Q1w Z) ⟨Z,Z,Z⟩ (asK [] Z) Z Z (.inl Z)
 refine k5 10 9 4 0 7 Z<|kt<|Q5<|sq<|wP Z<|nk5 76 10 9 4 0 Z ?_
 refine Qs e Z (fun e=>?_) fun e=>?_
 ·
  refine k1 4 Z<|sq<|Q1v Z Z Z Zq Z Q1X Q8t Z (out:=V3 ..) Z<|wS 2 0 Z Qz (all':=V3 ..) Z (H':=V3 ..) Z<|wP Z<|nk2 5 4 Z<|Qm<|Q3 ?_
  cases (Zi e)
  refine Q1P (Hr:=[]) [] results122 (QU 2 Z Z Qz Q17 Z Z) (Q1w Z) ⟨Z,Z,Z⟩ (asK [] Z) Z Z (.inl Z)
 refine k4 10 9 4 0 Z<|kt<|Q5<|sq<|wP Z<|nt<|Qk<|sq<|wP2 Z<|nk6 79 78 10 9 4 0 Z ?_
 refine Qs e Z (fun e=>?_) fun e=>?_
 ·
  refine k3 10 9 4 Z<|sq<|wF Z Q2g<|wD 1 1 Z Q95 Q92 Z<|wF Z Q2g<|wD 0 1 Z Q95 Q92 Z<|wP Z<|kn e fun cC b6 e=>c0 [] [0,1,2] Z fn_157 b6 Q1Y [] (V3 ..) Z<|wS 2 0 Z Qz (all':=V3 ..) Z (H':=V3 ..) Z<|wP Z<|nk2 5 4 Z<|Qm<|Qg<|Q3 ?_
  cases (Zi e)
  refine Q1P (Hr:=[]) [] results122 (QU 2 Z Z Qz Q17 Z Z) (Q1w Z) ⟨Z,Z,Z⟩ (asK [] Z) Z Z (.inl Z)
 refine k5 78 10 9 4 0 Z<|sq<|wP2 Z<|nk6 87 78 10 9 4 0 Z ?_
 refine Qs e Z (fun e=>?_) fun e=>?_
 ·
  refine k3 10 9 4 Z<|sq<|wF Z Q2g<|wD 1 1 Z Q95 Q92 Z<|wF Z Q2g<|wD 0 1 Z Q95 Q92 Z<|wP Z<|kn e fun cD b7 e=>c0 [] [0,1,2] Z fn_157 b7 Q1Y [] (V3 ..) Z<|wS 2 0 Z Qz (all':=V3 ..) Z (H':=V3 ..) Z<|wP Z<|nk2 5 4 Z<|Qm<|Qg<|Q3 ?_
  cases (Zi e)
  refine Q1P (Hr:=[]) [] results122 (QU 2 Z Z Qz Q17 Z Z) (Q1w Z) ⟨Z,Z,Z⟩ (asK [] Z) Z Z (.inl Z)
 refine k5 78 10 9 4 0 Z<|sq<|wP2 Z<|nk6 95 78 10 9 4 0 Z ?_
 refine Qs e Z (fun e=>?_) fun e=>?_
 refine k3 10 9 4 Z<|sq<|wF Z Q2g<|wD 1 1 Z Q95 Q92 Z<|wP2 Z ?_
 refine QE e (fun e=>?_) fun e=>?_
 ·
  refine wF Z Q2g<|wD 0 1 Z Q95 Q92 Z<|wP2 Z<|kn e fun b8 aG e=>c0 [] [0,1,2] Z fn_157 aG Q1Y [] (V3 ..) Z<|wS 2 0 Z Qz (all':=V3 ..) Z (H':=V3 ..) Z<|wP Z<|nk2 5 4 Z<|Qm<|Qg<|Q3 ?_
  cases (Zi e)
  refine Q1P (Hr:=[]) [] results122 (QU 2 Z Z Qz Q17 Z Z) (Q1w Z) ⟨Z,Z,Z⟩ (asK [] Z) Z Z (.inl Z)
 ·
  refine wO2 Z<|wO Z<|wP Z<|kn e fun b8 aG e=>c0 [] [0,1,2] Z fn_157 aG Q1Y [] (V3 ..) Z<|wS 2 0 Z Qz (all':=V3 ..) Z (H':=V3 ..) Z<|wP Z<|nk2 5 4 Z<|Qm<|Qg<|Q3 ?_
  cases (Zi e)
  refine Q1P (Hr:=[]) [] results122 (QU 2 Z Z Qz Q17 Z Z) (Q1w Z) ⟨Z,Z,Z⟩ (asK [] Z) Z Z (.inl Z)
 refine k5 78 10 9 4 0 Z<|sq<|wP2 Z<|nk6 106 78 10 9 4 0 Z ?_
 refine Qs e Z (fun e=>?_) fun e=>?_
 refine k3 10 9 4 Z<|sq<|wF Z Q2g<|wD 1 1 Z Q95 Q92 Z<|wP2 Z ?_
 refine QE e (fun e=>?_) fun e=>?_
 ·
  refine wO2 Z<|wO Z<|wP Z<|kn e fun b9 aH e=>c0 [] [0,1,2] Z fn_157 aH Q1Y [] (V3 ..) Z<|wS 2 0 Z Qz (all':=V3 ..) Z (H':=V3 ..) Z<|wP Z<|nk2 5 4 Z<|Qm<|Qg<|Q3 ?_
  cases (Zi e)
  refine Q1P (Hr:=[]) [] results122 (QU 2 Z Z Qz Q17 Z Z) (Q1w Z) ⟨Z,Z,Z⟩ (asK [] Z) Z Z (.inl Z)
 ·
  refine wF Z Q2g<|wD 0 1 Z Q95 Q92 Z<|wP2 Z<|kn e fun b9 aH e=>c0 [] [0,1,2] Z fn_157 aH Q1Y [] (V3 ..) Z<|wS 2 0 Z Qz (all':=V3 ..) Z (H':=V3 ..) Z<|wP Z<|nk2 5 4 Z<|Qm<|Qg<|Q3 ?_
  cases (Zi e)
  refine Q1P (Hr:=[]) [] results122 (QU 2 Z Z Qz Q17 Z Z) (Q1w Z) ⟨Z,Z,Z⟩ (asK [] Z) Z Z (.inl Z)
 refine k5 78 10 9 4 0 Z<|sq<|wP2 Z<|nk5 117 10 9 4 0 Z ?_
 refine Qs e Z (fun e=>?_) fun e=>?_
 ·
  refine k2 9 4 Z<|sq<|wF Z Q2g<|wD 1 1 Z Q95 Q92 Z<|wP Z<|kn e fun bO aK e=>c0 [] [0,1,2] Z fn_157 aK Q1Y [] (V3 ..) Z<|wS 2 0 Z Qz (all':=V3 ..) Z (H':=V3 ..) Z<|wP Z<|nk2 5 4 Z<|Qm<|Qg<|Q3 ?_
  cases (Zi e)
  refine Q1P (Hr:=[]) [] results122 (QU 2 Z Z Qz Q17 Z Z) (Q1w Z) ⟨Z,Z,Z⟩ (asK [] Z) Z Z (.inl Z)
 refine k4 10 9 4 0 Z<|QT<|Q6<|Qv<|sq<|wP Z<|wF Z Q2g<|wD 1 1 Z Q95 Q92 Z<|wF Z Q2g<|wD 0 1 Z Q95 Q92 Z ?_
 obtain ⟨⟨bA,bB⟩,aL,e⟩:=Qy e
 try dsimp only at e
 refine c0 [] [0,1,2] Z fn_158 aL Qc1 [] (V3 ..) Z<|wP2 Z<|wP2 Z<|wP Z<|nk3 12 11 4 Z<|Q5<|sq<|wP2 Z<|nk3 133 11 4 Z ?_
 refine Qs e Z (fun e=>?_) fun e=>?_
 ·
  refine k1 4 Z<|sq<|Q1v Z Z Z Zq Z Q1X Q8t Z (out:=V3 ..) Z<|wS 2 0 Z Qz (all':=V3 ..) Z (H':=V3 ..) Z<|wP Z<|nk2 5 4 Z<|Qm<|Q3 ?_
  cases (Zi e)
  refine Q1P (Hr:=[]) [] results122 (QU 2 Z Z Qz Q17 Z Z) (Q1w Z) ⟨Z,Z,Z⟩ (asK [] Z) Z Z (.inl Z)
 ·
  refine k2 11 4 Z<|kt<|sq<|wP Z<|kn e fun _ aM e=>?_
  try dsimp only at e
  refine c0 [] [0,1,2] Z fn_159 aM Q7L [] (V3 ..) Z<|wS 2 0 Z Qz (all':=V3 ..) Z (H':=V3 ..) Z<|wP Z<|nk2 5 4 Z<|Qm ?_
  cases (Zi e)
  refine Q1P (Hr:=[]) [] results122 (QU 2 Z Z Qz Q17 Z Z) (Q1w Z) ⟨Z,Z,Z⟩ (asK [] Z) Z Z (.inl Z)
def Q8K (rc:Int→Int→Int→ByteArray→Int→Int→(List Q4)→(List V)→Option (Int×Int×ByteArray×Nat)):Prop:=∀ (a0:Int)(a1:Int)(a2:Int)(a3:ByteArray)(a4:Int)(a5:Int)(qp0:OA)(qc1:Nat)(l6:List Q4)(qp2:OA)(qc3:Nat)(l7:List V)(o0:Int)(o1:Int)(o2:ByteArray)(o3:Nat),rc a0 a1 a2 a3 a4 a5 l6 l7=some (o0,o1,o2,o3)→QY prog 91 [.agg #[.int .u8 a0,.int .u8 a1,.int .i64 a2,.string a3,.int .i64 a4,.int .u8 a5,.slice qp0 l6.length qc1],.slice qp2 l7.length qc3] [.sli 7 Qj qp0 qc1 l6,.sli 3 R_V qp2 qc3 l7] [] (R0 (.tuple #[.agg #[.int .u8 o0,.int .i64 o1,.string o2],.int .i64 (o3:Int)]) [] [])
theorem QcR (N:Nat)(rc:Int→Int→Int→ByteArray→Int→Int→(List Q4)→(List V)→Option (Int×Int×ByteArray×Nat))(ih:Q8K rc):Q8K (Q50 N rc):=by
 intro a0 a1 a2 a3 a4 a5 qp0 qc1 l6 qp2 qc3 l7 o0 o1 o2 o3 e
 unfold Q50 at e
 refine Qt func91 Z ntmps91 Z (S:=[_,_]) Z fun C=>sq<|wB Z fun g2=>QH Z Z Z Zq Z Q1X Z fun g4=>wP Z<|nk3 4 2 1 Z<|sq<|Q1v Z Z Z Zq Z Q1X Q8t Z (out:=V3 ..) Z<|QH Z Z Z Zq Z Q1X Z fun g6=>wS 0 0 Z Qz (all':=V3 ..) Z (H':=V3 ..) Z<|nk4 6 4 2 1 Z<|Q5<|ks e fun aS e hLj_1=>?_
 unfold Q7Z at e
 refine cut (σ:=Int×Int×ByteArray) aS (fun (a9,aA,aB)=>(.inl (a9,aA,aB),[(6,.pointer (some ⟨g6,0,none⟩)),(4,.pointer (some ⟨g4,0,none⟩))],[],[.blk g6 [.int .u8 a9,.int .i64 aA,.string aB] 57,.blk g4 [.int .u8 0,.int .i64 0,.string EB] 57])) ?_ ?_
 refine sq<|wF Z Qcz<|wD 2 0 Z tS_61 tA_61 Z<|nk5 13 6 4 2 1 Z<|Qk<|sq<|wP2 Z<|nk6 14 13 6 4 2 1 Z ?_
 refine Qs e Z (fun e=>?_) fun e=>?_
 refine k3 6 4 2 Z<|Qe<|wF Z Qaw<|wM 2 1 (V3 ..) Z Qz Q17 Z<|wS 0 0 Z Qz (all':=V3 ..) Z (H':=V3 ..) Z<|Q2<|Q6<|Qo [0,1] Z (H':=[_,_]) Z ?_
 refine jM (a1,a2,a3) e [6,4] [] Z
 refine k5 13 6 4 2 1 Z<|sq<|wP2 Z<|nk6 18 13 6 4 2 1 Z ?_
 refine Qs e Z (fun e=>?_) fun e=>?_
 refine k4 6 4 2 1 Z<|Q5<|kn e fun aT e hLj_2=>?_
 refine cut (σ:=Bool) aT (fun aH=>(aH,[(6,.pointer (some ⟨g6,0,none⟩)),(4,.pointer (some ⟨g4,0,none⟩)),(2,.pointer (some ⟨g2,0,none⟩)),(1,.slice qp2 l7.length qc3),(29,.bool aH)],[.sli 7 Qj qp0 qc1 l6,.sli 3 R_V qp2 qc3 l7],[.blk g6 [.int .u8 0,.int .i64 0,.string EB] 57,.blk g4 [.int .u8 0,.int .i64 0,.string EB] 57,.blk g2 [.int .u8 a0,.int .u8 a1,.int .i64 a2,.string a3,.int .i64 a4,.int .u8 a5,.slice qp0 l6.length qc1] 65])) ?_ ?_
 refine Qe<|wF Z Q7g<|wD 2 4 Z QV Q13 Z<|wP2 Z ?_
 refine QE e (fun e=>?_) fun e=>?_
 refine wF Z Q7g<|wD 2 4 Z QV Q13 Z<|wP Z<|wN Z Q1F<|wP2 Z<|Q2 ?_
 refine jM (decide (a4 < (l7.length:Int))) e [6,4,2,1,29] [0,1] Z
 refine wO4 Z<|wO Z<|wP Z<|Q2 ?_
 refine jM false e [6,4,2,1,29] [0,1] Z
 rintro aH j
 try dsimp only at j ⊢
 have e:=hLj_2
 try rw [j] at e
 refine Qs e Z (fun e=>?_) fun e=>?_
 refine k4 6 4 2 1 Z<|Qe<|wP Z<|wF Z Q7g<|wD 2 4 Z QV Q13 Z<|kg e fun aU e=>kn e fun aP aV e=>Qbv 1 a4.toNat Z Z Z Zq Z Z Z Z (Q2K aU) aV Q1F Qz fun bF bG bD b8=>Q1i Q24 1 Z fun bH aW _=>?_
 subst aW
 refine wLd 0 0 (V3 ..) Z Qz Q17 Z<|wS 0 0 Z Qz (all':=V3 ..) Z (H':=V3 ..) Z<|Q2<|Q6<|Qo [0,1] Z (H':=[_,_]) Z ?_
 refine jM (aP.k,aP.n,aP.s) e [6,4] [] Z
 refine k2 6 4 Z<|QT<|Q6<|Qo [0,1] Z (H':=[_,_]) Z ?_
 refine jM (0,0,EB) e [6,4] [] Z
 refine k5 13 6 4 2 1 Z<|sq<|wP2 Z<|nk5 35 6 4 2 1 Z ?_
 refine Qs e Z (fun e=>?_) fun e=>?_
 refine k3 4 2 1 Z<|sq<|wP Z<|nt<|Q5<|ks e fun aX e hLj_3=>?_
 refine cut (σ:=(List V)×OA×Nat×Nat) aX (fun (a6,a7,a8,aF)=>(.inl a6,[(4,.pointer (some ⟨g4,0,none⟩)),(2,.pointer (some ⟨g2,0,none⟩)),(7,.slice a7 aF a8)],[.sli 7 Qj qp0 qc1 l6],[.blk g4 [.int .u8 0,.int .i64 0,.string EB] 57,.blk g2 [.int .u8 a0,.int .u8 a1,.int .i64 a2,.string a3,.int .i64 a4,.int .u8 a5,.slice qp0 l6.length qc1] 65,.own 57 3 R_V (.slice a7 aF a8) a6])) ?_ ?_
 refine sq<|wP Z<|nt<|Qk<|Q97 57 3 R_V<|wc_pick [0,2,3] Z (H':=V3 ..) Z<|lop (σ:=Nat×(List V)×OA×Nat×Nat) (Q3c N l6 rc l7) (fun (aG,z,aC,aD,aE)=>((aG,z),[(8,.int .i64 (aG:Int)),(7,.slice aC aE aD),(4,.pointer (some ⟨g4,0,none⟩)),(2,.pointer (some ⟨g2,0,none⟩)),(1,.slice qp2 l7.length qc3)],[.sli 7 Qj qp0 qc1 l6,.sli 3 R_V qp2 qc3 l7],[.own 57 3 R_V (.slice aC aE aD) z,.blk g4 [.int .u8 0,.int .i64 0,.string EB] 57,.blk g2 [.int .u8 a0,.int .u8 a1,.int .i64 a2,.string a3,.int .i64 a4,.int .u8 a5,.slice qp0 l6.length qc1] 65])) (0,[],none,0,0) e [8,7,4,2,1] [0,1] Z fun s_ bI bJ e hLu1=>?_
 obtain ⟨aG,z,aC,aD,aE⟩:=s_
 unfold Q3c at e
 try dsimp only at e ⊢
 refine Q5<|sq<|wP Z<|wF Z Q60<|wD 2 6 Z Q4k Q4M Z<|wN Z Q1g<|wP Z<|Qi (Nlt aG l6.length)<|nk6 41 8 7 4 2 1 Z ?_
 refine Qs e Z (fun e=>?_) fun e=>?_
 refine k5 8 7 4 2 1 Z<|kt<|Q5<|Qk<|sq<|wF Z Q60<|wD 2 6 Z Q4k Q4M Z<|wP Z<|kn e fun aL aY e=>wI 0 aG Z aY Q1g Q1t fun bK bL bE b9=>Q1i Q1G 1 Z fun aZ b0 _=>?_
 subst b0
 refine wLd 1 0 (V7 ..) Z Q1t Q3z Z<|wP Z ?_
 obtain ⟨⟨aI,aJ,aK,aQ⟩,b1,e⟩:=Qy e
 try dsimp only at e
 refine wC [] [0,1,2] Z fn_91 Z (ih aL.kind aL.value.k aL.value.n aL.value.s aL.var aL.op aZ.1 aZ.2 aL.kids qp2 qc3 l7 _ _ _ _ b1) (asK [0,4] Z) Z (H':=V3 ..) Z ?_
 rintro _ _ _ ⟨rfl,rfl,rfl⟩
 refine wP2 Z<|wP Z<|QH Z Z Z Zq Z Q1X Z fun g9=>wS 0 0 Z Qz (all':=V3 ..) Z (H':=V4 ..) Z<|wP Z<|nk7 10 9 8 7 4 2 1 Z<|Q5<|sq<|wP2 Z<|Qi (Nne aQ 0)<|nk8 55 10 9 8 7 4 2 1 Z ?_
 refine Qs e Z (fun e=>?_) fun e=>?_
 ·
  refine k2 10 4 Z<|sq<|Q1v Z Z Z Zq Z Q1X Q8t Z (out:=V3 ..) Z<|wP Z<|wS 2 0 Z Qz (all':=V3 ..) Z (H':=V4 ..) Z<|wP Z<|nk2 5 4 Z<|Qm<|rb<|Q3<|rb<|rb<|Q3 ?_
  cases (Qb hLj_1 (Qb hLj_3 (Qb hLu1 ((Zi e).symm)))).symm
  refine Q1P (Hr:=[]) [] results91 (QU 2 Z Z Qz Q17 Z Z) (Q1w Z) ⟨Z,Z,Z⟩ (asK [] Z) Z Z (.inl Z)
 refine k6 9 8 7 4 2 1 Z<|kt<|Qe<|wP Z<|wM 0 0 (V3 ..) Z Qz Q17 Z<|QR Z Z Z Zq Z Q1F Qz Q1X Z (zs:=[.int .u8 0,.int .i64 0,.string EB]) (by kernel_rfl) Z (out:=V3 ..) Z fun bM=>kg e fun aO e=>Q1V ([(⟨aI,aJ,aK⟩ : V)]) 2 0 Z Z Z Zq Z Z Z Z Z (fun F w hφ=>⟨[.int .u8 aI,.int .i64 aJ,.string aK],[],Z,Z,⟨(),Z,Q16⟩,Z⟩) Q1F tR_57 Z Z (Nat.le_trans aO (by decide)) (Nat.le_trans (Nat.mul_le_mul_right _ aO) (by decide)) (H2:=fun b2 b3=>(V5 ..)) (fun _ _=>Z) fun b2 b3=>Q4K 0 Z (H':=V4 ..) Z<|Qx (S':=V9 ..) Z Z Z Z Z<|Q2<|Q6<|Qv<|k5 7 8 4 2 1 Z<|Qe<|wP2 Z<|kg e fun b4 e=>Qi (QD (a:=aG) (b:=1) b4)<|Qx (S':=V6 ..) Z Z Z Z Z<|Q2<|Qo [1,2,3] Z (H':=V3 ..) Z ?_
 refine rnd (aG+1,(z++([(⟨aI,aJ,aK⟩ : V)])),b2,b3,((z++([(⟨aI,aJ,aK⟩ : V)])).length)) (Qp hLu1 (zs e)) [8,7,4,2,1] [3,4] Z
 refine k3 7 4 2 Z<|QQ<|Q7<|Q7<|Qq<|Qo [1,2,0] Z (H':=V3 ..) Z ?_
 refine jn (z,aC,aD,aE) (Qb hLu1 (zs e)) [4,2,7] [0] Z
 ·
  rintro ⟨a6,a7,a8,aF⟩ j
  try dsimp only at j ⊢
  have e:=Qp hLj_3 j
  refine sq<|wF Z Q6S<|wD 1 5 Z Qa2 Qa0 Z<|wP Z<|Q1Z 2 Z fun aM _=>?_
  subst aM
  obtain ⟨⟨bA,bB,bC⟩,b5,e⟩:=Qy e
  try dsimp only at e
  refine QdI [] [0,1,2] [2] Z Z Z Zq Z Z fn_122 Z (@Qed N a5 a7 a8 a6 _ _ _ b5) (fun F w hφ hh=>(Q10 (Q3g (hh _ (Q1f (k:=0) Z))) Q16)) (fun _ _ _ hR=>by obtain ⟨rfl,rfl,rfl⟩:=hR;exact ⟨Z,(fun _ h=>Qbz h)⟩) Z Z (H':=V3 ..) Z ?_
  rintro _ _ _ ⟨rfl,rfl,rfl⟩
  refine wP2 Z<|wS 0 0 Z Qz (all':=V3 ..) Z (H':=V3 ..) Z<|wP Z<|nk2 5 4 Z<|Qm<|Qg<|Q3 ?_
  cases (Qb hLj_1 ((Zi e).symm)).symm
  refine Q1P (Hr:=[]) [] results91 (QU 0 Z Z Qz Q17 Z Z) (Q1w Z) ⟨Z,Z,Z⟩ (asK [] Z) Z Z (.inl Z)
 refine k2 6 4 Z<|QT<|Q6<|Qo [0,1] Z (H':=[_,_]) Z ?_
 refine jM (0,0,EB) e [6,4] [] Z
 rintro ⟨a9,aA,aB⟩ j
 try dsimp only at j ⊢
 have e:=Qp hLj_1 j
 try dsimp only at e
 refine Q5<|sq<|wM 0 0 (V3 ..) Z Qz Q17 Z<|kn e fun bN b6 e=>c0 [] [0,1] Z fn_72 b6 Q4E [] [_,_] Z<|wP Z<|nk3 70 6 4 Z ?_
 refine Qs e Z (fun e=>?_) fun e=>?_
 ·
  refine k1 4 Z<|sq<|Q1v Z Z Z Zq Z Q1X Q8t Z (out:=V3 ..) Z<|wS 1 0 Z Qz (all':=V3 ..) Z (H':=[_,_]) Z<|wP Z<|nk2 5 4 Z<|Qm<|Q3 ?_
  cases (Zi e)
  refine Q1P (Hr:=[]) [] results91 (QU 1 Z Z Qz Q17 Z Z) (Q1w Z) ⟨Z,Z,Z⟩ (asK [] Z) Z Z (.inl Z)
 ·
  refine k2 6 4 Z<|kt<|sq<|wM 0 0 (V3 ..) Z Qz Q17 Z<|wS 1 0 Z Qz (all':=V3 ..) Z (H':=[_,_]) Z<|wP Z<|nk2 5 4 Z<|Qm ?_
  cases (Zi e)
  refine Q1P (Hr:=[]) [] results91 (QU 1 Z Z Qz Q17 Z Z) (Q1w Z) ⟨Z,Z,Z⟩ (asK [] Z) Z Z (.inl Z)
theorem QdE : ∀ (N:Nat),Q8K (Q2x N):=by
 intro N
 induction N with
 | zero=>intro a0 a1 a2 a3 a4 a5 qp0 qc1 l6 qp2 qc3 l7 o0 o1 o2 o3 e;cases e
 | succ N ih=>exact QcR N (Q2x N) ih
theorem Qdd {N qc1 qc3 qc5 qc7:Nat} {a0 a1 a3 a4 a5 a7 a8 a10 a11:Int} {qp0 qp2 qp4 qp6:OA} {l2:List Q1n} {a6:ByteArray} {l9:List Q4} {l12 l13 o2:List V} {o4:Bool} (e:Q5y N a0 a1 l2 a3 a4 a5 a6 a7 a8 l9 a10 a11 l12 l13=some (o2,o4)):QY prog 92 [.agg #[.int .u8 a0,.int .i64 a1,.slice qp0 l2.length qc1,.int .u8 a3,.int .u8 a4,.int .i64 a5,.string a6,.int .i64 a7,.int .u8 a8,.slice qp2 l9.length qc3],.agg #[.int .i64 a10,.int .i64 a11,.slice qp4 l12.length qc5],.slice qp6 l13.length qc7] [.sli 5 Q1p qp0 qc1 l2,.sli 7 Qj qp2 qc3 l9,.sli 3 R_V qp4 qc5 l12,.sli 3 R_V qp6 qc7 l13] [] (fun v p q=>∃ o0 o1 o3,R0 (.tuple #[.slice o0 o3 o1,.bool o4]) [] [.own 57 3 R_V (.slice o0 o3 o1) o2] v p q):=by
 unfold Q5y at e
 refine Qt func92 Z ntmps92 Z (S:=V3 ..) Z fun C=>sq<|wB Z fun g3=>wB Z fun g4=>wP2 Z<|nk3 4 3 2 Z<|Q5<|sq<|wF Z Q6T<|wD 0 1 Z QV Q13 Z<|wF Z QcA<|wD 1 1 Z QV Q13 Z<|wP Z<|nk4 15 4 3 2 Z ?_
 refine Qs e Z (fun e=>?_) fun e=>?_
 refine k0 Z<|sq<|wP2 Z<|nr<|Q3 ?_
 have j:=(Zi e).symm
 obtain ⟨rfl,rfl⟩:=Pj j.symm
 refine Q7n 57 3 R_V ?_
 refine re2 [0] [] results92 Z ⟨none,0,0,Z,Z,Z⟩ Z
 refine k3 4 3 2 Z<|kt<|sq<|QR Z Z Z Zq Z Q1F Qz Q1X Z (zs:=[]) (by kernel_rfl) Z (out:=[]) Z fun bM=>wP Z<|wl_row (sz:=3) (m:=0) R_V [] 0 Z (fun F w hφ=>Z) Z (by decide) (H':=V3 ..) Z<|kg e fun aO e=>Q86 0 3 Z Z Z Zq Z Z Z Z Z Q1F tR_57 Z Z (Nat.le_trans aO (by decide)) (Nat.le_trans (Nat.mul_le_mul_right _ aO) (by decide)) (H2:=fun aS aT=>(V3 ..)) (fun _ _=>Z) fun aS aT=>wP Z<|nk3 8 4 3 Z<|Q5<|ks e fun aU e hLj_1=>?_
 refine cut (σ:=(List V)×OA×Nat×Nat) aU (fun (aL,aE,aF,aG)=>(.inl aL,[(8,.slice aE aG aF)],[],[.own 57 3 R_V (.slice aE aG aF) aL])) ?_ ?_
 refine sq<|wP Z<|nt<|Qk<|lop (σ:=Nat×(List V)×OA×Nat×Nat) (Q2b N l2 l12) (fun (aC,a9,aD,aA,aB)=>((aC,a9),[(9,.int .i64 (aC:Int)),(8,.slice aD aB aA),(4,.pointer (some ⟨g4,0,none⟩)),(3,.pointer (some ⟨g3,0,none⟩))],[.sli 3 R_V qp4 qc5 l12,.sli 5 Q1p qp0 qc1 l2,.sli 7 Qj qp2 qc3 l9],[.own 57 3 R_V (.slice aD aB aA) a9,.blk g4 [.int .i64 a10,.int .i64 a11,.slice qp4 l12.length qc5] 71,.blk g3 [.int .u8 a0,.int .i64 a1,.slice qp0 l2.length qc1,.int .u8 a3,.int .u8 a4,.int .i64 a5,.string a6,.int .i64 a7,.int .u8 a8,.slice qp2 l9.length qc3] 67])) (0,l13,aS,aT,(l13).length) e [9,8,4,3] [2,0,1] Z fun s_ bN bO e hLu1=>?_
 obtain ⟨aC,a9,aD,aA,aB⟩:=s_
 unfold Q2b at e
 try dsimp only at e ⊢
 refine Q5<|sq<|wP Z<|wF Z Q7h<|wD 2 2 Z Qad QaD Z<|wN Z Q4O<|wP Z<|Qi (Nlt aC l2.length)<|nk5 23 9 8 4 3 Z ?_
 refine Qs e Z (fun e=>?_) fun e=>?_
 refine k4 9 8 4 3 Z<|kt<|Q5<|ks e fun aV e hLj_2=>?_
 unfold Q5W at e
 refine cut (σ:=(List V)×OA×Nat×Nat) aV (fun (aH,aI,aJ,aK)=>(.inl aH,[(9,.int .i64 (aC:Int)),(8,.slice aI aK aJ),(4,.pointer (some ⟨g4,0,none⟩)),(3,.pointer (some ⟨g3,0,none⟩))],[.sli 3 R_V qp4 qc5 l12,.sli 5 Q1p qp0 qc1 l2,.sli 7 Qj qp2 qc3 l9],[.own 57 3 R_V (.slice aI aK aJ) aH,.blk g4 [.int .i64 a10,.int .i64 a11,.slice qp4 l12.length qc5] 71,.blk g3 [.int .u8 a0,.int .i64 a1,.slice qp0 l2.length qc1,.int .u8 a3,.int .u8 a4,.int .i64 a5,.string a6,.int .i64 a7,.int .u8 a8,.slice qp2 l9.length qc3] 67])) ?_ ?_
 refine Qk<|sq<|wF Z Q7h<|wD 2 2 Z Qad QaD Z<|wP Z<|kn e fun aR aW e=>wI 1 aC Z aW Q4O Q7i fun bP bQ bI bB=>Q1i Q5P 1 Z fun bR aX _=>?_
 subst aX
 refine wLd 0 0 (V5 ..) Z Q7i tA_59 Z<|QH Z Z Z Zq Z tZ_59 Z fun bS=>wS 0 0 Z Q7i (all':=V5 ..) Z (H':=V4 ..) Z<|nk5 10 9 8 4 3 Z<|sq<|wF Z tF_59_0<|wD 0 0 Z tS_54 tA_54 Z<|nk6 32 10 9 8 4 3 Z<|Qk<|sq<|wP2 Z<|nk7 33 32 10 9 8 4 3 Z ?_
 refine Qs e Z (fun e=>?_) fun e=>?_
 refine k4 9 8 4 3 Z<|Qe<|wP Z<|wF Z Q6m<|wD 2 2 Z Q6n Q6E Z<|wP Z<|kn e fun aM aY e=>wI 2 aC Z aY Q1F Qz fun bT bU bJ bC=>Q1i Q24 1 Z fun bV aZ _=>?_
 subst aZ
 refine wLd 0 0 (V3 ..) Z Qz Q17 Z<|QR Z Z Z Zq Z Q1F Qz Q1X Z (zs:=[.int .u8 0,.int .i64 0,.string EB]) (by kernel_rfl) Z (out:=V3 ..) Z fun bW=>kg e fun aP e=>Q1V [aM] 2 0 Z Z Z Zq Z Z Z Z Z (fun F w hφ=>⟨[.int .u8 (aM.k),.int .i64 (aM.n),.string aM.s],[],Z,Z,⟨(),Z,Q16⟩,Z⟩) Q1F tR_57 Z Z (Nat.le_trans aP (by decide)) (Nat.le_trans (Nat.mul_le_mul_right _ aP) (by decide)) (H2:=fun b0 b1=>(V5 ..)) (fun _ _=>Z) fun b0 b1=>Q4K 0 Z (H':=V4 ..) Z<|Qx (S':=V11 ..) Z Z Z Z Z<|Q2<|Q6<|Q6<|Qo [1,2,3] Z (H':=V3 ..) Z ?_
 refine jM (a9++[aM],b0,b1,(a9++[aM]).length) e [9,8,4,3] [4,5,6] Z
 refine k6 32 10 9 8 4 3 Z<|sq<|wP2 Z<|nk7 43 32 10 9 8 4 3 Z ?_
 refine Qs e Z (fun e=>?_) fun e=>?_
 refine k5 10 9 8 4 3 Z<|Q5<|kg e fun b2 e=>kn e fun aN aQ e=>kn e fun bD b3 e=>QG [0,1,2,3,4,5,6,7,8,9,10] Z Z fun z=>xP z 0 Z<|xF z 1 Z Q3G<|xD z 2 0 1 Z QV Q13 Z<|Qas z 3 1 aR.var.toNat Z Z Z Zq Z Z Z Z Z (Q2K b2) (Q9P aQ) Q1F Qz fun bE b4=>?_
 subst b4
 refine QdJ z 4 Q24 1 aR.var.toNat 0 Z Z Z Zq Z Z Z Z aQ Qz Q17 (v:=.agg #[.int .u8 (aN.k),.int .i64 (aN.n),.string aN.s]) Z Z fun _=>xF z 5 Z Q6m<|xD z 6 2 2 Z Q6n Q6E Z<|xP z 7 Z<|xI z 8 2 aC Z b3 Q1F Qz fun bX bY bK bF=>QJ Q24 1 Z fun bZ b5 _=>?_
 subst b5
 refine xL z 9 0 0 (V3 ..) Z Qz Q17 Z<|Q8l z 10 Z Z Z Zq Z Z Z Z (neqV _ _ aN bD)<|Qu z Z<|Qv<|k5 55 9 8 4 3 Z ?_
 refine Qs e Z (fun e=>?_) fun e=>?_
 refine k0 Z<|sq<|wP2 Z<|nr<|Qg<|Qg<|Q3<|rb<|Q3 ?_
 have j:=(Zi e).symm
 replace j:=Qb hLj_2 j
 replace j:=Qb hLu1 j
 replace j:=Qb hLj_1 j
 obtain ⟨rfl,rfl⟩:=Pj j.symm
 refine Q7n 57 3 R_V ?_
 refine re2 [0] [] results92 Z ⟨none,0,0,Z,Z,Z⟩ Z
 refine k4 9 8 4 3 Z<|QT<|Q6<|Q6<|Qo [1,2,3] Z (H':=V3 ..) Z ?_
 refine jM (a9,some ⟨bE,0,none⟩,aA,aB) e [9,8,4,3] [4,5,6] Z
 refine k6 32 10 9 8 4 3 Z<|sq<|wP2 Z<|nk6 56 10 9 8 4 3 Z ?_
 refine Qs e Z (fun e=>?_) fun e=>?_
 refine k5 10 9 8 4 3 Z<|Q5<|kn e fun bG b6 e=>QG [0,1,2,3,4,5,6,7] Z Z fun z=>xF z 0 Z Qcy<|xM z 1 0 2 (V3 ..) Z Qz Q17 Z<|xF z 2 Z Q6m<|xD z 3 2 2 Z Q6n Q6E Z<|xP z 4 Z<|xI z 5 2 aC Z b6 Q1F Qz fun c5 c7 bL bH=>QJ Q24 1 Z fun c8 b7 _=>?_
 subst b7
 refine xL z 6 0 0 (V3 ..) Z Qz Q17 Z<|Q8l z 7 Z Z Z Zq Z Z Z Z (neqV _ _ aR.v bG)<|Qu z Z<|Qv<|k5 65 9 8 4 3 Z ?_
 refine Qs e Z (fun e=>?_) fun e=>?_
 refine k0 Z<|sq<|wP2 Z<|nr<|Qg<|Qg<|Q3<|rb<|Q3 ?_
 have j:=(Zi e).symm
 replace j:=Qb hLj_2 j
 replace j:=Qb hLu1 j
 replace j:=Qb hLj_1 j
 obtain ⟨rfl,rfl⟩:=Pj j.symm
 refine Q7n 57 3 R_V ?_
 refine re2 [0] [] results92 Z ⟨none,0,0,Z,Z,Z⟩ Z
 refine k4 9 8 4 3 Z<|QT<|Q6<|Q6<|Qo [1,2,3] Z (H':=V3 ..) Z ?_
 refine jM (a9,aD,aA,aB) e [9,8,4,3] [4,5,6] Z
 refine k4 9 8 4 3 Z<|QT<|Q6<|Q6<|Qo [1,2,3] Z (H':=V3 ..) Z ?_
 refine jM (a9,aD,aA,aB) e [9,8,4,3] [2,3,4] Z
 rintro ⟨aH,aI,aJ,aK⟩ j
 try dsimp only at j ⊢
 have e:=Qp hLj_2 j
 refine Qe<|wP2 Z<|kg e fun b8 e=>Qi (QD (a:=aC) (b:=1) b8)<|Qx (S':=V5 ..) Z Z Z Z Z<|Q2 ?_
 refine rnd (aC+1,aH,aI,aJ,aK) (Qp hLu1 (zs e)) [9,8,4,3] [0,1,2] Z
 refine k1 8 Z<|QQ<|Q7<|Q7<|Qq<|Qo [0] Z (H':=[_]) Z ?_
 refine jn (a9,aD,aA,aB) (Qb hLu1 (zs e)) [8] [] Z
 rintro ⟨aL,aE,aF,aG⟩ j
 try dsimp only at j ⊢
 have e:=Qp hLj_1 j
 refine sq<|wP2 Z<|wP Z<|nk2 7 6 Z<|Qm ?_
 have j:=(Zi e).symm
 obtain ⟨rfl,rfl⟩:=Pj j.symm
 refine re2 [0] [] results92 Z ⟨aE,aF,aG,Z,Z,Z⟩ Z
theorem Qee {N qc1 qc3 aL aH qc9:Nat} {a0 a1 a3 a4 a5 a7 a8:Int} {qp0 qp2 aM aI qp8:OA} {l2:List Q1n} {a6:ByteArray} {l9:List Q4} {a9:List Int} {aC:List V} {l12:List QP} {o2:List Q9} (e:Q78 N a0 a1 l2 a3 a4 a5 a6 a7 a8 l9 a9 aC l12=some o2):QY prog 50 [.agg #[.int .u8 a0,.int .i64 a1,.slice qp0 l2.length qc1,.int .u8 a3,.int .u8 a4,.int .i64 a5,.string a6,.int .i64 a7,.int .u8 a8,.slice qp2 l9.length qc3],.agg #[.slice aM a9.length aL,.slice aI aC.length aH],.slice qp8 l12.length qc9] [.sli 5 Q1p qp0 qc1 l2,.sli 7 Qj qp2 qc3 l9,.sli 1 Q3B aM aL a9,.sli 3 R_V aI aH aC,.sli 3 Q14 qp8 qc9 l12] [] (fun v p q=>∃ o0 o1,R0 (.slice o0 o2.length o1) [.sli 2 QN o0 o1 o2] [] v p q):=by
 unfold Q78 at e
 refine Qt func50 Z ntmps50 Z (S:=V3 ..) Z fun C=>sq<|wB Z fun g3=>wB Z fun g4=>wP Z<|nk3 4 3 2 Z<|Q5<|sq<|wF Z Q8H<|wD 1 0 Z QcC Qcw Z<|wP Z<|nk4 15 4 3 2 Z ?_
 refine Qs e Z (fun e=>?_) fun e=>?_
 refine k2 4 3 Z<|sq<|wF Z Q8I<|wM 1 3 (V7 ..) Z Q1t Q3z Z<|wF Z tF_93_1<|wD 0 1 Z Q6n Q6E Z ?_
 obtain ⟨⟨bU,bB,bV,bC⟩,bF,e⟩:=Qy e
 try dsimp only at e
 refine wC [] [0,1] Z fn_91 Z (QdE N a3 a4 a5 a6 a7 a8 qp2 qc3 l9 aI aH aC _ _ _ _ bF) (asK [1,3] Z) Z (H':=[_,_]) Z ?_
 rintro _ _ _ ⟨rfl,rfl,rfl⟩
 refine wP2 Z<|wP Z<|QH Z Z Z Zq Z Q1X Z fun g7=>wS 0 0 Z Qz (all':=V3 ..) Z (H':=V3 ..) Z<|wP Z<|nk3 8 7 4 Z<|Q5<|Q5<|kn e fun bG e hLj_1=>?_
 refine cut (σ:=Bool) bG (fun aZ=>(aZ,[(4,.pointer (some ⟨g4,0,none⟩)),(35,.bool aZ)],[.sli 1 Q3B aM aL a9,.sli 3 R_V aI aH aC],[.blk g4 [.slice aM a9.length aL,.slice aI aC.length aH] 93])) ?_ ?_
 refine Qe<|wP2 Z<|Qi (Neq bC 0)<|wP Z ?_
 refine QE e (fun e=>?_) fun e=>?_
 refine wF Z Qdx<|wD 0 0 Z tS_55 tA_55 Z<|wP2 Z<|wP Z ?_
 refine QE e (fun e=>?_) fun e=>?_
 refine wF Z Q2g<|wD 0 1 Z Q95 Q92 Z<|wP2 Z<|Q2<|Qo [1] Z (H':=[_]) Z ?_
 refine jM (bB !=0) e [4,35] [2,3] Z
 refine wO2 Z<|wO Z<|wP Z<|Q2<|Qo [1] Z (H':=[_]) Z ?_
 refine jM false e [4,35] [2,3] Z
 refine wO2 Z<|wO Z<|wP2 Z<|wO2 Z<|wO Z<|wP Z<|Q2<|Qo [1] Z (H':=[_]) Z ?_
 refine jM false e [4,35] [2,3] Z
 rintro aZ j
 try dsimp only at j ⊢
 have e:=hLj_1
 try rw [j] at e
 refine Qs e Z (fun e=>?_) fun e=>?_
 refine k1 4 Z<|sq<|wM 0 0 [_,_] Z tS_93 tA_93 Z<|QR Z Z Z Zq Z tE_89 tS_93 tZ_93 Z (zs:=[V1,V1]) (by kernel_rfl) Z (out:=[_,_]) Z fun bH=>wP Z<|nk1 6 Z<|Qm<|Q3<|Q3<|we_row (sz:=2) (m:=1) QN ([(⟨a9,aC⟩ : Q9)]) 0 Z (fun F w hφ=>⟨[.slice aM a9.length aL,.slice aI aC.length aH],[],Z,Z,⟨((aM,aL),(aI,aH)),Z,(Q10 (hφ _ (Q1f (k:=0) Z)) (Q10 (hφ _ (Q1f (k:=1) Z)) Q16))⟩,Z⟩) Z (by decide) (H':=[_,_]) Z<|Qep 0 Z (H':=[_]) Z<|we_fact (.sli 2 QN (some ⟨bH,0,none⟩) 1 ([(⟨a9,aC⟩ : Q9)])) (fun F w hφ=>Q3g (hφ _ (Q1f (k:=0) Z))) ?_
 obtain rfl:=Zi e
 refine re1 [] [0] results50 Z ⟨some ⟨bH,0,none⟩,1,Z,Z,Z⟩ Z
 refine k0 Z<|kt<|sq<|wP Z<|nr<|Q3 ?_
 obtain rfl:=Zi e
 refine we_fact (.sli 2 QN none 0 ([] : List Q9)) (fun _ _ _=>Q2n) ?_
 refine re1 [] [0] results50 Z ⟨none,0,Z,Z,Z⟩ Z
 refine k3 4 3 2 Z<|kt<|sq<|wP Z<|nt<|Q5<|ks e fun bI e hLj_2=>?_
 refine cut (σ:=(List Q9)×OA×Nat×Nat) bI (fun (aN,aF,aG,aV)=>(.inl aN,[(4,.pointer (some ⟨g4,0,none⟩)),(3,.pointer (some ⟨g3,0,none⟩)),(9,.slice aF aV aG)],[.sli 1 Q3B aM aL a9,.sli 3 R_V aI aH aC,.sli 5 Q1p qp0 qc1 l2,.sli 7 Qj qp2 qc3 l9],[.blk g4 [.slice aM a9.length aL,.slice aI aC.length aH] 93,.blk g3 [.int .u8 a0,.int .i64 a1,.slice qp0 l2.length qc1,.int .u8 a3,.int .u8 a4,.int .i64 a5,.string a6,.int .i64 a7,.int .u8 a8,.slice qp2 l9.length qc3] 67,Q23 QW 93 2 (.slice aF aV aG) aN])) ?_ ?_
 refine sq<|wP Z<|nt<|Qk<|wc_sh [Q23 QW 93 2 (V1) [],_,_] (fun _ h=>h.treeNil QW 93 2)<|lop (σ:=Nat×(List Q9)×OA×Nat×Nat) (Q32 N l12 a0 a1 l2 a3 a4 a5 a6 a7 a8 l9 aC a9) (fun (aD,aA,aO,aP,aQ)=>((aD,aA),[(10,.int .i64 (aD:Int)),(9,.slice aO aQ aP),(4,.pointer (some ⟨g4,0,none⟩)),(3,.pointer (some ⟨g3,0,none⟩)),(2,.slice qp8 l12.length qc9)],[.sli 1 Q3B aM aL a9,.sli 3 R_V aI aH aC,.sli 5 Q1p qp0 qc1 l2,.sli 7 Qj qp2 qc3 l9,.sli 3 Q14 qp8 qc9 l12],[Q23 QW 93 2 (.slice aO aQ aP) aA,.blk g4 [.slice aM a9.length aL,.slice aI aC.length aH] 93,.blk g3 [.int .u8 a0,.int .i64 a1,.slice qp0 l2.length qc1,.int .u8 a3,.int .u8 a4,.int .i64 a5,.string a6,.int .i64 a7,.int .u8 a8,.slice qp2 l9.length qc3] 67])) (0,[],none,0,0) e [10,9,4,3,2] [2,3,0,1,4] Z fun s_ c9 cA e hLu1=>?_
 obtain ⟨aD,aA,aO,aP,aQ⟩:=s_
 unfold Q32 at e
 try dsimp only at e ⊢
 refine Q5<|sq<|wP2 Z<|wN Z Q4N<|wP Z<|Qi (Nlt aD l12.length)<|nk6 41 10 9 4 3 2 Z ?_
 refine Qs e Z (fun e=>?_) fun e=>?_
 refine k5 10 9 4 3 2 Z<|kt<|Q5<|ks e fun bJ e hLj_3=>?_
 unfold Q8A at e
 refine cut (σ:=(List Q9)×OA×Nat×Nat) bJ (fun (aR,aS,aT,aU)=>(.inl aR,[(10,.int .i64 (aD:Int)),(9,.slice aS aU aT),(4,.pointer (some ⟨g4,0,none⟩)),(3,.pointer (some ⟨g3,0,none⟩)),(2,.slice qp8 l12.length qc9)],[.sli 1 Q3B aM aL a9,.sli 3 R_V aI aH aC,.sli 5 Q1p qp0 qc1 l2,.sli 7 Qj qp2 qc3 l9,.sli 3 Q14 qp8 qc9 l12],[Q23 QW 93 2 (.slice aS aU aT) aR,.blk g4 [.slice aM a9.length aL,.slice aI aC.length aH] 93,.blk g3 [.int .u8 a0,.int .i64 a1,.slice qp0 l2.length qc1,.int .u8 a3,.int .u8 a4,.int .i64 a5,.string a6,.int .i64 a7,.int .u8 a8,.slice qp2 l9.length qc3] 67])) ?_ ?_
 refine Qk<|Q5<|kn e fun cB bK e=>?_
 obtain ⟨⟨aB,bW⟩,bL,e⟩:=Qy e
 try dsimp only at e
 refine QG [0,1,2,3,4,5,6,8,9,10] Z Z fun z=>xM z 0 2 0 (V10 ..) Z Q3Q Q9b Z<|xP2 z 1 Z<|xI z 3 4 aD Z bK Q4N Q4l fun cC cD c7 bX=>QJ Q40 1 Z fun cE bM _=>?_
 subst bM
 refine xL z 4 1 0 (V3 ..) Z Q4l Qab Z<|xF z 5 Z tF_93_1<|xD z 6 1 1 Z Q6n Q6E Z<|xS z 7 Z<|c3 [] [0,1,2] Z fn_92 bL Qdd [5,6,0,4] (V3 ..) Z fun aJ aK bY=>Q2<|wxx 0 [] Z<|xP2 z 8 Z<|xP z 10 Z<|xS z 11 Z<|wP Z<|Q2<|wxx 0 [] Z<|xS z 12 Z<|wP Z<|Q2<|wxx 0 [] Z<|Qu z Z<|Qv<|k7 12 11 10 9 4 3 2 Z<|Q5<|sq<|wP2 Z<|nk7 56 11 10 9 4 3 2 Z ?_
 refine Qs e Z (fun e=>?_) fun e=>?_
 refine k5 10 9 4 3 2 Z<|QQ<|Q7<|Qq<|Qo [1,2,3] Z (H':=V3 ..) Z ?_
 refine jM (aA,aO,aP,aQ) e [10,9,4,3,2] [3,4,5,6,7] Z
 refine k6 11 10 9 4 3 2 Z<|kt<|Q5<|sq<|wF Z Q8H<|wD 3 0 Z QcC Qcw Z<|wP Z<|nk7 59 11 10 9 4 3 2 Z ?_
 refine Qs e Z (fun e=>?_) fun e=>?_
 refine k0 Z<|sq<|wP Z<|nr<|rb<|Q3<|rb<|Q3 ?_
 obtain rfl:=(Qb hLj_2 (Qb hLu1 (Qb hLj_3 (zs e)))).symm
 refine we_fact (.sli 2 QN none 0 ([] : List Q9)) (fun _ _ _=>Q2n) ?_
 refine re1 [] [0] results50 Z ⟨none,0,Z,Z,Z⟩ Z
 ·
  refine k6 11 10 9 4 3 2 Z<|kt<|kg e fun aY e=>kn e fun aE bN e=>kg e fun b1 e=>kg e fun bO e=>QG [0,2,3,5,6,7,8,9,12,13] Z Z fun z=>xP z 0 Z<|xF z 2 Z tF_93_0<|xD z 3 2 0 Z tS_39 tA_39 Z<|xP2 z 5 Z<|xI z 7 7 aD Z bN Q4N Q4l fun cF cG c8 bZ=>QJ Q40 1 Z fun cH bP _=>?_
  subst bP
  refine xF z 8 Z Q3X<|xL z 9 1 0 [_] Z QV Q13 Z<|xP z 12 Z ?_
  refine Qa6 z 1 10 Z Z Z Z Z Z ?_ ?_
  rotate_left
  focus
   refine QR Z Z Z Zq Z Q8s QV tZ_3 Z (zs:=[.int .i64 0]) (by kernel_rfl) Z (out:=[_]) Z fun bQ=>Q2<|wxx 0 [3] Z<|xS z 1 Z<|QR Z Z Z Zq Z Q8s QV tZ_3 Z (zs:=[]) (by kernel_rfl) Z (out:=[]) Z fun c5=>Q2<|wxx 0 [4] Z<|xS z 4 Z<|wl_row (sz:=1) (m:=0) Q3B [] 0 Z (fun F w hφ=>Z) Z (by decide) (H':=V6 ..) Z<|Q86 0 6 Z Z Z Zq Z Z Z Z Z Q8s tR_3 Z Z (Nat.le_trans aY (by decide)) (Nat.le_trans (Nat.mul_le_mul_right _ aY) (by decide)) (H2:=fun b2 b3=>(V6 ..)) (fun _ _=>Z) fun b2 b3=>Q2<|wxx 0 [] Z<|xS z 11 Z<|Q1V [aE.id] 0 1 Z Z Z Zq Z Z Z Z Z (fun F w hφ=>⟨[.int .i64 (aE.id)],[],Z,Z,⟨(),Z,Q16⟩,Z⟩) Q8s tR_3 Z Z (Nat.le_trans b1 (by decide)) (Nat.le_trans (Nat.mul_le_mul_right _ b1) (by decide)) (H2:=fun aW aX=>(V6 ..)) (fun _ _=>Z) fun aW aX=>Q4K 1 Z (H':=V5 ..) Z ?_
  rotate_right
  focus
   refine QR Z Z Z Zq Z Q8s QV tZ_3 Z (zs:=[]) (by kernel_rfl) Z (out:=[]) Z fun c5=>Q2<|wxx 0 [3] Z ?_
   refine Qa6 z 4 10 Z Z Z Z Z Z ?_ ?_
   rotate_left
   focus
    refine QR Z Z Z Zq Z Q8s QV tZ_3 Z (zs:=[.int .i64 0]) (by kernel_rfl) Z (out:=[_]) Z fun bQ=>Q2<|wxx 0 [4] Z<|xS z 4 Z<|wl_row (sz:=1) (m:=0) Q3B [] 1 Z (fun F w hφ=>Z) Z (by decide) (H':=V6 ..) Z<|Q86 1 6 Z Z Z Zq Z Z Z Z Z Q8s tR_3 Z Z (Nat.le_trans aY (by decide)) (Nat.le_trans (Nat.mul_le_mul_right _ aY) (by decide)) (H2:=fun b2 b3=>(V6 ..)) (fun _ _=>Z) fun b2 b3=>Q2<|wxx 0 [] Z ?_
   rotate_right
   focus
    refine wl_row (sz:=1) (m:=0) Q3B [] 0 Z (fun F w hφ=>Z) Z (by decide) (H':=V5 ..) Z<|Q86 0 6 Z Z Z Zq Z Z Z Z Z Q8s tR_3 Z Z (Nat.le_trans aY (by decide)) (Nat.le_trans (Nat.mul_le_mul_right _ aY) (by decide)) (H2:=fun b2 b3=>(V5 ..)) (fun _ _=>Z) fun b2 b3=>Q2<|wxx 0 [] Z<|xS z 10 Z<|QR Z Z Z Zq Z Q8s QV tZ_3 Z (zs:=[.int .i64 0]) (by kernel_rfl) Z (out:=[_]) Z fun bQ=>Q2<|wxx 0 [4] Z ?_
   all_goals
    refine xS z 11 Z<|Q1V [aE.id] 1 0 Z Z Z Zq Z Z Z Z Z (fun F w hφ=>⟨[.int .i64 (aE.id)],[],Z,Z,⟨(),Z,Q16⟩,Z⟩) Q8s tR_3 Z Z (Nat.le_trans b1 (by decide)) (Nat.le_trans (Nat.mul_le_mul_right _ b1) (by decide)) (H2:=fun aW aX=>(V6 ..)) (fun _ _=>Z) fun aW aX=>Q4K 0 Z (H':=V5 ..) Z ?_
  all_goals
   refine Q2<|wxx 0 [3] Z<|QaN z 13 Z Z Z Zq Z Z tZ_93 tP_93 Z (out:=[_,_]) Z<|xS z 14 Z<|QR Z Z Z Zq Z tE_89 tS_93 tZ_93 Z (zs:=[V1,V1]) (by kernel_rfl) Z (out:=[_,_]) Z fun cI=>Q2<|wxx 0 [4] Z<|xS z 15 Z<|Qar 3 Z fun bD _=>?_
   subst bD
   refine Q1Z 2 Z fun b4 _=>?_
   subst b4
   refine Qc4 3 Z fun b0 b5=>?_
   have b6:List.map (fun x:Q9×((OA×Nat)×(OA×Nat))=>x.1) (b0++[((⟨a9++[aE.id],aB⟩ : Q9),((aW,aX),(aJ,aK)))])=aA++[(⟨a9++[aE.id],aB⟩ : Q9)]:=pair_app b5 (us:=[(⟨a9++[aE.id],aB⟩ : Q9)]) rfl
   have b7:b0.length+([((⟨a9++[aE.id],aB⟩ : Q9),((aW,aX),(aJ,aK)))] : List (Q9×((OA×Nat)×(OA×Nat)))).length≤2932031007402:=by rw [Q81 b5];exact bO
   refine Q1V (R:=QW.pair) ([((⟨a9++[aE.id],aB⟩ : Q9),((aW,aX),(aJ,aK)))]) 4 1 Z Z Z Zq Z Z Z Z Z (fun F w hφ=>⟨[.slice aW ((a9++[aE.id]).length) aX,.slice aJ aB.length aK],[],Z,Z,Z,Z⟩) tE_89 tR_93 Z Z (Nat.le_trans b7 (by decide)) (Nat.le_trans (Nat.mul_le_mul_right _ b7) (by decide)) (H2:=fun b8 b9=>(V7 ..)) (fun _ _=>Z) fun b8 b9=>Q4K 1 Z (H':=V6 ..) Z<|wl_as (d:=75) (v':=.slice b8 ((aA++[(⟨a9++[aE.id],aB⟩ : Q9)]).length) b9) (S':=V21 ..) Z Z (by rw [Q81 b6])<|Q3U 3 (φ':=.own 93 2 QW.pair (.slice b8 ((aA++[(⟨a9++[aE.id],aB⟩ : Q9)]).length) b9) (b0++[((⟨a9++[aE.id],aB⟩ : Q9),((aW,aX),(aJ,aK)))])) Z (by rw [Q81 b6]) (H':=V6 ..) Z<|wl_pick [2,1,0,3,4,5] Z (H':=V6 ..) Z<|wl_sh [bagF QW (b0++[((⟨a9++[aE.id],aB⟩ : Q9),((aW,aX),(aJ,aK)))]) none,_,_,_] (fun _ h=>QC.bagPush (T:=QW) (x:=(⟨a9++[aE.id],aB⟩ : Q9)) (r:=((aW,aX),(aJ,aK))) (zs:=b0) (H:=V4 ..) h 0 Z)<|wl_sh [Q23 QW 93 2 (.slice b8 ((aA++[(⟨a9++[aE.id],aB⟩ : Q9)]).length) b9) (aA++[(⟨a9++[aE.id],aB⟩ : Q9)]),_,_] (fun _ h=>h.treeIn 1 0 Z Z Z b6)<|Q2<|wxx 0 [1] Z<|xS z 16 Z<|Qx (S':=V21 ..) Z Z Z Z Z<|Q2<|wxx 0 [] Z<|Qu z Z<|Q6 ?_
   refine jM ((aA++[(⟨a9++[aE.id],aB⟩ : Q9)]),b8,b9,((aA++[(⟨a9++[aE.id],aB⟩ : Q9)]).length)) e [10,9,4,3,2] [6,7,8,9,10] Z
 rintro ⟨aR,aS,aT,aU⟩ j
 try dsimp only at j ⊢
 have e:=Qp hLj_3 j
 refine Qe<|wP2 Z<|kg e fun bR e=>Qi (QD (a:=aD) (b:=1) bR)<|Qx (S':=V6 ..) Z Z Z Z Z<|Q2 ?_
 refine rnd (aD+1,aR,aS,aT,aU) (Qp hLu1 (zs e)) [10,9,4,3,2] [0,1,2,3,4] Z
 refine k3 9 4 3 Z<|QQ<|Q7<|Q7<|Qq<|Qo [1,2,0] Z (H':=V3 ..) Z ?_
 refine jn (aA,aO,aP,aQ) (Qb hLu1 (zs e)) [4,3,9] [0,1,2,3] Z
 rintro ⟨aN,aF,aG,aV⟩ j
 try dsimp only at j ⊢
 have e:=Qp hLj_2 j
 refine Q5<|sq<|wF Z Q8H<|wD 1 0 Z QcC Qcw Z<|wP Z<|nk3 78 4 9 Z ?_
 refine Qs e Z (fun e=>?_) fun e=>?_
 refine k1 4 Z<|sq<|wM 0 0 [_,_] Z tS_93 tA_93 Z<|QR Z Z Z Zq Z tE_89 tS_93 tZ_93 Z (zs:=[V1,V1]) (by kernel_rfl) Z (out:=[_,_]) Z fun bS=>wP Z<|nk1 6 Z<|Qm<|Q3<|we_row (sz:=2) (m:=1) QN ([(⟨a9,aC⟩ : Q9)]) 0 Z (fun F w hφ=>⟨[.slice aM a9.length aL,.slice aI aC.length aH],[],Z,Z,⟨((aM,aL),(aI,aH)),Z,(Q10 (hφ _ (Q1f (k:=0) Z)) (Q10 (hφ _ (Q1f (k:=1) Z)) Q16))⟩,Z⟩) Z (by decide) (H':=V4 ..) Z<|Qep 0 Z (H':=V3 ..) Z<|we_fact (.sli 2 QN (some ⟨bS,0,none⟩) 1 ([(⟨a9,aC⟩ : Q9)])) (fun F w hφ=>Q3g (hφ _ (Q1f (k:=0) Z))) ?_
 obtain rfl:=Zi e
 refine re1 [] [0] results50 Z ⟨some ⟨bS,0,none⟩,1,Z,Z,Z⟩ Z
 refine k1 9 Z<|kt<|sq<|wP2 Z<|nk1 6 Z<|Qm ?_
 obtain rfl:=Zi e
 refine we_treeLen 2 Z fun bT _=>?_
 try have hE_:=j
 subst bT
 try have j:=hE_
 refine Qep 2 Z (H':=[_,_]) Z<|we_fact (.sli 2 QN aF aG aN) (fun F w hφ=>tree_sli Q99 (hφ _ (Q1f (k:=0) Z)) (fun _ h=>h) (fun _ h=>h)) ?_
 refine re1 [] [0] results50 Z ⟨aF,aG,Z,Z,Z⟩ Z
theorem QdF {N qc1 qc3 qc5 o3:Nat} {a0:ByteArray} {a1 a2:Int} {qp0 qp2 qp4:OA} {l3:List Qn} {l4:List QO} {l5:List QP} {o2:List Q9} (e:Q6a N a0 a1 a2 l3 l4 l5=some (o2,o3)):QY prog 36 [.agg #[.string a0,.int .i64 a1,.int .i64 a2,.slice qp0 l3.length qc1,.slice qp2 l4.length qc3],.slice qp4 l5.length qc5] [.sli 10 QB qp0 qc1 l3,.sli 4 QF qp2 qc3 l4,.sli 3 Q14 qp4 qc5 l5] [] (fun v p q=>∃ o0 o1,R0 (.tuple #[.slice o0 o2.length o1,.int .i64 (o3:Int)]) [.sli 2 QN o0 o1 o2] [] v p q):=by
 unfold Q6a at e
 refine Qt func36 Z ntmps36 Z (S:=[_,_]) Z fun C=>sq<|wB Z fun g2=>wP2 Z<|nk2 2 1 Z<|sq<|Q1v Z Z Z Zq Z tZ_93 tP_93 Z (out:=[_,_]) Z<|QR Z Z Z Zq Z tE_89 tS_93 tZ_93 Z (zs:=[V1,V1]) (by kernel_rfl) Z (out:=[_,_]) Z fun aQ=>wP Z<|nk3 6 2 1 Z<|sq<|wP Z<|nt<|Q5<|kn e fun aU e hLj_1=>?_
 refine cut (σ:=(List Q9)×Nat×OA×Nat) aU (fun (aI,aO,aJ,aK)=>((aI,aO),[(6,.slice aJ aI.length aK),(7,.int .i64 (aO:Int))],[.sli 2 QN aJ aK aI],[])) ?_ ?_
 refine sq<|wP Z<|nt<|Qk<|Q97 3 1 Q3B<|Q97 57 3 R_V<|wc_row (sz:=2) (m:=1) QW.pair ([((⟨[],[]⟩ : Q9),((none,0),(none,0)))]) 2 Z (fun F w hφ=>⟨[V1,V1],[],Z,Z,Z,Z⟩) Z (by decide) (H':=V4 ..) Z<|wc_sh [bagF QW [] none,_,_,_,_] (fun _ h=>h.bagNil QW)<|wc_pick [1,2,0,3,4] Z (H':=V5 ..) Z<|wc_sh [bagF QW ([((⟨[],[]⟩ : Q9),((none,0),(none,0)))]) none,_,_] (fun _ h=>QC.bagPush (T:=QW) (x:=(⟨[],[]⟩ : Q9)) (r:=((none,0),(none,0))) (zs:=[]) (H:=V3 ..) h 0 Z)<|wc_sh [Q23 QW 93 2 (.slice (some ⟨aQ,0,none⟩) 1 1) ([(⟨[],[]⟩ : Q9)]),_] (fun _ h=>h.treeIn 1 0 Z Z Z Z)<|wc_treeLen 0 Z fun aS _=>wc_at 2 (v':=.slice (some ⟨aQ,0,none⟩) ([(⟨[],[]⟩ : Q9)].length) 1) Z (by rw [aS])<|wc_hAs 0 (φ':=Q23 QW 93 2 (.slice (some ⟨aQ,0,none⟩) ([(⟨[],[]⟩ : Q9)].length) 1) ([(⟨[],[]⟩ : Q9)])) Z (by rw [aS]) (H':=[Q23 QW 93 2 (.slice (some ⟨aQ,0,none⟩) ([(⟨[],[]⟩ : Q9)].length) 1) ([(⟨[],[]⟩ : Q9)]),.blk g2 [.string a0,.int .i64 a1,.int .i64 a2,.slice qp0 l3.length qc1,.slice qp2 l4.length qc3] 52]) Z<|wc_freeze 0 Z (H':=[_]) Z<|wc_fact (.sli 2 QN (some ⟨aQ,0,none⟩) 1 ([(⟨[],[]⟩ : Q9)])) (fun F w hφ=>tree_sli Q99 (hφ _ (Q1f (k:=0) Z)) (fun _ h=>h) (fun _ h=>h))<|lop (σ:=Nat×Nat×(List Q9)×OA×Nat) (Q1L N l3 l5) (fun (aB,a9,a5,a6,a7)=>((aB,a9,a5),[(8,.int .i64 (aB:Int)),(7,.int .i64 (a9:Int)),(6,.slice a6 a5.length a7),(2,.pointer (some ⟨g2,0,none⟩)),(1,.slice qp4 l5.length qc5)],[.sli 2 QN a6 a7 a5,.sli 10 QB qp0 qc1 l3,.sli 4 QF qp2 qc3 l4,.sli 3 Q14 qp4 qc5 l5],[.blk g2 [.string a0,.int .i64 a1,.int .i64 a2,.slice qp0 l3.length qc1,.slice qp2 l4.length qc3] 52])) (0,0,[(⟨[],[]⟩ : Q9)],some ⟨aQ,0,none⟩,1) e [8,7,6,2,1] [0,2,3,4] Z fun s_ bJ bK e hLu1=>?_
 obtain ⟨aB,a9,a5,a6,a7⟩:=s_
 unfold Q1L at e
 try dsimp only at e ⊢
 refine Q5<|Q5<|kn e fun aV e hLj_2=>?_
 refine cut (σ:=Bool) aV (fun aM=>(aM,[(8,.int .i64 (aB:Int)),(7,.int .i64 (a9:Int)),(6,.slice a6 a5.length a7),(2,.pointer (some ⟨g2,0,none⟩)),(1,.slice qp4 l5.length qc5),(21,.bool aM)],[.sli 2 QN a6 a7 a5,.sli 10 QB qp0 qc1 l3,.sli 4 QF qp2 qc3 l4,.sli 3 Q14 qp4 qc5 l5],[.blk g2 [.string a0,.int .i64 a1,.int .i64 a2,.slice qp0 l3.length qc1,.slice qp2 l4.length qc3] 52])) ?_ ?_
 refine Qe<|wP Z<|wF Z Q6R<|wD 0 3 Z Qa1 Qaa Z<|wN Z Q4d<|wP Z<|Qi (Nlt aB l3.length)<|wP Z ?_
 refine QE e (fun e=>?_) fun e=>?_
 refine wP2 Z<|Qi (Nle a9 4096)<|wP Z<|Q2 ?_
 refine jM (decide (a9≤4096)) e [8,7,6,2,1,21] [0,1,2,3] Z
 refine wO2 Z<|wP Z<|Q2 ?_
 refine jM false e [8,7,6,2,1,21] [0,1,2,3] Z
 rintro aM j
 try dsimp only at j ⊢
 have e:=hLj_2
 try rw [j] at e
 refine Qs e Z (fun e=>?_) fun e=>?_
 refine k5 8 7 6 2 1 Z<|kt<|Q5<|Qk<|sq<|wP Z<|nt<|Q5<|kn e fun aW e hLj_3=>?_
 refine cut (σ:=(List Q9)×OA×Nat×Nat) aW (fun (aA,aC,aD,aL)=>(aA,[(8,.int .i64 (aB:Int)),(7,.int .i64 (a9:Int)),(2,.pointer (some ⟨g2,0,none⟩)),(1,.slice qp4 l5.length qc5),(9,.slice aC aL aD)],[.sli 10 QB qp0 qc1 l3,.sli 4 QF qp2 qc3 l4,.sli 3 Q14 qp4 qc5 l5],[.blk g2 [.string a0,.int .i64 a1,.int .i64 a2,.slice qp0 l3.length qc1,.slice qp2 l4.length qc3] 52,.own 93 2 QN (.slice aC aL aD) aA])) ?_ ?_
 refine sq<|wP Z<|nt<|Qk<|Q97 93 2 QN<|lop (σ:=Nat×(List Q9)×OA×Nat×Nat) (Q2m N a5 a9 l3 aB l5) (fun (aE,a8,aF,aG,aH)=>((aE,a8),[(10,.int .i64 (aE:Int)),(9,.slice aF aH aG),(8,.int .i64 (aB:Int)),(7,.int .i64 (a9:Int)),(6,.slice a6 a5.length a7),(2,.pointer (some ⟨g2,0,none⟩)),(1,.slice qp4 l5.length qc5)],[.sli 2 QN a6 a7 a5,.sli 10 QB qp0 qc1 l3,.sli 4 QF qp2 qc3 l4,.sli 3 Q14 qp4 qc5 l5],[.own 93 2 QN (.slice aF aH aG) a8,.blk g2 [.string a0,.int .i64 a1,.int .i64 a2,.slice qp0 l3.length qc1,.slice qp2 l4.length qc3] 52])) (0,[],none,0,0) e [10,9,8,7,6,2,1] [0,1,2,3] Z fun s_ bL bM e hLu2=>?_
 obtain ⟨aE,a8,aF,aG,aH⟩:=s_
 unfold Q2m at e
 try dsimp only at e ⊢
 refine Q5<|Q5<|kn e fun aX e hLj_4=>?_
 refine cut (σ:=Bool) aX (fun aN=>(aN,[(10,.int .i64 (aE:Int)),(9,.slice aF aH aG),(8,.int .i64 (aB:Int)),(7,.int .i64 (a9:Int)),(6,.slice a6 a5.length a7),(2,.pointer (some ⟨g2,0,none⟩)),(1,.slice qp4 l5.length qc5),(34,.bool aN)],[.sli 2 QN a6 a7 a5,.sli 10 QB qp0 qc1 l3,.sli 4 QF qp2 qc3 l4,.sli 3 Q14 qp4 qc5 l5],[.own 93 2 QN (.slice aF aH aG) a8,.blk g2 [.string a0,.int .i64 a1,.int .i64 a2,.slice qp0 l3.length qc1,.slice qp2 l4.length qc3] 52])) ?_ ?_
 refine Qe<|wP2 Z<|wN Z tE_89<|wP Z<|Qi (Nlt aE a5.length)<|wP Z ?_
 refine QE e (fun e=>?_) fun e=>?_
 refine wP2 Z<|Q1Z 0 Z fun aY _=>wN Z tE_89<|Qi (len_is aY)<|wP Z<|kg e fun aZ e=>Qi (QD (a:=a9) (b:=a8.length) aZ)<|wP Z<|Qi (Nle (a9+a8.length) 4096)<|wP Z<|Q2 ?_
 refine jM (decide ((a9+a8.length)≤4096)) e [10,9,8,7,6,2,1,34] [0,1,2,3] Z
 refine wO4 Z<|wO Z<|wP Z<|Q2 ?_
 refine jM false e [10,9,8,7,6,2,1,34] [0,1,2,3] Z
 rintro aN j
 try dsimp only at j ⊢
 have e:=hLj_4
 try rw [j] at e
 refine Qs e Z (fun e=>?_) fun e=>?_
 refine k7 10 9 8 7 6 2 1 Z<|kt<|Q5<|Qk<|kn e fun bN b0 e=>kn e fun bO b1 e=>kn e fun b2 b3 e=>kg e fun aT e=>QG [0,1,2,3,4,5,6,7,8,9,10] Z Z fun z=>xP z 0 Z<|xF z 1 Z Q6R<|xD z 2 1 3 Z Qa1 Qaa Z<|xP z 3 Z<|xI z 4 1 aB Z b0 Q4d Q3Q fun bP bQ bH bC=>QJ Q33 1 Z fun bR b4 _=>?_
 subst b4
 refine xL z 5 2 0 (V10 ..) Z Q3Q Q9b Z<|xP2 z 6 Z<|xI z 8 4 aE Z b1 tE_89 tS_93 fun bS bT bI bD=>QJ Q8L 1 Z fun bU b5 _=>?_
 subst b5
 refine xL z 9 2 0 [_,_] Z tS_93 tA_93 Z<|xP z 10 Z<|xS z 11 Z<|c2 [] [0,1] Z fn_50 b3 Qee [4,5,0,1,11] [_,_] Z fun bE bF=>Q2<|wxx 1 [1] Z<|xS z 12 Z<|Q86 0 0 Z Z Z Zq Z Z Z Z Z tE_89 tR_93 Z Z (Nat.le_trans aT (by decide)) (Nat.le_trans (Nat.mul_le_mul_right _ aT) (by decide)) (H2:=fun b6 b7=>[_,_]) (fun _ _=>Z) fun b6 b7=>Q2<|wxx 0 [1] Z<|xS z 13 Z<|Qx (S':=V19 ..) Z Z Z Z Z<|Q2<|wxx 0 [] Z<|Qu z Z<|Q6<|Qv<|k7 9 10 8 7 6 2 1 Z<|Qe<|wP2 Z<|kg e fun b8 e=>Qi (QD (a:=aE) (b:=1) b8)<|Qx (S':=V8 ..) Z Z Z Z Z<|Q2 ?_
 refine rnd (aE+1,a8++b2,b6,b7,(a8++b2).length) (Qp hLu2 (zs e)) [10,9,8,7,6,2,1] [9,10,11,12] Z
 refine k5 9 8 7 2 1 Z<|QQ<|Q7<|Q7<|Qq<|Qo [1,0] Z (H':=[_,_]) Z ?_
 refine jn (a8,aF,aG,aH) (Qb hLu2 (zs e)) [8,7,2,1,9] [1,2,3] Z
 rintro ⟨aA,aC,aD,aL⟩ j
 try dsimp only at j ⊢
 have e:=hLj_3
 try rw [j] at e
 refine sq<|wP2 Z<|nk5 6 8 7 2 1 Z<|Qe<|wP2 Z<|Q1Z 1 Z fun b9 _=>wN Z tE_89<|Qi (len_is b9)<|wP Z<|kg e fun bA e=>Qi (QD (a:=a9) (b:=aA.length) bA)<|Qx (S':=V8 ..) Z Z Z Z Z<|Q2<|Q6<|Qv<|k5 7 6 8 2 1 Z<|Qe<|wP2 Z<|kg e fun bB e=>Qi (QD (a:=aB) (b:=1) bB)<|Qx (S':=V6 ..) Z Z Z Z Z<|Q2 ?_
 have j:=(Zi e).symm
 replace j:=Qp hLu1 j
 refine we_ownLen 1 Z fun aP _=>?_
 try have hE_:=j
 subst aP
 try have j:=hE_
 refine Qep 1 Z (H':=[_]) Z<|we_fact (.sli 2 QN aC aD aA) (fun F w hφ=>Q3g (hφ _ (Q1f (k:=0) Z))) ?_
 refine we_roundK (_,aB+1,a9+aA.length,aA,aC,aD) (Nat.lt_succ_self _) j [8,7,6,2,1] Z (asK [0,2,3,4] Z) Z
 refine k2 7 6 Z<|QQ<|Q7<|Q7<|Qq<|Qo [] Z (H':=[]) Z ?_
 refine jn (a5,a9,a6,a7) (Qb hLu1 (zs e)) [6,7] [0] Z
 rintro ⟨aI,aO,aJ,aK⟩ j
 try dsimp only at j ⊢
 have e:=hLj_1
 try rw [j] at e
 try dsimp only at e
 refine sq<|wP2 Z<|wP2 Z<|nk2 5 4 Z<|Qm ?_
 have j:=(Zi e).symm
 obtain ⟨rfl,rfl⟩:=Pj j.symm
 refine re2 [] [0] results36 Z ⟨aJ,aK,Z,Z,Z⟩ Z
end Go.Proofs.YtbgodclhmgmcgaaGreatDoor
