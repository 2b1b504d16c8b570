import Derived.Shelf.SlSortCmp.InsertionK
import Derived.DeepKeys4
import Derived.Laws.BytesArg
import Derived.Laws.BytesString
import Derived.Laws.IdiomStrings
import Derived.Lib.LaidTab
import Derived.Lib.ItoaNum
import Derived.LaidSub
import Derived.Test.YtbgodclhmgmcgaaGreatDoorXM
import Derived.Test.YtbgodclhmgmcgaaGreatDoorSq
namespace Go.Proofs.YtbgodclhmgmcgaaGreatDoor
open Tryz
open Go.RowKit
set_option maxRecDepth 100000
set_option maxHeartbeats 4000000
theorem tM_146:prog.underlying 146=some (.map 61 140):=by kernel_rfl
theorem Q8h:prog.underlying 221=some (.map 62 183):=by kernel_rfl
theorem tFT_57_1:fldTy prog 57 1=some (2,1):=by kernel_rfl
theorem idle_65 (g:Nat):Idle prog 65 #[.pointer (some ⟨g,0,none⟩)]:=by
 intro w
 refine callsD_of_wpS func65 Z fun c₀ cs hu=>?_
 apply wpS_seq
 apply wpS_region
 simp [wpOpsS,go_sem,recoverD,hu,ntmps65,Exit.thenS]
 apply wpS_seq
 apply wpS_region
 simp [wpOpsS,go_sem,Exit.thenS]
 refine wpS_cond (t:=false) (by simp [Act.eval,Array.replicate]) ?_
 refine wpS_of_wp (wp_skip ?_)
 cases c₀
 simp_all [bodyPostS,results,results65]
theorem recovers_65 (g:Nat):Recovers prog 65 #[.pointer (some ⟨g,0,none⟩)] (.iface 131 (.agg #[])) (fun w w1=>(∃ a t,w.heap[g]? =some (.cells #[a] t))∧w1=Q6D w g 0 [.int .i64 204]):=by
 rintro w w1 ⟨⟨a0,t0,hcell⟩,rfl⟩
 refine callsD_of_wpS func65 Z fun c₀ cs hu=>?_
 have hneq : ∀ w:World,(binOp BinOp.neq 20 (.iface 131 (.agg #[])) .nilIface).run prog w=.ok (.bool true) w:=fun _=>by kernel_rfl
 apply wpS_seq
 apply wpS_region
 simp [wpOpsS,go_sem,recoverD,hu,oneP,ntmps65,Exit.thenS]
 apply wpS_seq
 apply wpS_region
 simp [wpOpsS,go_sem,Exit.thenS,hneq]
 refine wpS_cond (t:=true) (by simp [Act.eval,Array.replicate]) ?_
 simp only [if_true]
 apply wpS_seq
 refine wpS_store (t:=32) (x:=.tmp 0) (y:=.const (.int .i64 204)) (v:=.int .i64 204) Z Z Z (by simp [Act.eval]) Z Z (by kernel_rfl) Z hcell ?_
 simp only [Exit.thenS]
 apply wpS_region
 have hass : ∀ w:World,(Instr.typeAssert (.iface 131 (.agg #[])) 20 131 false).run prog w=.ok ((.agg #[])) w:=fun _=>by kernel_rfl
 simp [wpOpsS,go_sem,hass]
 cases c₀
 simp_all [bodyPostS,results,results65]
def Q8z (rc:(List Q4)→Int→Option (Int)):Prop:=∀ (qp0:OA)(qc1:Nat)(l0:List Q4)(a1:Int)(o0:Int),rc l0 a1=some o0→QY prog 25 [.slice qp0 l0.length qc1,.int .i64 a1] [.sli 7 Qj qp0 qc1 l0] [] (R0 (.int .i64 o0) [] [])
theorem Qc8 (N:Nat)(rc:(List Q4)→Int→Option (Int))(ih:Q8z rc):Q8z (Q2i N rc):=by
 intro qp0 qc1 l0 a1 o0 e
 unfold Q2i at e
 refine Qt func25 Z ntmps25 Z (S:=[_,_]) Z fun C=>sq<|wP Z<|nk2 0 1 Z<|sq<|wP Z<|nt<|Q5<|kn e fun a7 e hLj_1=>?_
 refine cut (σ:=Int) a7 (fun a6=>(a6,[(1,.int .i64 a1),(5,.int .i64 a6)],[],[])) ?_ ?_
 refine sq<|wP Z<|nt<|Qk<|lop (σ:=Nat×Int) (Q1Q N l0 a1 rc) (fun (z,a0)=>((z,a0),[(6,.int .i64 (z:Int)),(5,.int .i64 a0),(0,.slice qp0 l0.length qc1),(1,.int .i64 a1)],[.sli 7 Qj qp0 qc1 l0],[])) (0,0) e [6,5,0,1] [0] Z fun s_ aN aO e hLu1=>?_
 obtain ⟨z,a0⟩:=s_
 unfold Q1Q at e
 try dsimp only at e ⊢
 refine Q5<|Q5<|kn e fun a8 e hLj_2=>?_
 refine cut (σ:=Bool) a8 (fun a5=>(a5,[(6,.int .i64 (z:Int)),(5,.int .i64 a0),(0,.slice qp0 l0.length qc1),(1,.int .i64 a1),(15,.bool a5)],[.sli 7 Qj qp0 qc1 l0],[])) ?_ ?_
 refine Qe<|wP2 Z<|wN Z Q1g<|wP Z<|Qi (Nlt z l0.length)<|wP Z ?_
 refine QE e (fun e=>?_) fun e=>?_
 refine wP2 Z<|wP2 Z<|Q2 ?_
 refine jM (decide (a0≤a1)) e [6,5,0,1,15] [0] Z
 refine wO2 Z<|wO Z<|wP Z<|Q2 ?_
 refine jM false e [6,5,0,1,15] [0] Z
 rintro a5 j
 try dsimp only at j ⊢
 have e:=hLj_2
 try rw [j] at e
 refine Qs e Z (fun e=>?_) fun e=>?_
 refine k4 6 5 0 1 Z<|kt<|Q5<|Qk<|Qe<|wP2 Z<|kg e fun a9 e=>Qi (i64_in a9)<|wP2 Z<|kn e fun aJ aA e=>wI 0 z Z aA Q1g Q1t fun aP aQ aM aK=>Q1i Q1G 1 Z fun aB aC _=>?_
 subst aC
 refine wF Z Q60<|wLd 1 6 [_] Z Q4k Q4M Z<|wP2 Z<|wP Z<|kg e fun aD e=>Qi (i64_in aD)<|wP Z<|kg e fun aE e=>Qi (i64_in aE)<|kn e fun aL aF e=>wC [] [] Z fn_25 Z (ih aB.1 aB.2 aJ.kids ((a1 - a0) - 1) _ aF) (asK [0] Z) Z (H':=[]) Z ?_
 rintro _ _ _ ⟨rfl,rfl,rfl⟩
 refine wP Z<|kg e fun aG e=>Qi (i64_in aG)<|Qx (S':=V16 ..) Z Z Z Z Z<|Q2<|Q6<|Qv<|k4 5 6 0 1 Z<|Qe<|wP2 Z<|kg e fun aH e=>Qi (QD (a:=z) (b:=1) aH)<|Qx (S':=V5 ..) Z Z Z Z Z<|Q2 ?_
 refine rnd (z+1,(a0+1)+aL) (Qp hLu1 (zs e)) [6,5,0,1] [3] Z
 refine k2 5 1 Z<|QQ<|Q7<|Q7<|Qq ?_
 refine jn a0 (Qb hLu1 (zs e)) [1,5] [] Z
 rintro a6 j
 try dsimp only at j ⊢
 have e:=hLj_1
 try rw [j] at e
 refine sq<|wP2 Z<|wP Z<|kg e fun aI e=>Qi (i64_in aI)<|Q64 Z Z Z Zq (rk_min Z Z Z)<|wP Z<|nk1 4 Z<|Qm ?_
 obtain rfl:=Zi e
 refine re1 [] [] results25 Z ⟨Z,Z,Z⟩ Z
theorem Q9H : ∀ (N:Nat),Q8z (Q1C N):=by
 intro N
 induction N with
 | zero=>intro qp0 qc1 l0 a1 o0 e;cases e
 | succ N ih=>exact Qc8 N (Q1C N) ih
theorem Qda {N qc1 qc3 qc5:Nat} {qp0 qp2 qp4:OA} {l0:List Q8} {l1:List Qf} {l2:List QP} {o0:Bool} (e:Q5u N l0 l1 l2=some o0):QY prog 9 [.agg #[.slice qp0 l0.length qc1,.slice qp2 l1.length qc3],.slice qp4 l2.length qc5] [.sli 2 Qd qp0 qc1 l0,.sli 5 Qh qp2 qc3 l1,.sli 3 Q14 qp4 qc5 l2] [] (R0 (.bool o0) [] []):=by
 unfold Q5u at e
 refine Qt func9 Z ntmps9 Z (S:=[_,_]) Z fun C=>sq<|wB Z fun g2=>wP Z<|nk2 2 1 Z<|sq<|wF Z Q4h<|wD 0 0 Z Q8u Q8F Z<|wN Z Q3d<|wF Z Q5Z<|wD 0 1 Z Q9o Q9C Z<|wN Z Q3e<|wP Z<|kg e fun aW e=>Qi (QD (a:=l0.length) (b:=l1.length) aW)<|wP Z<|nk3 5 2 1 Z<|Q5<|kn e fun aX e hLj_1=>?_
 refine cut (σ:=Int) aX (fun a7=>(a7,[(5,.int .i64 a7),(1,.slice qp4 l2.length qc5)],[.sli 3 Q14 qp4 qc5 l2],[])) ?_ ?_
 refine sq<|wP Z<|nt<|Qk<|lop (σ:=Nat×Int) (Q2N N l1) (fun (a6,aB)=>((a6,aB),[(6,.int .i64 (a6:Int)),(5,.int .i64 aB),(2,.pointer (some ⟨g2,0,none⟩)),(1,.slice qp4 l2.length qc5)],[.sli 2 Qd qp0 qc1 l0,.sli 5 Qh qp2 qc3 l1,.sli 3 Q14 qp4 qc5 l2],[.blk g2 [.slice qp0 l0.length qc1,.slice qp2 l1.length qc3] 25])) (0,((l0.length+l1.length:Nat):Int)) e [6,5,2,1] [0,1,2] Z fun s_ cW cX e hLu1=>?_
 obtain ⟨a6,aB⟩:=s_
 unfold Q2N at e
 try dsimp only at e ⊢
 refine Q5<|Q5<|kn e fun aY e hLj_2=>?_
 refine cut (σ:=Bool) aY (fun aE=>(aE,[(6,.int .i64 (a6:Int)),(5,.int .i64 aB),(2,.pointer (some ⟨g2,0,none⟩)),(1,.slice qp4 l2.length qc5),(27,.bool aE)],[.sli 2 Qd qp0 qc1 l0,.sli 5 Qh qp2 qc3 l1,.sli 3 Q14 qp4 qc5 l2],[.blk g2 [.slice qp0 l0.length qc1,.slice qp2 l1.length qc3] 25])) ?_ ?_
 refine Qe<|wP Z<|wF Z Q5Z<|wD 0 1 Z Q9o Q9C Z<|wN Z Q3e<|wP Z<|Qi (Nlt a6 l1.length)<|wP Z ?_
 refine QE e (fun e=>?_) fun e=>?_
 refine wP2 Z<|wP Z<|Q2 ?_
 refine jM (decide (aB < 400)) e [6,5,2,1,27] [0,1,2] Z
 refine wO2 Z<|wP Z<|Q2 ?_
 refine jM false e [6,5,2,1,27] [0,1,2] Z
 rintro aE j
 try dsimp only at j ⊢
 have e:=hLj_2
 try rw [j] at e
 refine Qs e Z (fun e=>?_) fun e=>?_
 refine k4 6 5 2 1 Z<|kt<|Q5<|kn e fun aZ e hLj_3=>?_
 unfold Q7B at e
 refine cut (σ:=Int) aZ (fun aF=>(aF,[(6,.int .i64 (a6:Int)),(5,.int .i64 aF),(2,.pointer (some ⟨g2,0,none⟩)),(1,.slice qp4 l2.length qc5)],[.sli 2 Qd qp0 qc1 l0,.sli 5 Qh qp2 qc3 l1,.sli 3 Q14 qp4 qc5 l2],[.blk g2 [.slice qp0 l0.length qc1,.slice qp2 l1.length qc3] 25])) ?_ ?_
 refine Qk<|sq<|wF Z Q5Z<|wD 0 1 Z Q9o Q9C Z<|wP Z<|kn e fun a0 b0 e=>wI 1 a6 Z b0 Q3e Q2X fun cY cZ cF bW=>Q1i Q1T 1 Z fun a1 b1 _=>?_
 subst b1
 refine wLd 2 0 (V5 ..) Z Q2X Q8U Z<|QH Z Z Z Zq Z tZ_52 Z fun g7=>wS 0 0 Z Q2X (all':=V5 ..) Z (H':=[_,_]) Z<|nk5 7 6 5 2 1 Z<|sq<|wP Z<|wF Z Q6R<|wD 0 3 Z Qa1 Qaa Z<|wN Z Q4d<|wP Z<|kg e fun b2 e=>Qi (i64_in b2)<|wF Z Q8G<|wD 0 4 Z QcB tA_50 Z<|wN Z Q5e<|wP Z<|kg e fun b3 e=>Qi (i64_in b3)<|Qx (S':=V13 ..) Z Z Z Z Z<|nk5 5 7 6 2 1 Z<|Q5<|kn e fun b4 e hLj_4=>?_
 refine cut (σ:=Int) b4 (fun aG=>(aG,[(5,.int .i64 aG),(7,.pointer (some ⟨g7,0,none⟩)),(6,.int .i64 (a6:Int)),(2,.pointer (some ⟨g2,0,none⟩)),(1,.slice qp4 l2.length qc5)],[.sli 10 QB a1.1.1 a1.1.2 a0.conds,.sli 4 QF a1.2.1 a1.2.2 a0.acts,.sli 2 Qd qp0 qc1 l0,.sli 5 Qh qp2 qc3 l1,.sli 3 Q14 qp4 qc5 l2],[.blk g7 [.string a0.name,.int .i64 (a0.salience),.int .i64 (a0.vars),.slice a1.1.1 a0.conds.length a1.1.2,.slice a1.2.1 a0.acts.length a1.2.2] 52,.blk g2 [.slice qp0 l0.length qc1,.slice qp2 l1.length qc3] 25])) ?_ ?_
 refine sq<|wP Z<|nt<|Qk<|lop (σ:=Nat×Int) (Q2O N a0) (fun (a9,aC)=>((a9,aC),[(8,.int .i64 (a9:Int)),(5,.int .i64 aC),(7,.pointer (some ⟨g7,0,none⟩)),(6,.int .i64 (a6:Int)),(2,.pointer (some ⟨g2,0,none⟩)),(1,.slice qp4 l2.length qc5)],[.sli 10 QB a1.1.1 a1.1.2 a0.conds,.sli 4 QF a1.2.1 a1.2.2 a0.acts,.sli 2 Qd qp0 qc1 l0,.sli 5 Qh qp2 qc3 l1,.sli 3 Q14 qp4 qc5 l2],[.blk g7 [.string a0.name,.int .i64 (a0.salience),.int .i64 (a0.vars),.slice a1.1.1 a0.conds.length a1.1.2,.slice a1.2.1 a0.acts.length a1.2.2] 52,.blk g2 [.slice qp0 l0.length qc1,.slice qp2 l1.length qc3] 25])) (0,((aB+(a0.conds.length:Int))+(a0.acts.length:Int))) e [8,5,7,6,2,1] [0,1,4,5,6] Z fun s_ d0 d1 e hLu2=>?_
 obtain ⟨a9,aC⟩:=s_
 unfold Q2O at e
 try dsimp only at e ⊢
 refine Q5<|Q5<|kn e fun b5 e hLj_5=>?_
 refine cut (σ:=Bool) b5 (fun aH=>(aH,[(8,.int .i64 (a9:Int)),(5,.int .i64 aC),(7,.pointer (some ⟨g7,0,none⟩)),(6,.int .i64 (a6:Int)),(2,.pointer (some ⟨g2,0,none⟩)),(1,.slice qp4 l2.length qc5),(52,.bool aH)],[.sli 10 QB a1.1.1 a1.1.2 a0.conds,.sli 4 QF a1.2.1 a1.2.2 a0.acts,.sli 2 Qd qp0 qc1 l0,.sli 5 Qh qp2 qc3 l1,.sli 3 Q14 qp4 qc5 l2],[.blk g7 [.string a0.name,.int .i64 (a0.salience),.int .i64 (a0.vars),.slice a1.1.1 a0.conds.length a1.1.2,.slice a1.2.1 a0.acts.length a1.2.2] 52,.blk g2 [.slice qp0 l0.length qc1,.slice qp2 l1.length qc3] 25])) ?_ ?_
 refine Qe<|wP Z<|wF Z Q6R<|wD 0 3 Z Qa1 Qaa Z<|wN Z Q4d<|wP Z<|Qi (Nlt a9 a0.conds.length)<|wP Z ?_
 refine QE e (fun e=>?_) fun e=>?_
 refine wP2 Z<|wP Z<|Q2 ?_
 refine jM (decide (aC < 400)) e [8,5,7,6,2,1,52] [0,1,2,3,4] Z
 refine wO2 Z<|wP Z<|Q2 ?_
 refine jM false e [8,5,7,6,2,1,52] [0,1,2,3,4] Z
 rintro aH j
 try dsimp only at j ⊢
 have e:=hLj_5
 try rw [j] at e
 refine Qs e Z (fun e=>?_) fun e=>?_
 refine k6 8 5 7 6 2 1 Z<|kt<|Q5<|Qk<|kn e fun bX b6 e=>kg e fun b7 e=>kn e fun aI b8 e=>kn e fun bY b9 e=>kg e fun bA e=>QG [0,1,2,3,4,5,6,7,8,9,10,11,12,13,14,17] Z Z fun z=>xP z 0 Z<|xF z 1 Z Q6R<|xD z 2 0 3 Z Qa1 Qaa Z<|xP z 3 Z<|xI z 4 0 a9 Z b6 Q4d Q3Q fun d2 d3 cG bZ=>QJ Q33 1 Z fun d4 bB _=>?_
 subst bB
 refine xF z 5 Z Q7h<|xL z 6 2 2 [_] Z Qad QaD Z<|xN z 7 Z Q4O<|xP z 8 Z<|QA (i64_in b7)<|xF z 9 Z Q6R<|xD z 10 0 3 Z Qa1 Qaa Z<|xP z 11 Z<|xI z 12 4 a9 Z b8 Q4d Q3Q fun d5 d6 cH c5=>QJ Q33 1 Z fun aM bC _=>?_
 subst bC
 refine xF z 13 Z Q8I<|xL z 14 2 3 (V7 ..) Z Q1t Q3z Z<|xS z 15 Z<|QR Z Z Z Zq Z Q1g Q1t tZ_65 Z (zs:=[.int .u8 0,.int .u8 0,.int .i64 0,.string EB,.int .i64 0,.int .u8 0,V1]) (by kernel_rfl) Z (out:=V7 ..) Z fun c7=>Q2<|wxx 0 [1,1] Z<|xS z 16 Z<|wl_row (sz:=7) (m:=1) Qj [aI.test] 0 Z (fun F w hφ=>⟨[.int .u8 (aI.test.kind),.int .u8 (aI.test.value.k),.int .i64 (aI.test.value.n),.string aI.test.value.s,.int .i64 (aI.test.var),.int .u8 (aI.test.op),.slice aM.2.1 aI.test.kids.length aM.2.2],[],Z,Z,(Qd1 (aM.2.1,aM.2.2) Z (Q10 (hφ _ (Q1f (k:=1) Z)) Q16)),Z⟩) Z (by decide) (H':=V3 ..) Z<|QdI [] [0,1,2] [0] Z Z Z Zq Z Z fn_25 Z (Q9H N (some ⟨c7,0,none⟩) 1 [aI.test] 400 _ b9) (fun F w hφ hh=>(Q10 (Q3g (hh _ (Q1f (k:=0) Z))) Q16)) (fun _ _ _ hR=>by obtain ⟨rfl,rfl,rfl⟩:=hR;exact ⟨Z,(fun _ h=>Qbz h)⟩) Z Z (H':=V3 ..) Z ?_
 rintro _ _ _ ⟨rfl,rfl,rfl⟩
 refine Q2<|wxx 0 [1,1] Z<|xP z 17 Z<|QA (i64_in bA)<|xS z 18 Z<|Qx (S':=V23 ..) Z Z Z Z Z<|Q2<|wxx 0 [] Z<|Qu z Z<|Q6<|Qv<|k6 5 8 7 6 2 1 Z<|Qe<|wP2 Z<|kg e fun bD e=>Qi (QD (a:=a9) (b:=1) bD)<|Qx (S':=V7 ..) Z Z Z Z Z<|Q2<|Qo [1,2] Z (H':=[_,_]) Z ?_
 refine rnd (a9+1,((aC+(bX.args.length:Int))+bY)) (Qp hLu2 (zs e)) [8,5,7,6,2,1] [8,9,10,11,12] Z
 refine k5 5 7 6 2 1 Z<|QQ<|Q7<|Q7<|Qq ?_
 refine jn aC (Qb hLu2 (zs e)) [5,7,6,2,1] [0,1,2,3,4] Z
 rintro aG j
 try dsimp only at j ⊢
 have e:=hLj_4
 try rw [j] at e
 refine sq<|wP Z<|nt<|Qk<|lop (σ:=Nat×Int) (Q2P N a0) (fun (aA,aD)=>((aA,aD),[(9,.int .i64 (aA:Int)),(5,.int .i64 aD),(7,.pointer (some ⟨g7,0,none⟩)),(6,.int .i64 (a6:Int)),(2,.pointer (some ⟨g2,0,none⟩)),(1,.slice qp4 l2.length qc5)],[.sli 10 QB a1.1.1 a1.1.2 a0.conds,.sli 4 QF a1.2.1 a1.2.2 a0.acts,.sli 2 Qd qp0 qc1 l0,.sli 5 Qh qp2 qc3 l1,.sli 3 Q14 qp4 qc5 l2],[.blk g7 [.string a0.name,.int .i64 (a0.salience),.int .i64 (a0.vars),.slice a1.1.1 a0.conds.length a1.1.2,.slice a1.2.1 a0.acts.length a1.2.2] 52,.blk g2 [.slice qp0 l0.length qc1,.slice qp2 l1.length qc3] 25])) (0,aG) e [9,5,7,6,2,1] [0,1,2,3,4] Z fun s_ d7 d8 e hLu3=>?_
 obtain ⟨aA,aD⟩:=s_
 unfold Q2P at e
 try dsimp only at e ⊢
 refine Q5<|Q5<|kn e fun bE e hLj_6=>?_
 refine cut (σ:=Bool) bE (fun aJ=>(aJ,[(9,.int .i64 (aA:Int)),(5,.int .i64 aD),(7,.pointer (some ⟨g7,0,none⟩)),(6,.int .i64 (a6:Int)),(2,.pointer (some ⟨g2,0,none⟩)),(1,.slice qp4 l2.length qc5),(81,.bool aJ)],[.sli 10 QB a1.1.1 a1.1.2 a0.conds,.sli 4 QF a1.2.1 a1.2.2 a0.acts,.sli 2 Qd qp0 qc1 l0,.sli 5 Qh qp2 qc3 l1,.sli 3 Q14 qp4 qc5 l2],[.blk g7 [.string a0.name,.int .i64 (a0.salience),.int .i64 (a0.vars),.slice a1.1.1 a0.conds.length a1.1.2,.slice a1.2.1 a0.acts.length a1.2.2] 52,.blk g2 [.slice qp0 l0.length qc1,.slice qp2 l1.length qc3] 25])) ?_ ?_
 refine Qe<|wP Z<|wF Z Q8G<|wD 0 4 Z QcB tA_50 Z<|wN Z Q5e<|wP Z<|Qi (Nlt aA a0.acts.length)<|wP Z ?_
 refine QE e (fun e=>?_) fun e=>?_
 refine wP2 Z<|wP Z<|Q2 ?_
 refine jM (decide (aD < 400)) e [9,5,7,6,2,1,81] [0,1,2,3,4] Z
 refine wO2 Z<|wP Z<|Q2 ?_
 refine jM false e [9,5,7,6,2,1,81] [0,1,2,3,4] Z
 rintro aJ j
 try dsimp only at j ⊢
 have e:=hLj_6
 try rw [j] at e
 refine Qs e Z (fun e=>?_) fun e=>?_
 refine k6 9 5 7 6 2 1 Z<|kt<|Q5<|Qk<|Qe<|wP Z<|wF Z Q8G<|wD 0 4 Z QcB tA_50 Z<|wP Z<|kn e fun c8 bF e=>wI 1 aA Z bF Q5e Q6o fun d9 dA cI c9=>Q1i Q6Y 1 Z fun bG bH _=>?_
 subst bH
 refine wF Z Q61<|wLd 1 3 [_] Z Q4k Q4M Z<|kn e fun cA bI e=>wC [] [0,1] Z fn_25 Z (Q9H N bG.1 bG.2 c8.exprs 400 _ bI) (asK [0] Z) Z (H':=[_,_]) Z ?_
 rintro _ _ _ ⟨rfl,rfl,rfl⟩
 refine wP Z<|kg e fun bJ e=>Qi (i64_in bJ)<|Qx (S':=V14 ..) Z Z Z Z Z<|Q2<|Q6<|Qv<|k6 5 9 7 6 2 1 Z<|Qe<|wP2 Z<|kg e fun bK e=>Qi (QD (a:=aA) (b:=1) bK)<|Qx (S':=V7 ..) Z Z Z Z Z<|Q2 ?_
 refine rnd (aA+1,aD+cA) (Qp hLu3 (zs e)) [9,5,7,6,2,1] [3,4,5,6,7] Z
 refine k4 5 6 2 1 Z<|QQ<|Q7<|Q7<|Qq<|Q6<|Qo [1] Z (H':=[_]) Z ?_
 refine jn aD (Qb hLu3 (zs e)) [6,5,2,1] [2,3,4] Z
 rintro aF j
 try dsimp only at j ⊢
 have e:=hLj_3
 try rw [j] at e
 refine Qe<|wP2 Z<|kg e fun bL e=>Qi (QD (a:=a6) (b:=1) bL)<|Qx (S':=V5 ..) Z Z Z Z Z<|Q2 ?_
 refine rnd (a6+1,aF) (Qp hLu1 (zs e)) [6,5,2,1] [0,1,2] Z
 refine k2 5 1 Z<|QQ<|Q7<|Q7<|Qq<|Qo [] Z (H':=[]) Z ?_
 refine jn aB (Qb hLu1 (zs e)) [5,1] [2] Z
 rintro a7 j
 try dsimp only at j ⊢
 have e:=hLj_1
 try rw [j] at e
 refine Q5<|ks e fun bM e hLj_7=>?_
 refine cut (σ:=Unit) bM (fun _=>(.inl (),[(5,.int .i64 a7),(1,.slice qp4 l2.length qc5)],[.sli 3 Q14 qp4 qc5 l2],[])) ?_ ?_
 refine sq<|wP Z<|nt<|Qk<|lop (σ:=Nat) (Q2Q N l2) (fun a5=>(a5,[(10,.int .i64 (a5:Int)),(5,.int .i64 a7),(1,.slice qp4 l2.length qc5)],[.sli 3 Q14 qp4 qc5 l2],[])) 0 e [10,5,1] [0] Z fun a5 dB dC e hLu4=>?_
 unfold Q2Q at e
 try dsimp only at e ⊢
 refine Q5<|sq<|wP2 Z<|wN Z Q4N<|wP Z<|Qi (Nlt a5 l2.length)<|nk4 96 10 5 1 Z ?_
 refine Qs e Z (fun e=>?_) fun e=>?_
 refine k3 10 5 1 Z<|kt<|Q5<|ks e fun bN e hLj_8=>?_
 refine cut (σ:=Unit) bN (fun _=>(.inl (),[(10,.int .i64 (a5:Int)),(5,.int .i64 a7),(1,.slice qp4 l2.length qc5)],[.sli 3 Q14 qp4 qc5 l2],[])) ?_ ?_
 refine Qk<|Q5<|sq<|wP2 Z<|kn e fun bO aN e=>wI 0 a5 Z aN Q4N Q4l fun cJ cK cB bS=>Q1i Q40 1 Z fun cL aO _=>?_
 subst aO
 refine wF Z Q6m<|wLd 1 2 [_] Z Q6n Q6E Z<|wN Z Q1F<|wP Z<|Qi (Ngt bO.args.length 20)<|nk4 105 10 5 1 Z ?_
 refine Qs e Z (fun e=>?_) fun e=>?_
 refine k0 Z<|sq<|wP Z<|nr<|rb<|Q3<|rb<|Q3 ?_
 obtain rfl:=(Qb hLj_7 (Qb hLu4 (Qb hLj_8 (zs e)))).symm
 refine re1 [] [] results9 Z ⟨Z,Z,Z⟩ Z
 refine k3 10 5 1 Z<|kt<|sq<|wP Z<|nt<|Qk<|lop (σ:=Nat) (Q2R N l2 a5) (fun a8=>(a8,[(11,.int .i64 (a8:Int)),(10,.int .i64 (a5:Int)),(5,.int .i64 a7),(1,.slice qp4 l2.length qc5)],[.sli 3 Q14 qp4 qc5 l2],[])) 0 e [11,10,5,1] [3] Z fun a8 dD dE e hLu5=>?_
 unfold Q2R at e
 try dsimp only at e ⊢
 refine Q5<|sq<|wP2 Z<|wP Z<|kn e fun bP aP e=>wI 0 a5 Z aP Q4N Q4l fun cM cN cC bT=>Q1i Q40 1 Z fun cO aQ _=>?_
 subst aQ
 refine wF Z Q6m<|wLd 1 2 [_] Z Q6n Q6E Z<|wN Z Q1F<|wP Z<|Qi (Nlt a8 bP.args.length)<|nk5 113 11 10 5 1 Z ?_
 refine Qs e Z (fun e=>?_) fun e=>?_
 refine k4 11 10 5 1 Z<|kt<|Q5<|Qk<|sq<|wP2 Z<|kn e fun cP aR e=>wI 3 a5 Z aR Q4N Q4l fun cQ cR cD bU=>Q1i Q40 1 Z fun cS aS _=>?_
 subst aS
 refine wF Z Q6m<|wLd 1 2 [_] Z Q6n Q6E Z<|wP Z<|kn e fun bQ aT e=>wI 0 a8 Z aT Q1F Qz fun cT cU cE bV=>Q1i Q24 1 Z fun cV aU _=>?_
 subst aU
 refine wF Z tF_57_2<|wLd 0 2 [_] Z tS_9 tA_9 Z<|Q64 Z Z Z Zq (Qd3 Z Z tT_9)<|wP Z<|Qi (Ngt bQ.s.size 100)<|nk5 126 11 10 5 1 Z ?_
 refine Qs e Z (fun e=>?_) fun e=>?_
 refine k0 Z<|sq<|wP Z<|nr<|Qg<|Q3<|rb<|Qg<|Q3<|rb<|Q3 ?_
 obtain rfl:=(Qb hLj_7 (Qb hLu4 (Qb hLj_8 (Qb hLu5 (zs e))))).symm
 refine re1 [] [] results9 Z ⟨Z,Z,Z⟩ Z
 refine k4 11 10 5 1 Z<|QT<|Q6<|Qv<|Qe<|wP2 Z<|kg e fun aV e=>Qi (QD (a:=a8) (b:=1) aV)<|Qx (S':=V5 ..) Z Z Z Z Z<|Q2 ?_
 refine rnd (a8+1) (Qp hLu5 (zs e)) [11,10,5,1] [8] Z
 refine k3 10 5 1 Z<|QQ<|Q7<|Q7<|Qq<|Q6 ?_
 refine jn () (Qb hLu5 (zs e)) [10,5,1] [3] Z
 rintro _ j
 try dsimp only at j ⊢
 have e:=Qp hLj_8 j
 try dsimp only at e
 refine Qe<|wP2 Z<|kg e fun bR e=>Qi (QD (a:=a5) (b:=1) bR)<|Qx (S':=V4 ..) Z Z Z Z Z<|Q2 ?_
 refine rnd (a5+1) (Qp hLu4 (zs e)) [10,5,1] [0] Z
 refine k2 5 1 Z<|QQ<|Q7<|Q7<|Qq ?_
 refine jn () (Qb hLu4 (zs e)) [5,1] [0] Z
 rintro _ j
 try dsimp only at j ⊢
 have e:=Qp hLj_7 j
 try dsimp only at e
 refine sq<|wP2 Z<|wP Z ?_
 refine QE e (fun e=>?_) fun e=>?_
 refine wP Z<|wN Z Q4N<|wP Z<|Qi (Nle l2.length 40)<|wP2 Z<|nk1 4 Z<|Qm ?_
 obtain rfl:=Zi e
 refine re1 [] [] results9 Z ⟨Z,Z,Z⟩ Z
 refine wO2 Z<|wO Z<|wP2 Z<|nk1 4 Z<|Qm ?_
 obtain rfl:=Zi e
 refine re1 [] [] results9 Z ⟨Z,Z,Z⟩ Z
theorem Q2z {N:Nat} {a0 a1:Int} (e:Q27 N a0 a1=some ()):QY prog 57 [.int .i64 a0,.int .i64 a1] [] [] (R0 (.int .i64 (MK a0 a1)) [] []):=by
 unfold Q27 at e
 refine Qt func57 Z ntmps57 Z (S:=[_,_]) Z fun C=>sq<|wP Z<|nk2 0 1 Z<|sq<|wP2 Z<|wP2 Z<|wP2 Z<|nk1 4 Z<|Qm ?_
 have j:=(Zi e).symm
 refine re1 [] [] results57 Z ⟨Z,Z,Z⟩ Z
theorem Q7K {N:Nat} {a0 a1:Int} (e:Q2G N a0 a1=some ()):QY prog 53 [.int .i64 a0,.int .i64 a1] [] [] (R0 (.agg #[.string EB,.int .i64 (MK a0 a1)]) [] []):=by
 unfold Q2G at e
 refine Qt func53 Z ntmps53 Z (S:=[_,_]) Z fun C=>sq<|QH Z Z Z Zq Z tZ_69 Z fun g4=>nt<|sq<|wP2 Z<|kn e fun _ hc7 e=>?_
 try dsimp only at e
 refine c0 [] [0] Z fn_57 hc7 Q2z [] [_] Z<|Q1v Z Z Z Zq Z tZ_69 tP_69 Z (out:=[_,_]) Z<|wS 0 0 Z Q7a (all':=[_,_]) Z (H':=[_]) Z<|nk1 4 Z<|Qm ?_
 have j:=(Zi e).symm
 refine Q2p (Hr:=[]) [] results53 (QU 0 Z Z Q7a tA_69 Z Z) ⟨Z,Z,Z⟩ (asK [] Z) Z Z (.inl Z)
theorem Qce {N qc1:Nat} {qp0:OA} {l0 o2:List Q8} (e:Q4y N l0=some o2):QY prog 26 [.slice qp0 l0.length qc1] [.sli 2 Qd qp0 qc1 l0] [] (fun v p q=>∃ o0 o1 o3,R0 (.slice o0 l0.length o1) [] [.own 69 2 Qd (.slice o0 o3 o1) o2] v p q):=by
 unfold Q4y at e
 refine Qt func26 Z ntmps26 Z (S:=[_]) Z fun C=>sq<|wP Z<|nk1 0 Z<|sq<|wP Z<|wN Z Q3d<|wP Z<|kg e fun aO e=>Qi (QD (a:=l0.length) (b:=12) aO)<|kg e fun aF e=>Q8i (m:=l0.length+12) Qd Z Z Z Zq Z Z Z Z Q3d tR_69 Z Z (Nat.le_trans (Nat.mul_le_mul_left _ aF) (by decide)) (Nat.le_trans aF (by decide)) fun g8=>wP Z<|nk2 3 0 Z<|sq<|wP2 Z<|kg e fun aC e=>Q86 0 0 Z Z Z Zq Z Z Z Z Z Q3d tR_69 Z Z (Nat.le_trans aC (by decide)) (Nat.le_trans (Nat.mul_le_mul_right _ aC) (by decide)) (H2:=fun aG aH=>[_]) (fun _ _=>Z) fun aG aH=>Qx (S':=V4 ..) Z Z Z Z Z<|nk2 3 0 Z<|Q5<|kn e fun aI e hLj_1=>?_
 refine cut (σ:=(List Q8)×OA×Nat×Nat) aI (fun (aA,a1,a5,a6)=>(aA,[(3,.slice a1 a6 a5),(0,.slice qp0 l0.length qc1)],[.sli 2 Qd qp0 qc1 l0],[.own 69 2 Qd (.slice a1 a6 a5) aA])) ?_ ?_
 refine sq<|wP Z<|nt<|Qk<|lop (σ:=Nat×(List Q8)×OA×Nat×Nat) (Q3r N) (fun (a0,z,a7,a8,a9)=>((a0,z),[(4,.int .i64 (a0:Int)),(3,.slice a7 a9 a8),(0,.slice qp0 l0.length qc1)],[.sli 2 Qd qp0 qc1 l0],[.own 69 2 Qd (.slice a7 a9 a8) z])) (0,l0,aG,aH,(l0).length) e [4,3,0] [0] Z fun s_ aP aQ e hLu1=>?_
 obtain ⟨a0,z,a7,a8,a9⟩:=s_
 unfold Q3r at e
 try dsimp only at e ⊢
 refine Q5<|sq<|wP2 Z<|Qi (Nlt a0 12)<|nk4 13 4 3 0 Z ?_
 refine Qs e Z (fun e=>?_) fun e=>?_
 refine k3 4 3 0 Z<|kt<|Q5<|Qk<|Qe<|wP2 Z<|kn e fun _ aJ e=>?_
 try dsimp only at e
 refine c0 [] [0] Z fn_53 aJ Q7K [] [_] Z<|QR Z Z Z Zq Z Q3d Q7a tZ_69 Z (zs:=[.string EB,.int .i64 0]) (by kernel_rfl) Z (out:=[_,_]) Z fun aR=>kg e fun aD e=>Q1V ([(⟨EB,(MK 1 (a0:Int))⟩ : Q8)]) 1 0 Z Z Z Zq Z Z Z Z Z (fun F w hφ=>⟨[.string EB,.int .i64 (MK 1 (a0:Int))],[],Z,Z,⟨(),Z,Q16⟩,Z⟩) Q3d tR_69 Z Z (Nat.le_trans aD (by decide)) (Nat.le_trans (Nat.mul_le_mul_right _ aD) (by decide)) (H2:=fun aK aL=>[_,_]) (fun _ _=>Z) fun aK aL=>Q4K 0 Z (H':=[_]) Z<|Qx (S':=V7 ..) Z Z Z Z Z<|Q2<|Q6<|Qv<|k3 3 4 0 Z<|Qe<|wP2 Z<|kg e fun aM e=>Qi (QD (a:=a0) (b:=1) aM)<|Qx (S':=V4 ..) Z Z Z Z Z<|Q2 ?_
 refine rnd (a0+1,(z++([(⟨EB,(MK 1 (a0:Int))⟩ : Q8)])),aK,aL,((z++([(⟨EB,(MK 1 (a0:Int))⟩ : Q8)])).length)) (Qp hLu1 (zs e)) [4,3,0] [0] Z
 refine k2 3 0 Z<|QQ<|Q7<|Q7<|Qq ?_
 refine jn (z,a7,a8,a9) (Qb hLu1 (zs e)) [3,0] [0] Z
 rintro ⟨aA,a1,a5,a6⟩ j
 try dsimp only at j ⊢
 have e:=hLj_1
 try rw [j] at e
 refine sq<|wP2 Z<|wN Z Q3d<|kg e fun aN e=>Q8j 0 Z fun aE aB=>Q8k Z Z Z Zq Z Z Z Z Q3d Q7a (Nat.le_trans aN (by rw [← aB.2];exact aB.1)) aE<|wP Z<|nk1 2 Z<|Qm ?_
 obtain rfl:=Zi e
 refine re1 [0] [] results26 Z ⟨a1,a5,a6,Z,Z,Z⟩ Z
theorem Q84 {N:Nat} {a0 a1:Int} (e:Q31 N a0 a1=some ()):QY prog 212 [.int .i64 a0,.int .i64 a1] [] [] (R0 (.agg #[.int .u8 0,.int .i64 (MK a0 a1),.int .u8 0,.int .i64 0,.string EB]) [] []):=by
 unfold Q31 at e
 refine Qt func212 Z ntmps212 Z (S:=[_,_]) Z fun C=>sq<|QH Z Z Z Zq Z tZ_59 Z fun g4=>nt<|sq<|wP2 Z<|kn e fun _ hc7 e=>?_
 try dsimp only at e
 refine c0 [] [0] Z fn_57 hc7 Q2z [] [_] Z<|Q1v Z Z Z Zq Z tZ_59 tP_59 Z (out:=V5 ..) Z<|wS 0 0 Z Q7i (all':=V5 ..) Z (H':=[_]) Z<|nk1 4 Z<|Qm ?_
 have j:=(Zi e).symm
 refine Q2p (Hr:=[]) [] results212 (QU 0 Z Z Q7i tA_59 Z Z) ⟨Z,Z,Z⟩ (asK [] Z) Z Z (.inl Z)
theorem QcL {N qc1:Nat} {qp0:OA} {l0 o2:List Q1n} (e:Q4V N l0=some o2):QY prog 176 [.slice qp0 l0.length qc1] [.sli 5 Q1p qp0 qc1 l0] [] (fun v p q=>∃ o0 o1 o3,R0 (.slice o0 l0.length o1) [] [.own 59 5 Q1p (.slice o0 o3 o1) o2] v p q):=by
 unfold Q4V at e
 refine Qt func176 Z ntmps176 Z (S:=[_]) Z fun C=>sq<|wP Z<|nk1 0 Z<|sq<|wP Z<|wN Z Q4O<|wP Z<|kg e fun aO e=>Qi (QD (a:=l0.length) (b:=12) aO)<|kg e fun aF e=>Q8i (m:=l0.length+12) Q1p Z Z Z Zq Z Z Z Z Q4O tR_59 Z Z (Nat.le_trans (Nat.mul_le_mul_left _ aF) (by decide)) (Nat.le_trans aF (by decide)) fun g8=>wP Z<|nk2 3 0 Z<|sq<|wP2 Z<|kg e fun aC e=>Q86 0 0 Z Z Z Zq Z Z Z Z Z Q4O tR_59 Z Z (Nat.le_trans aC (by decide)) (Nat.le_trans (Nat.mul_le_mul_right _ aC) (by decide)) (H2:=fun aG aH=>[_]) (fun _ _=>Z) fun aG aH=>Qx (S':=V4 ..) Z Z Z Z Z<|nk2 3 0 Z<|Q5<|kn e fun aI e hLj_1=>?_
 refine cut (σ:=(List Q1n)×OA×Nat×Nat) aI (fun (aA,a1,a5,a6)=>(aA,[(3,.slice a1 a6 a5),(0,.slice qp0 l0.length qc1)],[.sli 5 Q1p qp0 qc1 l0],[.own 59 5 Q1p (.slice a1 a6 a5) aA])) ?_ ?_
 refine sq<|wP Z<|nt<|Qk<|lop (σ:=Nat×(List Q1n)×OA×Nat×Nat) (Q3K N) (fun (a0,z,a7,a8,a9)=>((a0,z),[(4,.int .i64 (a0:Int)),(3,.slice a7 a9 a8),(0,.slice qp0 l0.length qc1)],[.sli 5 Q1p qp0 qc1 l0],[.own 59 5 Q1p (.slice a7 a9 a8) z])) (0,l0,aG,aH,(l0).length) e [4,3,0] [0] Z fun s_ aP aQ e hLu1=>?_
 obtain ⟨a0,z,a7,a8,a9⟩:=s_
 unfold Q3K at e
 try dsimp only at e ⊢
 refine Q5<|sq<|wP2 Z<|Qi (Nlt a0 12)<|nk4 13 4 3 0 Z ?_
 refine Qs e Z (fun e=>?_) fun e=>?_
 refine k3 4 3 0 Z<|kt<|Q5<|Qk<|Qe<|wP2 Z<|kn e fun _ aJ e=>?_
 try dsimp only at e
 refine c0 [] [0] Z fn_212 aJ Q84 [] [_] Z<|QR Z Z Z Zq Z Q4O Q7i tZ_59 Z (zs:=[.int .u8 0,.int .i64 0,.int .u8 0,.int .i64 0,.string EB]) (by kernel_rfl) Z (out:=V5 ..) Z fun aR=>kg e fun aD e=>Q1V ([(⟨0,(MK 1 (a0:Int)),(⟨0,0,EB⟩ : V)⟩ : Q1n)]) 1 0 Z Z Z Zq Z Z Z Z Z (fun F w hφ=>⟨[.int .u8 0,.int .i64 (MK 1 (a0:Int)),.int .u8 0,.int .i64 0,.string EB],[],Z,Z,⟨(),Z,Q16⟩,Z⟩) Q4O tR_59 Z Z (Nat.le_trans aD (by decide)) (Nat.le_trans (Nat.mul_le_mul_right _ aD) (by decide)) (H2:=fun aK aL=>[_,_]) (fun _ _=>Z) fun aK aL=>Q4K 0 Z (H':=[_]) Z<|Qx (S':=V7 ..) Z Z Z Z Z<|Q2<|Q6<|Qv<|k3 3 4 0 Z<|Qe<|wP2 Z<|kg e fun aM e=>Qi (QD (a:=a0) (b:=1) aM)<|Qx (S':=V4 ..) Z Z Z Z Z<|Q2 ?_
 refine rnd (a0+1,(z++([(⟨0,(MK 1 (a0:Int)),(⟨0,0,EB⟩ : V)⟩ : Q1n)])),aK,aL,((z++([(⟨0,(MK 1 (a0:Int)),(⟨0,0,EB⟩ : V)⟩ : Q1n)])).length)) (Qp hLu1 (zs e)) [4,3,0] [0] Z
 refine k2 3 0 Z<|QQ<|Q7<|Q7<|Qq ?_
 refine jn (z,a7,a8,a9) (Qb hLu1 (zs e)) [3,0] [0] Z
 rintro ⟨aA,a1,a5,a6⟩ j
 try dsimp only at j ⊢
 have e:=hLj_1
 try rw [j] at e
 refine sq<|wP2 Z<|wN Z Q4O<|kg e fun aN e=>Q8j 0 Z fun aE aB=>Q8k Z Z Z Zq Z Z Z Z Q4O Q7i (Nat.le_trans aN (by rw [← aB.2];exact aB.1)) aE<|wP Z<|nk1 2 Z<|Qm ?_
 obtain rfl:=Zi e
 refine re1 [0] [] results176 Z ⟨a1,a5,a6,Z,Z,Z⟩ Z
theorem Q2V {N:Nat} {a0 a1:Int} (e:Q1q N a0 a1=some ()):QY prog 213 [.int .i64 a0,.int .i64 a1] [] [] (R0 (.agg #[.int .u8 0,.int .u8 0,.int .i64 0,.string EB,.int .i64 (MK a0 a1),.int .u8 0,V1]) [] []):=by
 unfold Q1q at e
 refine Qt func213 Z ntmps213 Z (S:=[_,_]) Z fun C=>sq<|QH Z Z Z Zq Z tZ_65 Z fun g4=>nt<|sq<|wP2 Z<|kn e fun _ hc7 e=>?_
 try dsimp only at e
 refine c0 [] [0] Z fn_57 hc7 Q2z [] [_] Z<|Q1v Z Z Z Zq Z tZ_65 tP_65 Z (out:=V7 ..) Z<|wS 0 0 Z Q1t (all':=V7 ..) Z (H':=[_]) Z<|nk1 4 Z<|Qm ?_
 have j:=(Zi e).symm
 refine Q2p (Hr:=[]) [] results213 (QU 0 Z Z Q1t Q3z Z Z) ⟨Z,Z,Z⟩ (asK [] Z) Z Z (.inl Z)
def Q6G (rc:Int→Int→Int→ByteArray→Int→Int→(List Q4)→Option (List Qc)):Prop:=∀ (a0:Int)(a1:Int)(a2:Int)(a3:ByteArray)(a4:Int)(a5:Int)(qp0:OA)(qc1:Nat)(l6:List Q4)(o2:List Qc),rc a0 a1 a2 a3 a4 a5 l6=some o2→QY prog 177 [.agg #[.int .u8 a0,.int .u8 a1,.int .i64 a2,.string a3,.int .i64 a4,.int .u8 a5,.slice qp0 l6.length qc1]] [.sli 7 Qj qp0 qc1 l6] [] (fun v p q=>∃ o0 o1 o3,R0 (.agg #[.int .u8 a0,.int .u8 a1,.int .i64 a2,.string a3,.int .i64 a4,.int .u8 a5,.slice o0 l6.length o1]) [] [.own 65 7 QI (.slice o0 o3 o1) o2] v p q)
theorem QaT (N:Nat)(rc:Int→Int→Int→ByteArray→Int→Int→(List Q4)→Option (List Qc))(ih:Q6G rc)(aO:OA)(aP:Nat)(l0:List Q4)(o2:List Qc)(e:Q4W N rc l0=some o2):QY prog 178 [.slice aO l0.length aP] [.sli 7 Qj aO aP l0] [] (fun v p q=>∃ o0 o1 o3,R0 (.slice o0 l0.length o1) [] [.own 65 7 QI (.slice o0 o3 o1) o2] v p q):=by
 unfold Q4W at e
 refine Qt func178 Z ntmps178 Z (S:=[_]) Z fun C=>sq<|wP Z<|nk1 0 Z<|sq<|wP Z<|wN Z Q1g<|wP Z<|kg e fun bD e=>Qi (QD (a:=l0.length) (b:=12) bD)<|kg e fun aU e=>Q8i (m:=l0.length+12) Qj Z Z Z Zq Z Z Z Z Q1g tR_65 Z Z (Nat.le_trans (Nat.mul_le_mul_left _ aU) (by decide)) (Nat.le_trans aU (by decide)) fun aY=>wP Z<|nk2 3 0 Z<|Q5<|kn e fun aZ e hLj_1=>?_
 refine cut (σ:=(List Qc)×OA×Nat×Nat) aZ (fun (a9,aA,aB,aC)=>(a9,[(3,.slice aA aC aB),(0,.slice aO l0.length aP)],[.sli 7 Qj aO aP l0],[.own 65 7 QI (.slice aA aC aB) a9])) ?_ ?_
 refine sq<|wP Z<|nt<|Qk<|wc_sh [.own 65 7 QI (.slice (some ⟨aY,0,none⟩) 0 (l0.length+12)) []] (fun _ h=>h.rowKind QI 0 Z)<|lop (σ:=Nat×(List Qc)×OA×Nat×Nat) (Q2u N l0 rc) (fun (aM,a0,aG,aH,aI)=>((aM,a0),[(4,.int .i64 (aM:Int)),(3,.slice aG aI aH),(0,.slice aO l0.length aP)],[.sli 7 Qj aO aP l0],[.own 65 7 QI (.slice aG aI aH) a0])) (0,[],some ⟨aY,0,none⟩,l0.length+12,0) e [4,3,0] [0] Z fun s_ bJ bK e hLu1=>?_
 obtain ⟨aM,a0,aG,aH,aI⟩:=s_
 unfold Q2u at e
 try dsimp only at e ⊢
 refine Q5<|sq<|wP2 Z<|wN Z Q1g<|wP Z<|Qi (Nlt aM l0.length)<|nk4 14 4 3 0 Z ?_
 refine Qs e Z (fun e=>?_) fun e=>?_
 refine k3 4 3 0 Z<|kt<|Q5<|Qk<|sq<|wP2 Z<|kn e fun z b0 e=>wI 0 aM Z b0 Q1g Q1t fun bL bM bI bE=>Q1i Q1G 1 Z fun b1 b2 _=>?_
 subst b2
 refine wLd 1 0 (V7 ..) Z Q1t Q3z Z<|kn e fun a5 b3 e=>wC [] [0] Z fn_177 Z (ih z.kind z.value.k z.value.n z.value.s z.var z.op b1.1 b1.2 z.kids _ b3) (asK [0] Z) Z (H':=[_]) Z ?_
 rintro _ _ _ ⟨a7,a8,bF,rfl,rfl,rfl⟩
 refine QH Z Z Z Zq Z tZ_65 Z fun g5=>wS 0 0 Z Q1t (all':=V7 ..) Z (H':=V3 ..) Z<|nk4 5 4 3 0 Z<|Qe<|wP Z<|wM 0 0 (V7 ..) Z Q1t Q3z Z<|QR Z Z Z Zq Z Q1g Q1t tZ_65 Z (zs:=[.int .u8 0,.int .u8 0,.int .i64 0,.string EB,.int .i64 0,.int .u8 0,V1]) (by kernel_rfl) Z (out:=V7 ..) Z fun bG=>kg e fun aR e=>Q1Z 2 Z fun aS _=>?_
 subst aS
 refine Q3U 2 (φ':=.own 65 7 QI (.slice a7 (((a5.take z.kids.length)++(a5.drop z.kids.length)).length) a8) ((a5.take z.kids.length)++(a5.drop z.kids.length))) Z (by rw [List.take_append_drop]) (H':=V4 ..) Z<|Qb3 1 (v':=.agg #[.int .u8 (z.kind),.int .u8 (z.value.k),.int .i64 (z.value.n),.string z.value.s,.int .i64 (z.var),.int .u8 (z.op),.slice a7 ((a5.take z.kids.length).length) a8]) Z (by rw [Q2e aR])<|Q3U 0 (φ':=.blk bG [.int .u8 (z.kind),.int .u8 (z.value.k),.int .i64 (z.value.n),.string z.value.s,.int .i64 (z.var),.int .u8 (z.op),.slice a7 ((a5.take z.kids.length).length) a8] 65) Z (by rw [Q2e aR]) (H':=V4 ..) Z<|Q3U 1 (φ':=.blk g5 [.int .u8 (z.kind),.int .u8 (z.value.k),.int .i64 (z.value.n),.string z.value.s,.int .i64 (z.var),.int .u8 (z.op),.slice a7 ((a5.take z.kids.length).length) a8] 65) Z (by rw [Q2e aR]) (H':=V4 ..) Z<|Q6p 2 Z (H':=V3 ..) Z<|Q2q (.sli 7 QI a7 a8 ((a5.take z.kids.length)++(a5.drop z.kids.length))) (fun F w hφ=>Q3g (hφ _ (Q1f (k:=0) Z)))<|kg e fun aV e=>Q1V ([(⟨z.kind,z.value,z.var,z.op,(a5.take z.kids.length),(a5.drop z.kids.length)⟩ : Qc)]) 2 0 Z Z Z Zq Z Z Z Z Z (fun F w hφ=>⟨[.int .u8 (z.kind),.int .u8 (z.value.k),.int .i64 (z.value.n),.string z.value.s,.int .i64 (z.var),.int .u8 (z.op),.slice a7 ((a5.take z.kids.length).length) a8],[],Z,Z,(Qd1 (a7,a8) Z (Q10 (hφ _ (Q1f (k:=0) Z)) Q16)),Z⟩) Q1g tR_65 Z Z (Nat.le_trans aV (by decide)) (Nat.le_trans (Nat.mul_le_mul_right _ aV) (by decide)) (H2:=fun b4 b5=>(V3 ..)) (fun _ _=>Z) fun b4 b5=>Q4K 0 Z (H':=[_,_]) Z<|Qx (S':=V7 ..) Z Z Z Z Z<|Q2<|Q6<|Qv<|k3 3 4 0 Z<|Qe<|wP2 Z<|kg e fun b6 e=>Qi (QD (a:=aM) (b:=1) b6)<|Qx (S':=V4 ..) Z Z Z Z Z<|Q2<|Qo [1] Z (H':=[_]) Z ?_
 refine rnd (aM+1,(a0++([(⟨z.kind,z.value,z.var,z.op,(a5.take z.kids.length),(a5.drop z.kids.length)⟩ : Qc)])),b4,b5,((a0++([(⟨z.kind,z.value,z.var,z.op,(a5.take z.kids.length),(a5.drop z.kids.length)⟩ : Qc)])).length)) (Qp hLu1 (zs e)) [4,3,0] [5] Z
 refine k2 3 0 Z<|QQ<|Q7<|Q7<|Qq ?_
 refine jn (a0,aG,aH,aI) (Qb hLu1 (zs e)) [3,0] [0] Z
 rintro ⟨a9,aA,aB,aC⟩ j
 try dsimp only at j ⊢
 have e:=hLj_1
 try rw [j] at e
 refine Q5<|kn e fun b7 e hLj_2=>?_
 refine cut (σ:=(List Qc)×OA×Nat×Nat) b7 (fun (aN,aD,aE,aF)=>(aN,[(3,.slice aD aF aE),(0,.slice aO l0.length aP)],[.sli 7 Qj aO aP l0],[.own 65 7 QI (.slice aD aF aE) aN])) ?_ ?_
 refine sq<|wP Z<|nt<|Qk<|lop (σ:=Nat×(List Qc)×OA×Nat×Nat) (Q2v N) (fun (a6,a1,aJ,aK,aL)=>((a6,a1),[(6,.int .i64 (a6:Int)),(3,.slice aJ aL aK),(0,.slice aO l0.length aP)],[.sli 7 Qj aO aP l0],[.own 65 7 QI (.slice aJ aL aK) a1])) (0,a9,aA,aB,aC) e [6,3,0] [0] Z fun s_ bO bP e hLu2=>?_
 obtain ⟨a6,a1,aJ,aK,aL⟩:=s_
 unfold Q2v at e
 try dsimp only at e ⊢
 refine Q5<|sq<|wP2 Z<|Qi (Nlt a6 12)<|nk4 27 6 3 0 Z ?_
 refine Qs e Z (fun e=>?_) fun e=>?_
 refine k3 6 3 0 Z<|kt<|Q5<|Qk<|Qe<|wP2 Z<|kn e fun _ b8 e=>?_
 try dsimp only at e
 refine c0 [] [0] Z fn_213 b8 Q2V [] [_] Z<|QR Z Z Z Zq Z Q1g Q1t tZ_65 Z (zs:=[.int .u8 0,.int .u8 0,.int .i64 0,.string EB,.int .i64 0,.int .u8 0,V1]) (by kernel_rfl) Z (out:=V7 ..) Z fun bQ=>kg e fun aW e=>Q1V ([(⟨0,(⟨0,0,EB⟩ : V),(MK 1 (a6:Int)),0,([] : List Qc),([] : List Qc)⟩ : Qc)]) 1 0 Z Z Z Zq Z Z Z Z Z (fun F w hφ=>⟨[.int .u8 0,.int .u8 0,.int .i64 0,.string EB,.int .i64 (MK 1 (a6:Int)),.int .u8 0,V1],[],Z,Z,(Qd1 (none,0) Z (Q10 Q2n Q16)),Z⟩) Q1g tR_65 Z Z (Nat.le_trans aW (by decide)) (Nat.le_trans (Nat.mul_le_mul_right _ aW) (by decide)) (H2:=fun b9 bA=>[_,_]) (fun _ _=>Z) fun b9 bA=>Q4K 0 Z (H':=[_]) Z<|Qx (S':=V7 ..) Z Z Z Z Z<|Q2<|Q6<|Qv<|k3 3 6 0 Z<|Qe<|wP2 Z<|kg e fun bB e=>Qi (QD (a:=a6) (b:=1) bB)<|Qx (S':=V4 ..) Z Z Z Z Z<|Q2 ?_
 refine rnd (a6+1,(a1++([(⟨0,(⟨0,0,EB⟩ : V),(MK 1 (a6:Int)),0,([] : List Qc),([] : List Qc)⟩ : Qc)])),b9,bA,((a1++([(⟨0,(⟨0,0,EB⟩ : V),(MK 1 (a6:Int)),0,([] : List Qc),([] : List Qc)⟩ : Qc)])).length)) (Qp hLu2 (zs e)) [6,3,0] [0] Z
 refine k2 3 0 Z<|QQ<|Q7<|Q7<|Qq ?_
 refine jn (a1,aJ,aK,aL) (Qb hLu2 (zs e)) [3,0] [0] Z
 rintro ⟨aN,aD,aE,aF⟩ j
 try dsimp only at j ⊢
 have e:=hLj_2
 try rw [j] at e
 refine sq<|wP2 Z<|wN Z Q1g<|kg e fun bC e=>Q8j 0 Z fun aX aT=>Q8k Z Z Z Zq Z Z Z Z Q1g Q1t (Nat.le_trans bC (by rw [← aT.2];exact aT.1)) aX<|wP Z<|nk1 2 Z<|Qm ?_
 obtain rfl:=Zi e
 refine re1 [0] [] results178 Z ⟨aD,aE,aF,Z,Z,Z⟩ Z
theorem QbW (N:Nat)(rc:Int→Int→Int→ByteArray→Int→Int→(List Q4)→Option (List Qc))(ih:Q6G rc):Q6G (Q45 N rc):=by
 intro a0 a1 a2 a3 a4 a5 qp0 qc1 l6 o2 e
 unfold Q45 at e
 refine Qt func177 Z ntmps177 Z (S:=[_]) Z fun C=>sq<|wB Z fun g1=>QH Z Z Z Zq Z tZ_65 Z fun g2=>nk2 2 1 Z<|sq<|wF Z Q60<|wD 1 6 Z Q4k Q4M Z<|kn e fun v5 hc5 e=>wC [] [0,1] Z fn_178 Z (QaT N rc ih qp0 qc1 l6 _ hc5) (asK [0] Z) Z (H':=[_,_]) Z ?_
 rintro _ _ _ ⟨p5_0,c5_1,c5_2,rfl,rfl,rfl⟩
 refine wF Z Q60<|wS 2 6 Z Q4k (all':=V7 ..) Z (H':=V3 ..) Z<|nk2 2 1 Z<|sq<|wM 2 0 (V7 ..) Z Q1t Q3z Z<|wS 1 0 Z Q1t (all':=V7 ..) Z (H':=V3 ..) Z<|nk1 2 Z<|Qm ?_
 obtain rfl:=Zi e
 refine Q2p (Hr:=[_]) [0] results177 (QU 1 Z Z Q1t Q3z Z Z) ⟨p5_0,c5_1,c5_2,Z,Z,Z⟩ (asK [] Z) Z Z (.inl Z)
theorem Q9p : ∀ (N:Nat),Q6G (Q2C N):=by
 intro N
 induction N with
 | zero=>intro a0 a1 a2 a3 a4 a5 qp0 qc1 l6 o2 e;cases e
 | succ N ih=>exact QbW N (Q2C N) ih
theorem QcM {N qc1 qc3:Nat} {a0 a1 a3 a4 a5 a7 a8:Int} {qp0 qp2:OA} {l2 o2:List Q1n} {a6:ByteArray} {l9:List Q4} {o6:List Qc} (e:Q6J N a0 a1 l2 a3 a4 a5 a6 a7 a8 l9=some (o2,o6)):QY prog 131 [.agg #[.int .u8 a0,.int .i64 a1,.slice qp0 l2.length qc1,.int .u8 a3,.int .u8 a4,.int .i64 a5,.string a6,.int .i64 a7,.int .u8 a8,.slice qp2 l9.length qc3]] [.sli 5 Q1p qp0 qc1 l2,.sli 7 Qj qp2 qc3 l9] [] (fun v p q=>∃ o0 o1 o3 o4 o5 o7,R0 (.agg #[.int .u8 a0,.int .i64 a1,.slice o0 l2.length o1,.int .u8 a3,.int .u8 a4,.int .i64 a5,.string a6,.int .i64 a7,.int .u8 a8,.slice o4 l9.length o5]) [] [.own 59 5 Q1p (.slice o0 o3 o1) o2,.own 65 7 QI (.slice o4 o7 o5) o6] v p q):=by
 unfold Q6J at e
 refine Qt func131 Z ntmps131 Z (S:=[_]) Z fun C=>sq<|wB Z fun g1=>QH Z Z Z Zq Z tZ_67 Z fun g2=>nk2 2 1 Z<|sq<|wF Z Q7h<|wD 1 2 Z Qad QaD Z<|kn e fun v5 hc5 e=>c3 [] [0,1] Z fn_176 hc5 QcL [0] [_,_] Z fun p5_0 c5_1 c5_2=>wF Z Q7h<|wS 2 2 Z Qad (all':=V10 ..) Z (H':=V3 ..) Z<|nk2 2 1 Z<|sq<|wF Z Q8I<|wM 2 3 (V7 ..) Z Q1t Q3z Z<|kn e fun v9 hc9 e=>wC [] [0,1,2] Z fn_177 Z (Q9p N a3 a4 a5 a6 a7 a8 qp2 qc3 l9 _ hc9) (asK [1] Z) Z (H':=V3 ..) Z ?_
 rintro _ _ _ ⟨p9_0,c9_1,c9_2,rfl,rfl,rfl⟩
 refine wF Z Q8I<|wS 3 3 Z Q1t (all':=V10 ..) Z (H':=V4 ..) Z<|nk2 2 1 Z<|sq<|wM 3 0 (V10 ..) Z Q3Q Q9b Z<|wS 2 0 Z Q3Q (all':=V10 ..) Z (H':=V4 ..) Z<|nk1 2 Z<|Qm ?_
 have j:=(Zi e).symm
 obtain ⟨rfl,rfl⟩:=Pj j.symm
 refine Q2p (Hr:=[_,_]) [1,0] results131 (QU 2 Z Z Q3Q Q9b Z Z) ⟨p5_0,c5_1,c5_2,p9_0,c9_1,c9_2,Z,Z,Z⟩ (asK [] Z) Z Z (.inl Z)
theorem Q7H {N:Nat} {a0 a1:Int} (e:Q2D N a0 a1=some ()):QY prog 132 [.int .i64 a0,.int .i64 a1] [] [] (R0 (.agg #[.int .u8 0,.int .i64 (MK a0 a1),V1,.int .u8 0,.int .u8 0,.int .i64 0,.string EB,.int .i64 0,.int .u8 0,V1]) [] []):=by
 unfold Q2D at e
 refine Qt func132 Z ntmps132 Z (S:=[_,_]) Z fun C=>sq<|QH Z Z Z Zq Z tZ_67 Z fun g4=>nt<|sq<|wP2 Z<|kn e fun _ hc7 e=>?_
 try dsimp only at e
 refine c0 [] [0] Z fn_57 hc7 Q2z [] [_] Z<|Q1v Z Z Z Zq Z tZ_67 tP_67 Z (out:=V10 ..) Z<|wS 0 0 Z Q3Q (all':=V10 ..) Z (H':=[_]) Z<|nk1 4 Z<|Qm ?_
 have j:=(Zi e).symm
 refine Q2p (Hr:=[]) [] results132 (QU 0 Z Z Q3Q Q9b Z Z) ⟨Z,Z,Z⟩ (asK [] Z) Z Z (.inl Z)
theorem Qca {N qc1:Nat} {qp0:OA} {l0:List Qn} {o2:List QM} (e:Q4u N l0=some o2):QY prog 95 [.slice qp0 l0.length qc1] [.sli 10 QB qp0 qc1 l0] [] (fun v p q=>∃ o0 o1 o3,R0 (.slice o0 l0.length o1) [] [.own 67 10 Q1J (.slice o0 o3 o1) o2] v p q):=by
 unfold Q4u at e
 refine Qt func95 Z ntmps95 Z (S:=[_]) Z fun C=>sq<|wP Z<|nk1 0 Z<|sq<|wP Z<|wN Z Q4d<|wP Z<|kg e fun bF e=>Qi (QD (a:=l0.length) (b:=12) bF)<|kg e fun aW e=>Q8i (m:=l0.length+12) QB Z Z Z Zq Z Z Z Z Q4d tR_67 Z Z (Nat.le_trans (Nat.mul_le_mul_left _ aW) (by decide)) (Nat.le_trans aW (by decide)) fun b0=>wP Z<|nk2 3 0 Z<|Q5<|kn e fun b1 e hLj_1=>?_
 refine cut (σ:=(List QM)×OA×Nat×Nat) b1 (fun (aC,aD,aE,aF)=>(aC,[(3,.slice aD aF aE),(0,.slice qp0 l0.length qc1)],[.sli 10 QB qp0 qc1 l0],[.own 67 10 Q1J (.slice aD aF aE) aC])) ?_ ?_
 refine sq<|wP Z<|nt<|Qk<|wc_sh [.own 67 10 Q1J (.slice (some ⟨b0,0,none⟩) 0 (l0.length+12)) []] (fun _ h=>h.rowKind Q1J 0 Z)<|lop (σ:=Nat×(List QM)×OA×Nat×Nat) (Q3l N l0) (fun (aP,a9,aJ,aK,aL)=>((aP,a9),[(4,.int .i64 (aP:Int)),(3,.slice aJ aL aK),(0,.slice qp0 l0.length qc1)],[.sli 10 QB qp0 qc1 l0],[.own 67 10 Q1J (.slice aJ aL aK) a9])) (0,[],some ⟨b0,0,none⟩,l0.length+12,0) e [4,3,0] [0] Z fun s_ bL bM e hLu1=>?_
 obtain ⟨aP,a9,aJ,aK,aL⟩:=s_
 unfold Q3l at e
 try dsimp only at e ⊢
 refine Q5<|sq<|wP2 Z<|wN Z Q4d<|wP Z<|Qi (Nlt aP l0.length)<|nk4 14 4 3 0 Z ?_
 refine Qs e Z (fun e=>?_) fun e=>?_
 refine k3 4 3 0 Z<|kt<|Q5<|Qk<|sq<|wP2 Z<|kn e fun z b2 e=>wI 0 aP Z b2 Q4d Q3Q fun bN bO bJ bG=>Q1i Q33 1 Z fun bP b3 _=>?_
 subst b3
 refine wLd 2 0 (V10 ..) Z Q3Q Q9b Z ?_
 obtain ⟨⟨a0,a1⟩,b4,e⟩:=Qy e
 try dsimp only at e
 refine c6 [] [0] Z fn_131 b4 QcM [0,1] [_] Z fun a5 a6 bH a7 a8 bI=>QH Z Z Z Zq Z tZ_67 Z fun g5=>wS 0 0 Z Q3Q (all':=V10 ..) Z (H':=V4 ..) Z<|nk4 5 4 3 0 Z<|Qe<|wP Z<|wM 0 0 (V10 ..) Z Q3Q Q9b Z<|QR Z Z Z Zq Z Q4d Q3Q tZ_67 Z (zs:=[.int .u8 0,.int .i64 0,V1,.int .u8 0,.int .u8 0,.int .i64 0,.string EB,.int .i64 0,.int .u8 0,V1]) (by kernel_rfl) Z (out:=V10 ..) Z fun b5=>kg e fun aR e=>Q1Z 2 Z fun aT _=>?_
 subst aT
 refine Q3U 2 (φ':=.own 59 5 Q1p (.slice a5 (((a0.take z.args.length)++(a0.drop z.args.length)).length) a6) ((a0.take z.args.length)++(a0.drop z.args.length))) Z (by rw [List.take_append_drop]) (H':=V5 ..) Z<|Qb3 1 (v':=.agg #[.int .u8 (z.kind),.int .i64 (z.type),.slice a5 ((a0.take z.args.length).length) a6,.int .u8 (z.test.kind),.int .u8 (z.test.value.k),.int .i64 (z.test.value.n),.string z.test.value.s,.int .i64 (z.test.var),.int .u8 (z.test.op),.slice a7 z.test.kids.length a8]) Z (by rw [Q2e aR])<|Q3U 0 (φ':=.blk b5 [.int .u8 (z.kind),.int .i64 (z.type),.slice a5 ((a0.take z.args.length).length) a6,.int .u8 (z.test.kind),.int .u8 (z.test.value.k),.int .i64 (z.test.value.n),.string z.test.value.s,.int .i64 (z.test.var),.int .u8 (z.test.op),.slice a7 z.test.kids.length a8] 67) Z (by rw [Q2e aR]) (H':=V5 ..) Z<|Q3U 1 (φ':=.blk g5 [.int .u8 (z.kind),.int .i64 (z.type),.slice a5 ((a0.take z.args.length).length) a6,.int .u8 (z.test.kind),.int .u8 (z.test.value.k),.int .i64 (z.test.value.n),.string z.test.value.s,.int .i64 (z.test.var),.int .u8 (z.test.op),.slice a7 z.test.kids.length a8] 67) Z (by rw [Q2e aR]) (H':=V5 ..) Z<|Q6p 2 Z (H':=V4 ..) Z<|Q2q (.sli 5 Q1p a5 a6 ((a0.take z.args.length)++(a0.drop z.args.length))) (fun F w hφ=>Q3g (hφ _ (Q1f (k:=0) Z)))<|kg e fun aS e=>Q1Z 2 Z fun aU _=>?_
 subst aU
 refine Q3U 2 (φ':=.own 65 7 QI (.slice a7 (((a1.take z.test.kids.length)++(a1.drop z.test.kids.length)).length) a8) ((a1.take z.test.kids.length)++(a1.drop z.test.kids.length))) Z (by rw [List.take_append_drop]) (H':=V4 ..) Z<|Qb3 1 (v':=.agg #[.int .u8 (z.kind),.int .i64 (z.type),.slice a5 ((a0.take z.args.length).length) a6,.int .u8 (z.test.kind),.int .u8 (z.test.value.k),.int .i64 (z.test.value.n),.string z.test.value.s,.int .i64 (z.test.var),.int .u8 (z.test.op),.slice a7 ((a1.take z.test.kids.length).length) a8]) Z (by rw [Q2e aS])<|Q3U 0 (φ':=.blk b5 [.int .u8 (z.kind),.int .i64 (z.type),.slice a5 ((a0.take z.args.length).length) a6,.int .u8 (z.test.kind),.int .u8 (z.test.value.k),.int .i64 (z.test.value.n),.string z.test.value.s,.int .i64 (z.test.var),.int .u8 (z.test.op),.slice a7 ((a1.take z.test.kids.length).length) a8] 67) Z (by rw [Q2e aS]) (H':=V4 ..) Z<|Q3U 1 (φ':=.blk g5 [.int .u8 (z.kind),.int .i64 (z.type),.slice a5 ((a0.take z.args.length).length) a6,.int .u8 (z.test.kind),.int .u8 (z.test.value.k),.int .i64 (z.test.value.n),.string z.test.value.s,.int .i64 (z.test.var),.int .u8 (z.test.op),.slice a7 ((a1.take z.test.kids.length).length) a8] 67) Z (by rw [Q2e aS]) (H':=V4 ..) Z<|Q6p 2 Z (H':=V3 ..) Z<|Q2q (.sli 7 QI a7 a8 ((a1.take z.test.kids.length)++(a1.drop z.test.kids.length))) (fun F w hφ=>Q3g (hφ _ (Q1f (k:=0) Z)))<|kg e fun aX e=>Q1V ([(⟨z.kind,z.type,(a0.take z.args.length),(a0.drop z.args.length),(⟨z.test.kind,z.test.value,z.test.var,z.test.op,(a1.take z.test.kids.length),(a1.drop z.test.kids.length)⟩ : Qc)⟩ : QM)]) 2 0 Z Z Z Zq Z Z Z Z Z (fun F w hφ=>⟨[.int .u8 (z.kind),.int .i64 (z.type),.slice a5 ((a0.take z.args.length).length) a6,.int .u8 (z.test.kind),.int .u8 (z.test.value.k),.int .i64 (z.test.value.n),.string z.test.value.s,.int .i64 (z.test.var),.int .u8 (z.test.op),.slice a7 ((a1.take z.test.kids.length).length) a8],[],Z,Z,⟨((a5,a6),(a7,a8)),Z,(Q10 (hφ _ (Q1f (k:=2) Z)) (Q10 (hφ _ (Q1f (k:=0) Z)) Q16))⟩,Z⟩) Q4d tR_67 Z Z (Nat.le_trans aX (by decide)) (Nat.le_trans (Nat.mul_le_mul_right _ aX) (by decide)) (H2:=fun b6 b7=>(V3 ..)) (fun _ _=>Z) fun b6 b7=>Q4K 0 Z (H':=[_,_]) Z<|Qx (S':=V7 ..) Z Z Z Z Z<|Q2<|Q6<|Qv<|k3 3 4 0 Z<|Qe<|wP2 Z<|kg e fun b8 e=>Qi (QD (a:=aP) (b:=1) b8)<|Qx (S':=V4 ..) Z Z Z Z Z<|Q2<|Qo [1] Z (H':=[_]) Z ?_
 refine rnd (aP+1,(a9++([(⟨z.kind,z.type,(a0.take z.args.length),(a0.drop z.args.length),(⟨z.test.kind,z.test.value,z.test.var,z.test.op,(a1.take z.test.kids.length),(a1.drop z.test.kids.length)⟩ : Qc)⟩ : QM)])),b6,b7,((a9++([(⟨z.kind,z.type,(a0.take z.args.length),(a0.drop z.args.length),(⟨z.test.kind,z.test.value,z.test.var,z.test.op,(a1.take z.test.kids.length),(a1.drop z.test.kids.length)⟩ : Qc)⟩ : QM)])).length)) (Qp hLu1 (zs e)) [4,3,0] [8] Z
 refine k2 3 0 Z<|QQ<|Q7<|Q7<|Qq ?_
 refine jn (a9,aJ,aK,aL) (Qb hLu1 (zs e)) [3,0] [0] Z
 rintro ⟨aC,aD,aE,aF⟩ j
 try dsimp only at j ⊢
 have e:=hLj_1
 try rw [j] at e
 refine Q5<|kn e fun b9 e hLj_2=>?_
 refine cut (σ:=(List QM)×OA×Nat×Nat) b9 (fun (aQ,aG,aH,aI)=>(aQ,[(3,.slice aG aI aH),(0,.slice qp0 l0.length qc1)],[.sli 10 QB qp0 qc1 l0],[.own 67 10 Q1J (.slice aG aI aH) aQ])) ?_ ?_
 refine sq<|wP Z<|nt<|Qk<|lop (σ:=Nat×(List QM)×OA×Nat×Nat) (Q3m N) (fun (aB,aA,aM,aN,aO)=>((aB,aA),[(6,.int .i64 (aB:Int)),(3,.slice aM aO aN),(0,.slice qp0 l0.length qc1)],[.sli 10 QB qp0 qc1 l0],[.own 67 10 Q1J (.slice aM aO aN) aA])) (0,aC,aD,aE,aF) e [6,3,0] [0] Z fun s_ bQ bR e hLu2=>?_
 obtain ⟨aB,aA,aM,aN,aO⟩:=s_
 unfold Q3m at e
 try dsimp only at e ⊢
 refine Q5<|sq<|wP2 Z<|Qi (Nlt aB 12)<|nk4 27 6 3 0 Z ?_
 refine Qs e Z (fun e=>?_) fun e=>?_
 refine k3 6 3 0 Z<|kt<|Q5<|Qk<|Qe<|wP2 Z<|kn e fun _ bA e=>?_
 try dsimp only at e
 refine c0 [] [0] Z fn_132 bA Q7H [] [_] Z<|QR Z Z Z Zq Z Q4d Q3Q tZ_67 Z (zs:=[.int .u8 0,.int .i64 0,V1,.int .u8 0,.int .u8 0,.int .i64 0,.string EB,.int .i64 0,.int .u8 0,V1]) (by kernel_rfl) Z (out:=V10 ..) Z fun bS=>kg e fun aY e=>Q1V ([(⟨0,(MK 1 (aB:Int)),([] : List Q1n),([] : List Q1n),(⟨0,(⟨0,0,EB⟩ : V),0,0,([] : List Qc),([] : List Qc)⟩ : Qc)⟩ : QM)]) 1 0 Z Z Z Zq Z Z Z Z Z (fun F w hφ=>⟨[.int .u8 0,.int .i64 (MK 1 (aB:Int)),V1,.int .u8 0,.int .u8 0,.int .i64 0,.string EB,.int .i64 0,.int .u8 0,V1],[],Z,Z,⟨((none,0),(none,0)),Z,(Q10 Q2n (Q10 Q2n Q16))⟩,Z⟩) Q4d tR_67 Z Z (Nat.le_trans aY (by decide)) (Nat.le_trans (Nat.mul_le_mul_right _ aY) (by decide)) (H2:=fun bB bC=>[_,_]) (fun _ _=>Z) fun bB bC=>Q4K 0 Z (H':=[_]) Z<|Qx (S':=V7 ..) Z Z Z Z Z<|Q2<|Q6<|Qv<|k3 3 6 0 Z<|Qe<|wP2 Z<|kg e fun bD e=>Qi (QD (a:=aB) (b:=1) bD)<|Qx (S':=V4 ..) Z Z Z Z Z<|Q2 ?_
 refine rnd (aB+1,(aA++([(⟨0,(MK 1 (aB:Int)),([] : List Q1n),([] : List Q1n),(⟨0,(⟨0,0,EB⟩ : V),0,0,([] : List Qc),([] : List Qc)⟩ : Qc)⟩ : QM)])),bB,bC,((aA++([(⟨0,(MK 1 (aB:Int)),([] : List Q1n),([] : List Q1n),(⟨0,(⟨0,0,EB⟩ : V),0,0,([] : List Qc),([] : List Qc)⟩ : Qc)⟩ : QM)])).length)) (Qp hLu2 (zs e)) [6,3,0] [0] Z
 refine k2 3 0 Z<|QQ<|Q7<|Q7<|Qq ?_
 refine jn (aA,aM,aN,aO) (Qb hLu2 (zs e)) [3,0] [0] Z
 rintro ⟨aQ,aG,aH,aI⟩ j
 try dsimp only at j ⊢
 have e:=hLj_2
 try rw [j] at e
 refine sq<|wP2 Z<|wN Z Q4d<|kg e fun bE e=>Q8j 0 Z fun aZ aV=>Q8k Z Z Z Zq Z Z Z Z Q4d Q3Q (Nat.le_trans bE (by rw [← aV.2];exact aV.1)) aZ<|wP Z<|nk1 2 Z<|Qm ?_
 obtain rfl:=Zi e
 refine re1 [0] [] results95 Z ⟨aG,aH,aI,Z,Z,Z⟩ Z
theorem Qcb {N qc1:Nat} {qp0:OA} {l0:List Q4} {o2:List Qc} (e:Q4v N l0=some o2):QY prog 178 [.slice qp0 l0.length qc1] [.sli 7 Qj qp0 qc1 l0] [] (fun v p q=>∃ o0 o1 o3,R0 (.slice o0 l0.length o1) [] [.own 65 7 QI (.slice o0 o3 o1) o2] v p q):=by
 unfold Q4v at e
 refine Qt func178 Z ntmps178 Z (S:=[_]) Z fun C=>sq<|wP Z<|nk1 0 Z<|sq<|wP Z<|wN Z Q1g<|wP Z<|kg e fun bA e=>Qi (QD (a:=l0.length) (b:=12) bA)<|kg e fun aR e=>Q8i (m:=l0.length+12) Qj Z Z Z Zq Z Z Z Z Q1g tR_65 Z Z (Nat.le_trans (Nat.mul_le_mul_left _ aR) (by decide)) (Nat.le_trans aR (by decide)) fun aV=>wP Z<|nk2 3 0 Z<|Q5<|kn e fun aW e hLj_1=>?_
 refine cut (σ:=(List Qc)×OA×Nat×Nat) aW (fun (a9,aA,aB,aC)=>(a9,[(3,.slice aA aC aB),(0,.slice qp0 l0.length qc1)],[.sli 7 Qj qp0 qc1 l0],[.own 65 7 QI (.slice aA aC aB) a9])) ?_ ?_
 refine sq<|wP Z<|nt<|Qk<|wc_sh [.own 65 7 QI (.slice (some ⟨aV,0,none⟩) 0 (l0.length+12)) []] (fun _ h=>h.rowKind QI 0 Z)<|lop (σ:=Nat×(List Qc)×OA×Nat×Nat) (Q3n N l0) (fun (aM,a0,aG,aH,aI)=>((aM,a0),[(4,.int .i64 (aM:Int)),(3,.slice aG aI aH),(0,.slice qp0 l0.length qc1)],[.sli 7 Qj qp0 qc1 l0],[.own 65 7 QI (.slice aG aI aH) a0])) (0,[],some ⟨aV,0,none⟩,l0.length+12,0) e [4,3,0] [0] Z fun s_ bF bG e hLu1=>?_
 obtain ⟨aM,a0,aG,aH,aI⟩:=s_
 unfold Q3n at e
 try dsimp only at e ⊢
 refine Q5<|sq<|wP2 Z<|wN Z Q1g<|wP Z<|Qi (Nlt aM l0.length)<|nk4 14 4 3 0 Z ?_
 refine Qs e Z (fun e=>?_) fun e=>?_
 refine k3 4 3 0 Z<|kt<|Q5<|Qk<|sq<|wP2 Z<|kn e fun z aX e=>wI 0 aM Z aX Q1g Q1t fun bH bI bE bB=>Q1i Q1G 1 Z fun aY aZ _=>?_
 subst aZ
 refine wLd 1 0 (V7 ..) Z Q1t Q3z Z<|kn e fun a5 b0 e=>wC [] [0] Z fn_177 Z (Q9p N z.kind z.value.k z.value.n z.value.s z.var z.op aY.1 aY.2 z.kids _ b0) (asK [0] Z) Z (H':=[_]) Z ?_
 rintro _ _ _ ⟨a7,a8,bC,rfl,rfl,rfl⟩
 refine QH Z Z Z Zq Z tZ_65 Z fun g5=>wS 0 0 Z Q1t (all':=V7 ..) Z (H':=V3 ..) Z<|nk4 5 4 3 0 Z<|Qe<|wP Z<|wM 0 0 (V7 ..) Z Q1t Q3z Z<|QR Z Z Z Zq Z Q1g Q1t tZ_65 Z (zs:=[.int .u8 0,.int .u8 0,.int .i64 0,.string EB,.int .i64 0,.int .u8 0,V1]) (by kernel_rfl) Z (out:=V7 ..) Z fun bD=>kg e fun aO e=>Q1Z 2 Z fun aP _=>?_
 subst aP
 refine Q3U 2 (φ':=.own 65 7 QI (.slice a7 (((a5.take z.kids.length)++(a5.drop z.kids.length)).length) a8) ((a5.take z.kids.length)++(a5.drop z.kids.length))) Z (by rw [List.take_append_drop]) (H':=V4 ..) Z<|Qb3 1 (v':=.agg #[.int .u8 (z.kind),.int .u8 (z.value.k),.int .i64 (z.value.n),.string z.value.s,.int .i64 (z.var),.int .u8 (z.op),.slice a7 ((a5.take z.kids.length).length) a8]) Z (by rw [Q2e aO])<|Q3U 0 (φ':=.blk bD [.int .u8 (z.kind),.int .u8 (z.value.k),.int .i64 (z.value.n),.string z.value.s,.int .i64 (z.var),.int .u8 (z.op),.slice a7 ((a5.take z.kids.length).length) a8] 65) Z (by rw [Q2e aO]) (H':=V4 ..) Z<|Q3U 1 (φ':=.blk g5 [.int .u8 (z.kind),.int .u8 (z.value.k),.int .i64 (z.value.n),.string z.value.s,.int .i64 (z.var),.int .u8 (z.op),.slice a7 ((a5.take z.kids.length).length) a8] 65) Z (by rw [Q2e aO]) (H':=V4 ..) Z<|Q6p 2 Z (H':=V3 ..) Z<|Q2q (.sli 7 QI a7 a8 ((a5.take z.kids.length)++(a5.drop z.kids.length))) (fun F w hφ=>Q3g (hφ _ (Q1f (k:=0) Z)))<|kg e fun aS e=>Q1V ([(⟨z.kind,z.value,z.var,z.op,(a5.take z.kids.length),(a5.drop z.kids.length)⟩ : Qc)]) 2 0 Z Z Z Zq Z Z Z Z Z (fun F w hφ=>⟨[.int .u8 (z.kind),.int .u8 (z.value.k),.int .i64 (z.value.n),.string z.value.s,.int .i64 (z.var),.int .u8 (z.op),.slice a7 ((a5.take z.kids.length).length) a8],[],Z,Z,(Qd1 (a7,a8) Z (Q10 (hφ _ (Q1f (k:=0) Z)) Q16)),Z⟩) Q1g tR_65 Z Z (Nat.le_trans aS (by decide)) (Nat.le_trans (Nat.mul_le_mul_right _ aS) (by decide)) (H2:=fun b1 b2=>(V3 ..)) (fun _ _=>Z) fun b1 b2=>Q4K 0 Z (H':=[_,_]) Z<|Qx (S':=V7 ..) Z Z Z Z Z<|Q2<|Q6<|Qv<|k3 3 4 0 Z<|Qe<|wP2 Z<|kg e fun b3 e=>Qi (QD (a:=aM) (b:=1) b3)<|Qx (S':=V4 ..) Z Z Z Z Z<|Q2<|Qo [1] Z (H':=[_]) Z ?_
 refine rnd (aM+1,(a0++([(⟨z.kind,z.value,z.var,z.op,(a5.take z.kids.length),(a5.drop z.kids.length)⟩ : Qc)])),b1,b2,((a0++([(⟨z.kind,z.value,z.var,z.op,(a5.take z.kids.length),(a5.drop z.kids.length)⟩ : Qc)])).length)) (Qp hLu1 (zs e)) [4,3,0] [5] Z
 refine k2 3 0 Z<|QQ<|Q7<|Q7<|Qq ?_
 refine jn (a0,aG,aH,aI) (Qb hLu1 (zs e)) [3,0] [0] Z
 rintro ⟨a9,aA,aB,aC⟩ j
 try dsimp only at j ⊢
 have e:=hLj_1
 try rw [j] at e
 refine Q5<|kn e fun b4 e hLj_2=>?_
 refine cut (σ:=(List Qc)×OA×Nat×Nat) b4 (fun (aN,aD,aE,aF)=>(aN,[(3,.slice aD aF aE),(0,.slice qp0 l0.length qc1)],[.sli 7 Qj qp0 qc1 l0],[.own 65 7 QI (.slice aD aF aE) aN])) ?_ ?_
 refine sq<|wP Z<|nt<|Qk<|lop (σ:=Nat×(List Qc)×OA×Nat×Nat) (Q3o N) (fun (a6,a1,aJ,aK,aL)=>((a6,a1),[(6,.int .i64 (a6:Int)),(3,.slice aJ aL aK),(0,.slice qp0 l0.length qc1)],[.sli 7 Qj qp0 qc1 l0],[.own 65 7 QI (.slice aJ aL aK) a1])) (0,a9,aA,aB,aC) e [6,3,0] [0] Z fun s_ bK bL e hLu2=>?_
 obtain ⟨a6,a1,aJ,aK,aL⟩:=s_
 unfold Q3o at e
 try dsimp only at e ⊢
 refine Q5<|sq<|wP2 Z<|Qi (Nlt a6 12)<|nk4 27 6 3 0 Z ?_
 refine Qs e Z (fun e=>?_) fun e=>?_
 refine k3 6 3 0 Z<|kt<|Q5<|Qk<|Qe<|wP2 Z<|kn e fun _ b5 e=>?_
 try dsimp only at e
 refine c0 [] [0] Z fn_213 b5 Q2V [] [_] Z<|QR Z Z Z Zq Z Q1g Q1t tZ_65 Z (zs:=[.int .u8 0,.int .u8 0,.int .i64 0,.string EB,.int .i64 0,.int .u8 0,V1]) (by kernel_rfl) Z (out:=V7 ..) Z fun bM=>kg e fun aT e=>Q1V ([(⟨0,(⟨0,0,EB⟩ : V),(MK 1 (a6:Int)),0,([] : List Qc),([] : List Qc)⟩ : Qc)]) 1 0 Z Z Z Zq Z Z Z Z Z (fun F w hφ=>⟨[.int .u8 0,.int .u8 0,.int .i64 0,.string EB,.int .i64 (MK 1 (a6:Int)),.int .u8 0,V1],[],Z,Z,(Qd1 (none,0) Z (Q10 Q2n Q16)),Z⟩) Q1g tR_65 Z Z (Nat.le_trans aT (by decide)) (Nat.le_trans (Nat.mul_le_mul_right _ aT) (by decide)) (H2:=fun b6 b7=>[_,_]) (fun _ _=>Z) fun b6 b7=>Q4K 0 Z (H':=[_]) Z<|Qx (S':=V7 ..) Z Z Z Z Z<|Q2<|Q6<|Qv<|k3 3 6 0 Z<|Qe<|wP2 Z<|kg e fun b8 e=>Qi (QD (a:=a6) (b:=1) b8)<|Qx (S':=V4 ..) Z Z Z Z Z<|Q2 ?_
 refine rnd (a6+1,(a1++([(⟨0,(⟨0,0,EB⟩ : V),(MK 1 (a6:Int)),0,([] : List Qc),([] : List Qc)⟩ : Qc)])),b6,b7,((a1++([(⟨0,(⟨0,0,EB⟩ : V),(MK 1 (a6:Int)),0,([] : List Qc),([] : List Qc)⟩ : Qc)])).length)) (Qp hLu2 (zs e)) [6,3,0] [0] Z
 refine k2 3 0 Z<|QQ<|Q7<|Q7<|Qq ?_
 refine jn (a1,aJ,aK,aL) (Qb hLu2 (zs e)) [3,0] [0] Z
 rintro ⟨aN,aD,aE,aF⟩ j
 try dsimp only at j ⊢
 have e:=hLj_2
 try rw [j] at e
 refine sq<|wP2 Z<|wN Z Q1g<|kg e fun b9 e=>Q8j 0 Z fun aU aQ=>Q8k Z Z Z Zq Z Z Z Z Q1g Q1t (Nat.le_trans b9 (by rw [← aQ.2];exact aQ.1)) aU<|wP Z<|nk1 2 Z<|Qm ?_
 obtain rfl:=Zi e
 refine re1 [0] [] results178 Z ⟨aD,aE,aF,Z,Z,Z⟩ Z
theorem Qd9 {N qc1:Nat} {a0 a1 a2:Int} {qp0:OA} {l3:List Q4} {o2:List Qc} (e:Q7d N a0 a1 a2 l3=some o2):QY prog 133 [.agg #[.int .u8 a0,.int .i64 a1,.int .i64 a2,.slice qp0 l3.length qc1]] [.sli 7 Qj qp0 qc1 l3] [] (fun v p q=>∃ o0 o1 o3,R0 (.agg #[.int .u8 a0,.int .i64 a1,.int .i64 a2,.slice o0 l3.length o1]) [] [.own 65 7 QI (.slice o0 o3 o1) o2] v p q):=by
 unfold Q7d at e
 refine Qt func133 Z ntmps133 Z (S:=[_]) Z fun C=>sq<|wB Z fun g1=>QH Z Z Z Zq Z tZ_81 Z fun g2=>nk2 2 1 Z<|sq<|wF Z Q61<|wD 1 3 Z Q4k Q4M Z<|kn e fun v5 hc5 e=>c3 [] [0,1] Z fn_178 hc5 Qcb [0] [_,_] Z fun p5_0 c5_1 c5_2=>wF Z Q61<|wS 2 3 Z Q4k (all':=V4 ..) Z (H':=V3 ..) Z<|nk2 2 1 Z<|sq<|wM 2 0 (V4 ..) Z Q6o Qb1 Z<|wS 1 0 Z Q6o (all':=V4 ..) Z (H':=V3 ..) Z<|nk1 2 Z<|Qm ?_
 obtain rfl:=Zi e
 refine Q2p (Hr:=[_]) [0] results133 (QU 1 Z Z Q6o Qb1 Z Z) ⟨p5_0,c5_1,c5_2,Z,Z,Z⟩ (asK [] Z) Z Z (.inl Z)
theorem Q83 {N:Nat} {a0 a1:Int} (e:Q30 N a0 a1=some ()):QY prog 134 [.int .i64 a0,.int .i64 a1] [] [] (R0 (.agg #[.int .u8 0,.int .i64 (MK a0 a1),.int .i64 0,V1]) [] []):=by
 unfold Q30 at e
 refine Qt func134 Z ntmps134 Z (S:=[_,_]) Z fun C=>sq<|QH Z Z Z Zq Z tZ_81 Z fun g4=>nt<|sq<|wP2 Z<|kn e fun _ hc7 e=>?_
 try dsimp only at e
 refine c0 [] [0] Z fn_57 hc7 Q2z [] [_] Z<|Q1v Z Z Z Zq Z tZ_81 tP_81 Z (out:=V4 ..) Z<|wS 0 0 Z Q6o (all':=V4 ..) Z (H':=[_]) Z<|nk1 4 Z<|Qm ?_
 have j:=(Zi e).symm
 refine Q2p (Hr:=[]) [] results134 (QU 0 Z Z Q6o Qb1 Z Z) ⟨Z,Z,Z⟩ (asK [] Z) Z Z (.inl Z)
theorem QcK {N qc1:Nat} {qp0:OA} {l0:List QO} {o2:List QS} (e:Q4U N l0=some o2):QY prog 96 [.slice qp0 l0.length qc1] [.sli 4 QF qp0 qc1 l0] [] (fun v p q=>∃ o0 o1 o3,R0 (.slice o0 l0.length o1) [] [.own 81 4 Q1W (.slice o0 o3 o1) o2] v p q):=by
 unfold Q4U at e
 refine Qt func96 Z ntmps96 Z (S:=[_]) Z fun C=>sq<|wP Z<|nk1 0 Z<|sq<|wP Z<|wN Z Q5e<|wP Z<|kg e fun b9 e=>Qi (QD (a:=l0.length) (b:=12) b9)<|kg e fun aR e=>Q8i (m:=l0.length+12) QF Z Z Z Zq Z Z Z Z Q5e tR_81 Z Z (Nat.le_trans (Nat.mul_le_mul_left _ aR) (by decide)) (Nat.le_trans aR (by decide)) fun aV=>wP Z<|nk2 3 0 Z<|Q5<|kn e fun aW e hLj_1=>?_
 refine cut (σ:=(List QS)×OA×Nat×Nat) aW (fun (a9,aA,aB,aC)=>(a9,[(3,.slice aA aC aB),(0,.slice qp0 l0.length qc1)],[.sli 4 QF qp0 qc1 l0],[.own 81 4 Q1W (.slice aA aC aB) a9])) ?_ ?_
 refine sq<|wP Z<|nt<|Qk<|wc_sh [.own 81 4 Q1W (.slice (some ⟨aV,0,none⟩) 0 (l0.length+12)) []] (fun _ h=>h.rowKind Q1W 0 Z)<|lop (σ:=Nat×(List QS)×OA×Nat×Nat) (Q3I N l0) (fun (aM,a0,aG,aH,aI)=>((aM,a0),[(4,.int .i64 (aM:Int)),(3,.slice aG aI aH),(0,.slice qp0 l0.length qc1)],[.sli 4 QF qp0 qc1 l0],[.own 81 4 Q1W (.slice aG aI aH) a0])) (0,[],some ⟨aV,0,none⟩,l0.length+12,0) e [4,3,0] [0] Z fun s_ bE bF e hLu1=>?_
 obtain ⟨aM,a0,aG,aH,aI⟩:=s_
 unfold Q3I at e
 try dsimp only at e ⊢
 refine Q5<|sq<|wP2 Z<|wN Z Q5e<|wP Z<|Qi (Nlt aM l0.length)<|nk4 14 4 3 0 Z ?_
 refine Qs e Z (fun e=>?_) fun e=>?_
 refine k3 4 3 0 Z<|kt<|Q5<|Qk<|sq<|wP2 Z<|kn e fun z aX e=>wI 0 aM Z aX Q5e Q6o fun bG bH bD bA=>Q1i Q6Y 1 Z fun bI aY _=>?_
 subst aY
 refine wLd 1 0 (V4 ..) Z Q6o Qb1 Z<|kn e fun a5 aZ e=>c3 [] [0] Z fn_133 aZ Qd9 [0] [_] Z fun a7 a8 bB=>QH Z Z Z Zq Z tZ_81 Z fun g5=>wS 0 0 Z Q6o (all':=V4 ..) Z (H':=V3 ..) Z<|nk4 5 4 3 0 Z<|Qe<|wP Z<|wM 0 0 (V4 ..) Z Q6o Qb1 Z<|QR Z Z Z Zq Z Q5e Q6o tZ_81 Z (zs:=[.int .u8 0,.int .i64 0,.int .i64 0,V1]) (by kernel_rfl) Z (out:=V4 ..) Z fun bC=>kg e fun aO e=>Q1Z 2 Z fun aP _=>?_
 subst aP
 refine Q3U 2 (φ':=.own 65 7 QI (.slice a7 (((a5.take z.exprs.length)++(a5.drop z.exprs.length)).length) a8) ((a5.take z.exprs.length)++(a5.drop z.exprs.length))) Z (by rw [List.take_append_drop]) (H':=V4 ..) Z<|Qb3 1 (v':=.agg #[.int .u8 (z.kind),.int .i64 (z.type),.int .i64 (z.which),.slice a7 ((a5.take z.exprs.length).length) a8]) Z (by rw [Q2e aO])<|Q3U 0 (φ':=.blk bC [.int .u8 (z.kind),.int .i64 (z.type),.int .i64 (z.which),.slice a7 ((a5.take z.exprs.length).length) a8] 81) Z (by rw [Q2e aO]) (H':=V4 ..) Z<|Q3U 1 (φ':=.blk g5 [.int .u8 (z.kind),.int .i64 (z.type),.int .i64 (z.which),.slice a7 ((a5.take z.exprs.length).length) a8] 81) Z (by rw [Q2e aO]) (H':=V4 ..) Z<|Q6p 2 Z (H':=V3 ..) Z<|Q2q (.sli 7 QI a7 a8 ((a5.take z.exprs.length)++(a5.drop z.exprs.length))) (fun F w hφ=>Q3g (hφ _ (Q1f (k:=0) Z)))<|kg e fun aS e=>Q1V ([(⟨z.kind,z.type,z.which,(a5.take z.exprs.length),(a5.drop z.exprs.length)⟩ : QS)]) 2 0 Z Z Z Zq Z Z Z Z Z (fun F w hφ=>⟨[.int .u8 (z.kind),.int .i64 (z.type),.int .i64 (z.which),.slice a7 ((a5.take z.exprs.length).length) a8],[],Z,Z,⟨(a7,a8),Z,(Q10 (hφ _ (Q1f (k:=0) Z)) Q16)⟩,Z⟩) Q5e tR_81 Z Z (Nat.le_trans aS (by decide)) (Nat.le_trans (Nat.mul_le_mul_right _ aS) (by decide)) (H2:=fun b0 b1=>(V3 ..)) (fun _ _=>Z) fun b0 b1=>Q4K 0 Z (H':=[_,_]) Z<|Qx (S':=V7 ..) Z Z Z Z Z<|Q2<|Q6<|Qv<|k3 3 4 0 Z<|Qe<|wP2 Z<|kg e fun b2 e=>Qi (QD (a:=aM) (b:=1) b2)<|Qx (S':=V4 ..) Z Z Z Z Z<|Q2<|Qo [1] Z (H':=[_]) Z ?_
 refine rnd (aM+1,(a0++([(⟨z.kind,z.type,z.which,(a5.take z.exprs.length),(a5.drop z.exprs.length)⟩ : QS)])),b0,b1,((a0++([(⟨z.kind,z.type,z.which,(a5.take z.exprs.length),(a5.drop z.exprs.length)⟩ : QS)])).length)) (Qp hLu1 (zs e)) [4,3,0] [5] Z
 refine k2 3 0 Z<|QQ<|Q7<|Q7<|Qq ?_
 refine jn (a0,aG,aH,aI) (Qb hLu1 (zs e)) [3,0] [0] Z
 rintro ⟨a9,aA,aB,aC⟩ j
 try dsimp only at j ⊢
 have e:=hLj_1
 try rw [j] at e
 refine Q5<|kn e fun b3 e hLj_2=>?_
 refine cut (σ:=(List QS)×OA×Nat×Nat) b3 (fun (aN,aD,aE,aF)=>(aN,[(3,.slice aD aF aE),(0,.slice qp0 l0.length qc1)],[.sli 4 QF qp0 qc1 l0],[.own 81 4 Q1W (.slice aD aF aE) aN])) ?_ ?_
 refine sq<|wP Z<|nt<|Qk<|lop (σ:=Nat×(List QS)×OA×Nat×Nat) (Q3J N) (fun (a6,a1,aJ,aK,aL)=>((a6,a1),[(6,.int .i64 (a6:Int)),(3,.slice aJ aL aK),(0,.slice qp0 l0.length qc1)],[.sli 4 QF qp0 qc1 l0],[.own 81 4 Q1W (.slice aJ aL aK) a1])) (0,a9,aA,aB,aC) e [6,3,0] [0] Z fun s_ bK bL e hLu2=>?_
 obtain ⟨a6,a1,aJ,aK,aL⟩:=s_
 unfold Q3J at e
 try dsimp only at e ⊢
 refine Q5<|sq<|wP2 Z<|Qi (Nlt a6 12)<|nk4 27 6 3 0 Z ?_
 refine Qs e Z (fun e=>?_) fun e=>?_
 refine k3 6 3 0 Z<|kt<|Q5<|Qk<|Qe<|wP2 Z<|kn e fun _ b4 e=>?_
 try dsimp only at e
 refine c0 [] [0] Z fn_134 b4 Q83 [] [_] Z<|QR Z Z Z Zq Z Q5e Q6o tZ_81 Z (zs:=[.int .u8 0,.int .i64 0,.int .i64 0,V1]) (by kernel_rfl) Z (out:=V4 ..) Z fun bM=>kg e fun aT e=>Q1V ([(⟨0,(MK 1 (a6:Int)),0,([] : List Qc),([] : List Qc)⟩ : QS)]) 1 0 Z Z Z Zq Z Z Z Z Z (fun F w hφ=>⟨[.int .u8 0,.int .i64 (MK 1 (a6:Int)),.int .i64 0,V1],[],Z,Z,⟨(none,0),Z,(Q10 Q2n Q16)⟩,Z⟩) Q5e tR_81 Z Z (Nat.le_trans aT (by decide)) (Nat.le_trans (Nat.mul_le_mul_right _ aT) (by decide)) (H2:=fun b5 b6=>[_,_]) (fun _ _=>Z) fun b5 b6=>Q4K 0 Z (H':=[_]) Z<|Qx (S':=V7 ..) Z Z Z Z Z<|Q2<|Q6<|Qv<|k3 3 6 0 Z<|Qe<|wP2 Z<|kg e fun b7 e=>Qi (QD (a:=a6) (b:=1) b7)<|Qx (S':=V4 ..) Z Z Z Z Z<|Q2 ?_
 refine rnd (a6+1,(a1++([(⟨0,(MK 1 (a6:Int)),0,([] : List Qc),([] : List Qc)⟩ : QS)])),b5,b6,((a1++([(⟨0,(MK 1 (a6:Int)),0,([] : List Qc),([] : List Qc)⟩ : QS)])).length)) (Qp hLu2 (zs e)) [6,3,0] [0] Z
 refine k2 3 0 Z<|QQ<|Q7<|Q7<|Qq ?_
 refine jn (a1,aJ,aK,aL) (Qb hLu2 (zs e)) [3,0] [0] Z
 rintro ⟨aN,aD,aE,aF⟩ j
 try dsimp only at j ⊢
 have e:=hLj_2
 try rw [j] at e
 refine sq<|wP2 Z<|wN Z Q5e<|kg e fun b8 e=>Q8j 0 Z fun aU aQ=>Q8k Z Z Z Zq Z Z Z Z Q5e Q6o (Nat.le_trans b8 (by rw [← aQ.2];exact aQ.1)) aU<|wP Z<|nk1 2 Z<|Qm ?_
 obtain rfl:=Zi e
 refine re1 [0] [] results96 Z ⟨aD,aE,aF,Z,Z,Z⟩ Z
theorem QcO {N qc1 qc3:Nat} {a0:ByteArray} {a1 a2:Int} {qp0 qp2:OA} {l3:List Qn} {l4:List QO} {o2:List QM} {o6:List QS} (e:Q6L N a0 a1 a2 l3 l4=some (o2,o6)):QY prog 54 [.agg #[.string a0,.int .i64 a1,.int .i64 a2,.slice qp0 l3.length qc1,.slice qp2 l4.length qc3]] [.sli 10 QB qp0 qc1 l3,.sli 4 QF qp2 qc3 l4] [] (fun v p q=>∃ o0 o1 o3 o4 o5 o7,R0 (.agg #[.string a0,.int .i64 a1,.int .i64 a2,.slice o0 l3.length o1,.slice o4 l4.length o5]) [] [.own 67 10 Q1J (.slice o0 o3 o1) o2,.own 81 4 Q1W (.slice o4 o7 o5) o6] v p q):=by
 unfold Q6L at e
 refine Qt func54 Z ntmps54 Z (S:=[_]) Z fun C=>sq<|wB Z fun g1=>QH Z Z Z Zq Z tZ_52 Z fun g2=>nk2 2 1 Z<|sq<|wF Z Q6R<|wD 1 3 Z Qa1 Qaa Z<|kn e fun v5 hc5 e=>c3 [] [0,1] Z fn_95 hc5 Qca [0] [_,_] Z fun p5_0 c5_1 c5_2=>wF Z Q6R<|wS 2 3 Z Qa1 (all':=V5 ..) Z (H':=V3 ..) Z<|nk2 2 1 Z<|sq<|wF Z Q8G<|wD 2 4 Z QcB tA_50 Z<|kn e fun v9 hc9 e=>c3 [] [0,1,2] Z fn_96 hc9 QcK [1] (V3 ..) Z fun p9_0 c9_1 c9_2=>wF Z Q8G<|wS 3 4 Z QcB (all':=V5 ..) Z (H':=V4 ..) Z<|nk2 2 1 Z<|sq<|wM 3 0 (V5 ..) Z Q2X Q8U Z<|wS 2 0 Z Q2X (all':=V5 ..) Z (H':=V4 ..) Z ?_
 refine nk1 2 Z<|Qm ?_
 have j:=(Zi e).symm
 obtain ⟨rfl,rfl⟩:=Pj j.symm
 refine Q2p (Hr:=[_,_]) [1,0] results54 (QU 2 Z Z Q2X Q8U Z Z) ⟨p5_0,c5_1,c5_2,p9_0,c9_1,c9_2,Z,Z,Z⟩ (asK [] Z) Z Z (.inl Z)
theorem Q7J {N:Nat} {a0 a1:Int} (e:Q2F N a0 a1=some ()):QY prog 55 [.int .i64 a0,.int .i64 a1] [] [] (R0 (.agg #[.string EB,.int .i64 0,.int .i64 (MK a0 a1),V1,V1]) [] []):=by
 unfold Q2F at e
 refine Qt func55 Z ntmps55 Z (S:=[_,_]) Z fun C=>sq<|QH Z Z Z Zq Z tZ_52 Z fun g4=>nt<|sq<|wP2 Z<|kn e fun _ hc7 e=>?_
 try dsimp only at e
 refine c0 [] [0] Z fn_57 hc7 Q2z [] [_] Z<|Q1v Z Z Z Zq Z tZ_52 tP_52 Z (out:=V5 ..) Z<|wS 0 0 Z Q2X (all':=V5 ..) Z (H':=[_]) Z<|nk1 4 Z<|Qm ?_
 have j:=(Zi e).symm
 refine Q2p (Hr:=[]) [] results55 (QU 0 Z Z Q2X Q8U Z Z) ⟨Z,Z,Z⟩ (asK [] Z) Z Z (.inl Z)
theorem Qbi {N qc1:Nat} {qp0:OA} {l0:List Qf} {o2:List Q11} (e:Q3L N l0=some o2):QY prog 27 [.slice qp0 l0.length qc1] [.sli 5 Qh qp0 qc1 l0] [] (fun v p q=>∃ o0 o1 o3,R0 (.slice o0 l0.length o1) [] [.own 52 5 Q25 (.slice o0 o3 o1) o2] v p q):=by
 unfold Q3L at e
 refine Qt func27 Z ntmps27 Z (S:=[_]) Z fun C=>sq<|wP Z<|nk1 0 Z<|sq<|wP Z<|wN Z Q3e<|wP Z<|kg e fun bF e=>Qi (QD (a:=l0.length) (b:=12) bF)<|kg e fun aW e=>Q8i (m:=l0.length+12) Qh Z Z Z Zq Z Z Z Z Q3e tR_52 Z Z (Nat.le_trans (Nat.mul_le_mul_left _ aW) (by decide)) (Nat.le_trans aW (by decide)) fun b0=>wP Z<|nk2 3 0 Z<|Q5<|kn e fun b1 e hLj_1=>?_
 refine cut (σ:=(List Q11)×OA×Nat×Nat) b1 (fun (aC,aD,aE,aF)=>(aC,[(3,.slice aD aF aE),(0,.slice qp0 l0.length qc1)],[.sli 5 Qh qp0 qc1 l0],[.own 52 5 Q25 (.slice aD aF aE) aC])) ?_ ?_
 refine sq<|wP Z<|nt<|Qk<|wc_sh [.own 52 5 Q25 (.slice (some ⟨b0,0,none⟩) 0 (l0.length+12)) []] (fun _ h=>h.rowKind Q25 0 Z)<|lop (σ:=Nat×(List Q11)×OA×Nat×Nat) (Q2I N l0) (fun (aP,a9,aJ,aK,aL)=>((aP,a9),[(4,.int .i64 (aP:Int)),(3,.slice aJ aL aK),(0,.slice qp0 l0.length qc1)],[.sli 5 Qh qp0 qc1 l0],[.own 52 5 Q25 (.slice aJ aL aK) a9])) (0,[],some ⟨b0,0,none⟩,l0.length+12,0) e [4,3,0] [0] Z fun s_ bL bM e hLu1=>?_
 obtain ⟨aP,a9,aJ,aK,aL⟩:=s_
 unfold Q2I at e
 try dsimp only at e ⊢
 refine Q5<|sq<|wP2 Z<|wN Z Q3e<|wP Z<|Qi (Nlt aP l0.length)<|nk4 14 4 3 0 Z ?_
 refine Qs e Z (fun e=>?_) fun e=>?_
 refine k3 4 3 0 Z<|kt<|Q5<|Qk<|sq<|wP2 Z<|kn e fun z b2 e=>wI 0 aP Z b2 Q3e Q2X fun bN bO bJ bG=>Q1i Q1T 1 Z fun bP b3 _=>?_
 subst b3
 refine wLd 2 0 (V5 ..) Z Q2X Q8U Z ?_
 obtain ⟨⟨a0,a1⟩,b4,e⟩:=Qy e
 try dsimp only at e
 refine c6 [] [0] Z fn_54 b4 QcO [0,1] [_] Z fun a5 a6 bH a7 a8 bI=>QH Z Z Z Zq Z tZ_52 Z fun g5=>wS 0 0 Z Q2X (all':=V5 ..) Z (H':=V4 ..) Z<|nk4 5 4 3 0 Z<|Qe<|wP Z<|wM 0 0 (V5 ..) Z Q2X Q8U Z<|QR Z Z Z Zq Z Q3e Q2X tZ_52 Z (zs:=[.string EB,.int .i64 0,.int .i64 0,V1,V1]) (by kernel_rfl) Z (out:=V5 ..) Z fun b5=>kg e fun aR e=>Q1Z 2 Z fun aT _=>?_
 subst aT
 refine Q3U 2 (φ':=.own 67 10 Q1J (.slice a5 (((a0.take z.conds.length)++(a0.drop z.conds.length)).length) a6) ((a0.take z.conds.length)++(a0.drop z.conds.length))) Z (by rw [List.take_append_drop]) (H':=V5 ..) Z<|Qb3 1 (v':=.agg #[.string z.name,.int .i64 (z.salience),.int .i64 (z.vars),.slice a5 ((a0.take z.conds.length).length) a6,.slice a7 z.acts.length a8]) Z (by rw [Q2e aR])<|Q3U 0 (φ':=.blk b5 [.string z.name,.int .i64 (z.salience),.int .i64 (z.vars),.slice a5 ((a0.take z.conds.length).length) a6,.slice a7 z.acts.length a8] 52) Z (by rw [Q2e aR]) (H':=V5 ..) Z<|Q3U 1 (φ':=.blk g5 [.string z.name,.int .i64 (z.salience),.int .i64 (z.vars),.slice a5 ((a0.take z.conds.length).length) a6,.slice a7 z.acts.length a8] 52) Z (by rw [Q2e aR]) (H':=V5 ..) Z<|Q6p 2 Z (H':=V4 ..) Z<|Q2q (.sli 10 Q1J a5 a6 ((a0.take z.conds.length)++(a0.drop z.conds.length))) (fun F w hφ=>Q3g (hφ _ (Q1f (k:=0) Z)))<|kg e fun aS e=>Q1Z 2 Z fun aU _=>?_
 subst aU
 refine Q3U 2 (φ':=.own 81 4 Q1W (.slice a7 (((a1.take z.acts.length)++(a1.drop z.acts.length)).length) a8) ((a1.take z.acts.length)++(a1.drop z.acts.length))) Z (by rw [List.take_append_drop]) (H':=V4 ..) Z<|Qb3 1 (v':=.agg #[.string z.name,.int .i64 (z.salience),.int .i64 (z.vars),.slice a5 ((a0.take z.conds.length).length) a6,.slice a7 ((a1.take z.acts.length).length) a8]) Z (by rw [Q2e aS])<|Q3U 0 (φ':=.blk b5 [.string z.name,.int .i64 (z.salience),.int .i64 (z.vars),.slice a5 ((a0.take z.conds.length).length) a6,.slice a7 ((a1.take z.acts.length).length) a8] 52) Z (by rw [Q2e aS]) (H':=V4 ..) Z<|Q3U 1 (φ':=.blk g5 [.string z.name,.int .i64 (z.salience),.int .i64 (z.vars),.slice a5 ((a0.take z.conds.length).length) a6,.slice a7 ((a1.take z.acts.length).length) a8] 52) Z (by rw [Q2e aS]) (H':=V4 ..) Z<|Q6p 2 Z (H':=V3 ..) Z<|Q2q (.sli 4 Q1W a7 a8 ((a1.take z.acts.length)++(a1.drop z.acts.length))) (fun F w hφ=>Q3g (hφ _ (Q1f (k:=0) Z)))<|kg e fun aX e=>Q1V ([(⟨z.name,z.salience,z.vars,(a0.take z.conds.length),(a0.drop z.conds.length),(a1.take z.acts.length),(a1.drop z.acts.length)⟩ : Q11)]) 2 0 Z Z Z Zq Z Z Z Z Z (fun F w hφ=>⟨[.string z.name,.int .i64 (z.salience),.int .i64 (z.vars),.slice a5 ((a0.take z.conds.length).length) a6,.slice a7 ((a1.take z.acts.length).length) a8],[],Z,Z,⟨((a5,a6),(a7,a8)),Z,(Q10 (hφ _ (Q1f (k:=2) Z)) (Q10 (hφ _ (Q1f (k:=0) Z)) Q16))⟩,Z⟩) Q3e tR_52 Z Z (Nat.le_trans aX (by decide)) (Nat.le_trans (Nat.mul_le_mul_right _ aX) (by decide)) (H2:=fun b6 b7=>(V3 ..)) (fun _ _=>Z) fun b6 b7=>Q4K 0 Z (H':=[_,_]) Z<|Qx (S':=V7 ..) Z Z Z Z Z<|Q2<|Q6<|Qv<|k3 3 4 0 Z<|Qe<|wP2 Z<|kg e fun b8 e=>Qi (QD (a:=aP) (b:=1) b8)<|Qx (S':=V4 ..) Z Z Z Z Z<|Q2<|Qo [1] Z (H':=[_]) Z ?_
 refine rnd (aP+1,(a9++([(⟨z.name,z.salience,z.vars,(a0.take z.conds.length),(a0.drop z.conds.length),(a1.take z.acts.length),(a1.drop z.acts.length)⟩ : Q11)])),b6,b7,((a9++([(⟨z.name,z.salience,z.vars,(a0.take z.conds.length),(a0.drop z.conds.length),(a1.take z.acts.length),(a1.drop z.acts.length)⟩ : Q11)])).length)) (Qp hLu1 (zs e)) [4,3,0] [8] Z
 refine k2 3 0 Z<|QQ<|Q7<|Q7<|Qq ?_
 refine jn (a9,aJ,aK,aL) (Qb hLu1 (zs e)) [3,0] [0] Z
 rintro ⟨aC,aD,aE,aF⟩ j
 try dsimp only at j ⊢
 have e:=hLj_1
 try rw [j] at e
 refine Q5<|kn e fun b9 e hLj_2=>?_
 refine cut (σ:=(List Q11)×OA×Nat×Nat) b9 (fun (aQ,aG,aH,aI)=>(aQ,[(3,.slice aG aI aH),(0,.slice qp0 l0.length qc1)],[.sli 5 Qh qp0 qc1 l0],[.own 52 5 Q25 (.slice aG aI aH) aQ])) ?_ ?_
 refine sq<|wP Z<|nt<|Qk<|lop (σ:=Nat×(List Q11)×OA×Nat×Nat) (Q2J N) (fun (aB,aA,aM,aN,aO)=>((aB,aA),[(6,.int .i64 (aB:Int)),(3,.slice aM aO aN),(0,.slice qp0 l0.length qc1)],[.sli 5 Qh qp0 qc1 l0],[.own 52 5 Q25 (.slice aM aO aN) aA])) (0,aC,aD,aE,aF) e [6,3,0] [0] Z fun s_ bQ bR e hLu2=>?_
 obtain ⟨aB,aA,aM,aN,aO⟩:=s_
 unfold Q2J at e
 try dsimp only at e ⊢
 refine Q5<|sq<|wP2 Z<|Qi (Nlt aB 12)<|nk4 27 6 3 0 Z ?_
 refine Qs e Z (fun e=>?_) fun e=>?_
 refine k3 6 3 0 Z<|kt<|Q5<|Qk<|Qe<|wP2 Z<|kn e fun _ bA e=>?_
 try dsimp only at e
 refine c0 [] [0] Z fn_55 bA Q7J [] [_] Z<|QR Z Z Z Zq Z Q3e Q2X tZ_52 Z (zs:=[.string EB,.int .i64 0,.int .i64 0,V1,V1]) (by kernel_rfl) Z (out:=V5 ..) Z fun bS=>kg e fun aY e=>Q1V ([(⟨EB,0,(MK 1 (aB:Int)),([] : List QM),([] : List QM),([] : List QS),([] : List QS)⟩ : Q11)]) 1 0 Z Z Z Zq Z Z Z Z Z (fun F w hφ=>⟨[.string EB,.int .i64 0,.int .i64 (MK 1 (aB:Int)),V1,V1],[],Z,Z,⟨((none,0),(none,0)),Z,(Q10 Q2n (Q10 Q2n Q16))⟩,Z⟩) Q3e tR_52 Z Z (Nat.le_trans aY (by decide)) (Nat.le_trans (Nat.mul_le_mul_right _ aY) (by decide)) (H2:=fun bB bC=>[_,_]) (fun _ _=>Z) fun bB bC=>Q4K 0 Z (H':=[_]) Z<|Qx (S':=V7 ..) Z Z Z Z Z<|Q2<|Q6<|Qv<|k3 3 6 0 Z<|Qe<|wP2 Z<|kg e fun bD e=>Qi (QD (a:=aB) (b:=1) bD)<|Qx (S':=V4 ..) Z Z Z Z Z<|Q2 ?_
 refine rnd (aB+1,(aA++([(⟨EB,0,(MK 1 (aB:Int)),([] : List QM),([] : List QM),([] : List QS),([] : List QS)⟩ : Q11)])),bB,bC,((aA++([(⟨EB,0,(MK 1 (aB:Int)),([] : List QM),([] : List QM),([] : List QS),([] : List QS)⟩ : Q11)])).length)) (Qp hLu2 (zs e)) [6,3,0] [0] Z
 refine k2 3 0 Z<|QQ<|Q7<|Q7<|Qq ?_
 refine jn (aA,aM,aN,aO) (Qb hLu2 (zs e)) [3,0] [0] Z
 rintro ⟨aQ,aG,aH,aI⟩ j
 try dsimp only at j ⊢
 have e:=hLj_2
 try rw [j] at e
 refine sq<|wP2 Z<|wN Z Q3e<|kg e fun bE e=>Q8j 0 Z fun aZ aV=>Q8k Z Z Z Zq Z Z Z Z Q3e Q2X (Nat.le_trans bE (by rw [← aV.2];exact aV.1)) aZ<|wP Z<|nk1 2 Z<|Qm ?_
 obtain rfl:=Zi e
 refine re1 [0] [] results27 Z ⟨aG,aH,aI,Z,Z,Z⟩ Z
theorem Qcd {N qc1 qc3:Nat} {qp0 qp2:OA} {l0 o2:List Q8} {l1:List Qf} {o6:List Q11} (e:Q4x N l0 l1=some (o2,o6)):QY prog 10 [.agg #[.slice qp0 l0.length qc1,.slice qp2 l1.length qc3]] [.sli 2 Qd qp0 qc1 l0,.sli 5 Qh qp2 qc3 l1] [] (fun v p q=>∃ o0 o1 o3 o4 o5 o7,R0 (.agg #[.slice o0 l0.length o1,.slice o4 l1.length o5]) [] [.own 69 2 Qd (.slice o0 o3 o1) o2,.own 52 5 Q25 (.slice o4 o7 o5) o6] v p q):=by
 unfold Q4x at e
 refine Qt func10 Z ntmps10 Z (S:=[_]) Z fun C=>sq<|wB Z fun g1=>QH Z Z Z Zq Z tZ_25 Z fun g2=>nk2 2 1 Z<|sq<|wF Z Q4h<|wD 1 0 Z Q8u Q8F Z<|kn e fun v5 hc5 e=>c3 [] [0,1] Z fn_26 hc5 Qce [0] [_,_] Z fun p5_0 c5_1 c5_2=>wF Z Q4h<|wS 2 0 Z Q8u (all':=[_,_]) Z (H':=V3 ..) Z<|nk2 2 1 Z<|sq<|wF Z Q5Z<|wD 2 1 Z Q9o Q9C Z<|kn e fun v9 hc9 e=>c3 [] [0,1,2] Z fn_27 hc9 Qbi [1] (V3 ..) Z fun p9_0 c9_1 c9_2=>wF Z Q5Z<|wS 3 1 Z Q9o (all':=[_,_]) Z (H':=V4 ..) Z<|nk2 2 1 Z<|sq<|wM 3 0 [_,_] Z Qac Qb0 Z<|wS 2 0 Z Qac (all':=[_,_]) Z (H':=V4 ..) Z ?_
 refine nk1 2 Z<|Qm ?_
 have j:=(Zi e).symm
 obtain ⟨rfl,rfl⟩:=Pj j.symm
 refine Q2p (Hr:=[_,_]) [1,0] results10 (QU 2 Z Z Qac Qb0 Z Z) ⟨p5_0,c5_1,c5_2,p9_0,c9_1,c9_2,Z,Z,Z⟩ (asK [] Z) Z Z (.inl Z)
theorem Q7k {N:Nat} {a0 a1:Int} (e:Q2j N a0 a1=some ()):QY prog 97 [.int .i64 a0,.int .i64 a1] [] [] (R0 (.agg #[.int .u8 0,.int .i64 (MK a0 a1),.string EB]) [] []):=by
 unfold Q2j at e
 refine Qt func97 Z ntmps97 Z (S:=[_,_]) Z fun C=>sq<|QH Z Z Z Zq Z Q1X Z fun g4=>nt<|sq<|wP2 Z<|kn e fun _ hc7 e=>?_
 try dsimp only at e
 refine c0 [] [0] Z fn_57 hc7 Q2z [] [_] Z<|Q1v Z Z Z Zq Z Q1X Q8t Z (out:=V3 ..) Z<|wS 0 0 Z Qz (all':=V3 ..) Z (H':=[_]) Z<|nk1 4 Z<|Qm ?_
 have j:=(Zi e).symm
 refine Q2p (Hr:=[]) [] results97 (QU 0 Z Z Qz Q17 Z Z) ⟨Z,Z,Z⟩ (asK [] Z) Z Z (.inl Z)
theorem QbX {N qc1:Nat} {qp0:OA} {l0 o2:List V} (e:Q46 N l0=some o2):QY prog 56 [.slice qp0 l0.length qc1] [.sli 3 R_V qp0 qc1 l0] [] (fun v p q=>∃ o0 o1 o3,R0 (.slice o0 l0.length o1) [] [.own 57 3 R_V (.slice o0 o3 o1) o2] v p q):=by
 unfold Q46 at e
 refine Qt func56 Z ntmps56 Z (S:=[_]) Z fun C=>sq<|wP Z<|nk1 0 Z<|sq<|wP Z<|wN Z Q1F<|wP Z<|kg e fun aO e=>Qi (QD (a:=l0.length) (b:=12) aO)<|kg e fun aF e=>Q8i (m:=l0.length+12) R_V Z Z Z Zq Z Z Z Z Q1F tR_57 Z Z (Nat.le_trans (Nat.mul_le_mul_left _ aF) (by decide)) (Nat.le_trans aF (by decide)) fun g8=>wP Z<|nk2 3 0 Z<|sq<|wP2 Z<|kg e fun aC e=>Q86 0 0 Z Z Z Zq Z Z Z Z Z Q1F tR_57 Z Z (Nat.le_trans aC (by decide)) (Nat.le_trans (Nat.mul_le_mul_right _ aC) (by decide)) (H2:=fun aG aH=>[_]) (fun _ _=>Z) fun aG aH=>Qx (S':=V4 ..) Z Z Z Z Z<|nk2 3 0 Z<|Q5<|kn e fun aI e hLj_1=>?_
 refine cut (σ:=(List V)×OA×Nat×Nat) aI (fun (aA,a1,a5,a6)=>(aA,[(3,.slice a1 a6 a5),(0,.slice qp0 l0.length qc1)],[.sli 3 R_V qp0 qc1 l0],[.own 57 3 R_V (.slice a1 a6 a5) aA])) ?_ ?_
 refine sq<|wP Z<|nt<|Qk<|lop (σ:=Nat×(List V)×OA×Nat×Nat) (Q36 N) (fun (a0,z,a7,a8,a9)=>((a0,z),[(4,.int .i64 (a0:Int)),(3,.slice a7 a9 a8),(0,.slice qp0 l0.length qc1)],[.sli 3 R_V qp0 qc1 l0],[.own 57 3 R_V (.slice a7 a9 a8) z])) (0,l0,aG,aH,(l0).length) e [4,3,0] [0] Z fun s_ aP aQ e hLu1=>?_
 obtain ⟨a0,z,a7,a8,a9⟩:=s_
 unfold Q36 at e
 try dsimp only at e ⊢
 refine Q5<|sq<|wP2 Z<|Qi (Nlt a0 12)<|nk4 13 4 3 0 Z ?_
 refine Qs e Z (fun e=>?_) fun e=>?_
 refine k3 4 3 0 Z<|kt<|Q5<|Qk<|Qe<|wP2 Z<|kn e fun _ aJ e=>?_
 try dsimp only at e
 refine c0 [] [0] Z fn_97 aJ Q7k [] [_] Z<|QR Z Z Z Zq Z Q1F Qz Q1X Z (zs:=[.int .u8 0,.int .i64 0,.string EB]) (by kernel_rfl) Z (out:=V3 ..) Z fun aR=>kg e fun aD e=>Q1V ([(⟨0,(MK 1 (a0:Int)),EB⟩ : V)]) 1 0 Z Z Z Zq Z Z Z Z Z (fun F w hφ=>⟨[.int .u8 0,.int .i64 (MK 1 (a0:Int)),.string EB],[],Z,Z,⟨(),Z,Q16⟩,Z⟩) Q1F tR_57 Z Z (Nat.le_trans aD (by decide)) (Nat.le_trans (Nat.mul_le_mul_right _ aD) (by decide)) (H2:=fun aK aL=>[_,_]) (fun _ _=>Z) fun aK aL=>Q4K 0 Z (H':=[_]) Z<|Qx (S':=V7 ..) Z Z Z Z Z<|Q2<|Q6<|Qv<|k3 3 4 0 Z<|Qe<|wP2 Z<|kg e fun aM e=>Qi (QD (a:=a0) (b:=1) aM)<|Qx (S':=V4 ..) Z Z Z Z Z<|Q2 ?_
 refine rnd (a0+1,(z++([(⟨0,(MK 1 (a0:Int)),EB⟩ : V)])),aK,aL,((z++([(⟨0,(MK 1 (a0:Int)),EB⟩ : V)])).length)) (Qp hLu1 (zs e)) [4,3,0] [0] Z
 refine k2 3 0 Z<|QQ<|Q7<|Q7<|Qq ?_
 refine jn (z,a7,a8,a9) (Qb hLu1 (zs e)) [3,0] [0] Z
 rintro ⟨aA,a1,a5,a6⟩ j
 try dsimp only at j ⊢
 have e:=hLj_1
 try rw [j] at e
 refine sq<|wP2 Z<|wN Z Q1F<|kg e fun aN e=>Q8j 0 Z fun aE aB=>Q8k Z Z Z Zq Z Z Z Z Q1F Qz (Nat.le_trans aN (by rw [← aB.2];exact aB.1)) aE<|wP Z<|nk1 2 Z<|Qm ?_
 obtain rfl:=Zi e
 refine re1 [0] [] results56 Z ⟨a1,a5,a6,Z,Z,Z⟩ Z
theorem QcN {N qc1:Nat} {a0 a1:Int} {qp0:OA} {l2 o2:List V} (e:Q6K N a0 a1 l2=some o2):QY prog 28 [.agg #[.int .i64 a0,.int .i64 a1,.slice qp0 l2.length qc1]] [.sli 3 R_V qp0 qc1 l2] [] (fun v p q=>∃ o0 o1 o3,R0 (.agg #[.int .i64 a0,.int .i64 a1,.slice o0 l2.length o1]) [] [.own 57 3 R_V (.slice o0 o3 o1) o2] v p q):=by
 unfold Q6K at e
 refine Qt func28 Z ntmps28 Z (S:=[_]) Z fun C=>sq<|wB Z fun g1=>QH Z Z Z Zq Z tZ_71 Z fun g2=>nk2 2 1 Z<|sq<|wF Z Q6m<|wD 1 2 Z Q6n Q6E Z<|kn e fun v5 hc5 e=>c3 [] [0,1] Z fn_56 hc5 QbX [0] [_,_] Z fun p5_0 c5_1 c5_2=>wF Z Q6m<|wS 2 2 Z Q6n (all':=V3 ..) Z (H':=V3 ..) Z<|nk2 2 1 Z<|sq<|wM 2 0 (V3 ..) Z Q4l Qab Z<|wS 1 0 Z Q4l (all':=V3 ..) Z (H':=V3 ..) Z<|nk1 2 Z<|Qm ?_
 obtain rfl:=Zi e
 refine Q2p (Hr:=[_]) [0] results28 (QU 1 Z Z Q4l Qab Z Z) ⟨p5_0,c5_1,c5_2,Z,Z,Z⟩ (asK [] Z) Z Z (.inl Z)
theorem Q7I {N:Nat} {a0 a1:Int} (e:Q2E N a0 a1=some ()):QY prog 29 [.int .i64 a0,.int .i64 a1] [] [] (R0 (.agg #[.int .i64 (MK a0 a1),.int .i64 0,V1]) [] []):=by
 unfold Q2E at e
 refine Qt func29 Z ntmps29 Z (S:=[_,_]) Z fun C=>sq<|QH Z Z Z Zq Z tZ_71 Z fun g4=>nt<|sq<|wP2 Z<|kn e fun _ hc7 e=>?_
 try dsimp only at e
 refine c0 [] [0] Z fn_57 hc7 Q2z [] [_] Z<|Q1v Z Z Z Zq Z tZ_71 tP_71 Z (out:=V3 ..) Z<|wS 0 0 Z Q4l (all':=V3 ..) Z (H':=[_]) Z<|nk1 4 Z<|Qm ?_
 have j:=(Zi e).symm
 refine Q2p (Hr:=[]) [] results29 (QU 0 Z Z Q4l Qab Z Z) ⟨Z,Z,Z⟩ (asK [] Z) Z Z (.inl Z)
theorem Qcc {N qc1:Nat} {qp0:OA} {l0:List QP} {o2:List Q1u} (e:Q4w N l0=some o2):QY prog 11 [.slice qp0 l0.length qc1] [.sli 3 Q14 qp0 qc1 l0] [] (fun v p q=>∃ o0 o1 o3,R0 (.slice o0 l0.length o1) [] [Q23 Q3i 71 3 (.slice o0 o3 o1) o2] v p q):=by
 unfold Q4w at e
 refine Qt func11 Z ntmps11 Z (S:=[_]) Z fun C=>sq<|wP Z<|nk1 0 Z<|sq<|wP Z<|wN Z Q4N<|wP Z<|kg e fun bL e=>Qi (QD (a:=l0.length) (b:=12) bL)<|kg e fun b3 e=>Q8i (m:=l0.length+12) T_FactD.pair Z Z Z Zq Z Z Z Z Q4N tR_71 Z Z (Nat.le_trans (Nat.mul_le_mul_left _ b3) (by decide)) (Nat.le_trans b3 (by decide)) fun b4=>wl_sh [bagF T_FactD [] none,_] (fun _ h=>h.bagNil T_FactD)<|wl_sh [Q23 T_FactD 71 3 (.slice (some ⟨b4,0,none⟩) 0 (l0.length+12)) []] (fun _ h=>h.treeIn 1 0 Z Z Z Z)<|wP Z<|nk2 3 0 Z<|Q5<|kn e fun b8 e hLj_1=>?_
 refine cut (σ:=(List Q1u)×OA×Nat×Nat) b8 (fun (aD,aE,aF,aG)=>(aD,[(3,.slice aE aG aF),(0,.slice qp0 l0.length qc1)],[.sli 3 Q14 qp0 qc1 l0],[Q23 Q3i 71 3 (.slice aE aG aF) aD])) ?_ ?_
 refine sq<|wP Z<|nt<|Qk<|wc_sh [Q23 Q3i 71 3 (.slice (some ⟨b4,0,none⟩) 0 (l0.length+12)) []] (fun _ h=>h.treeKind Q3i 0 Z)<|lop (σ:=Nat×(List Q1u)×OA×Nat×Nat) (Q3p N l0) (fun (aO,a5,aI,aJ,aK)=>((aO,a5),[(4,.int .i64 (aO:Int)),(3,.slice aI aK aJ),(0,.slice qp0 l0.length qc1)],[.sli 3 Q14 qp0 qc1 l0],[Q23 Q3i 71 3 (.slice aI aK aJ) a5])) (0,[],some ⟨b4,0,none⟩,l0.length+12,0) e [4,3,0] [0] Z fun s_ bQ bR e hLu1=>?_
 obtain ⟨aO,a5,aI,aJ,aK⟩:=s_
 unfold Q3p at e
 try dsimp only at e ⊢
 refine Q5<|sq<|wP2 Z<|wN Z Q4N<|wP Z<|Qi (Nlt aO l0.length)<|nk4 14 4 3 0 Z ?_
 refine Qs e Z (fun e=>?_) fun e=>?_
 refine k3 4 3 0 Z<|kt<|Q5<|Qk<|sq<|wP2 Z<|kn e fun z b9 e=>wI 0 aO Z b9 Q4N Q4l fun bS bT bP bM=>Q1i Q40 1 Z fun bU bA _=>?_
 subst bA
 refine wLd 1 0 (V3 ..) Z Q4l Qab Z<|kn e fun a0 bB e=>c3 [] [0] Z fn_28 bB QcN [0] [_] Z fun a7 a8 bN=>QH Z Z Z Zq Z tZ_71 Z fun g5=>wS 0 0 Z Q4l (all':=V3 ..) Z (H':=V3 ..) Z<|nk4 5 4 3 0 Z<|Qe<|wP Z<|wM 0 0 (V3 ..) Z Q4l Qab Z<|QR Z Z Z Zq Z Q4N Q4l tZ_71 Z (zs:=[.int .i64 0,.int .i64 0,V1]) (by kernel_rfl) Z (out:=V3 ..) Z fun bO=>Qar 3 Z fun bC _=>?_
 subst bC
 refine Q1Z 2 Z fun aS _=>?_
 subst aS
 refine kg e fun aR e=>Q3U 2 (φ':=.own 57 3 R_V (.slice a7 ((a0.take z.args.length++a0.drop z.args.length).length) a8) (a0.take z.args.length++a0.drop z.args.length)) Z (by rw [List.take_append_drop]) (H':=V4 ..) Z<|Qb3 1 (v':=.agg #[.int .i64 (z.id),.int .i64 (z.ty),.slice a7 ((a0.take z.args.length).length) a8]) Z (by rw [Q2e aR])<|Q3U 0 (φ':=.blk bO [.int .i64 (z.id),.int .i64 (z.ty),.slice a7 ((a0.take z.args.length).length) a8] 71) Z (by rw [Q2e aR]) (H':=V4 ..) Z<|Q3U 1 (φ':=.blk g5 [.int .i64 (z.id),.int .i64 (z.ty),.slice a7 ((a0.take z.args.length).length) a8] 71) Z (by rw [Q2e aR]) (H':=V4 ..) Z<|Qc4 3 Z fun aP aT=>kg e fun bD e=>?_
 have aC:List.map (fun x:Q1u×(OA×Nat)=>x.1) (aP++[((⟨z.id,z.ty,a0.take z.args.length,a0.drop z.args.length⟩ : Q1u),(a7,a8))])=a5++[(⟨z.id,z.ty,a0.take z.args.length,a0.drop z.args.length⟩ : Q1u)]:=pair_app aT (us:=[(⟨z.id,z.ty,a0.take z.args.length,a0.drop z.args.length⟩ : Q1u)]) rfl
 have aU:aP.length+([((⟨z.id,z.ty,a0.take z.args.length,a0.drop z.args.length⟩ : Q1u),(a7,a8))] : List (Q1u×(OA×Nat))).length≤3518437208883:=by rw [Q81 aT];exact bD
 refine Q1V (R:=Q3i.pair) ([((⟨z.id,z.ty,a0.take z.args.length,a0.drop z.args.length⟩ : Q1u),(a7,a8))]) 4 1 Z Z Z Zq Z Z Z Z Z (fun F w hφ=>⟨[.int .i64 (z.id),.int .i64 (z.ty),.slice a7 ((a0.take z.args.length).length) a8],[],Z,Z,Z,Z⟩) Q4N tR_71 Z Z (Nat.le_trans aU (by decide)) (Nat.le_trans (Nat.mul_le_mul_right _ aU) (by decide)) (H2:=fun aV aW=>(V5 ..)) (fun _ _=>Z) fun aV aW=>Q4K 1 Z (H':=V4 ..) Z<|wl_as (d:=25) (v':=.slice aV ((a5++[(⟨z.id,z.ty,a0.take z.args.length,a0.drop z.args.length⟩ : Q1u)]).length) aW) (S':=V7 ..) Z Z (by rw [Q81 aC])<|Q3U 3 (φ':=.own 71 3 Q3i.pair (.slice aV ((a5++[(⟨z.id,z.ty,a0.take z.args.length,a0.drop z.args.length⟩ : Q1u)]).length) aW) (aP++[((⟨z.id,z.ty,a0.take z.args.length,a0.drop z.args.length⟩ : Q1u),(a7,a8))])) Z (by rw [Q81 aC]) (H':=V4 ..) Z<|wl_pick [2,0,1,3] Z (H':=V4 ..) Z<|wl_sh [bagF Q3i (aP++[((⟨z.id,z.ty,a0.take z.args.length,a0.drop z.args.length⟩ : Q1u),(a7,a8))]) none,_,_] (fun _ h=>QC.bagPush (T:=Q3i) (x:=(⟨z.id,z.ty,a0.take z.args.length,a0.drop z.args.length⟩ : Q1u)) (r:=(a7,a8)) (zs:=aP) (H:=V3 ..) h 0 Z)<|wl_sh [_,Q23 Q3i 71 3 (.slice aV ((a5++[(⟨z.id,z.ty,a0.take z.args.length,a0.drop z.args.length⟩ : Q1u)]).length) aW) (a5++[(⟨z.id,z.ty,a0.take z.args.length,a0.drop z.args.length⟩ : Q1u)])] (fun _ h=>h.treeIn 2 0 Z Z Z aC)<|Qx (S':=V7 ..) Z Z Z Z Z<|Q2<|Q6<|Qv<|k3 3 4 0 Z<|Qe<|wP2 Z<|kg e fun bE e=>Qi (QD (a:=aO) (b:=1) bE)<|Qx (S':=V4 ..) Z Z Z Z Z<|Q2<|Qo [1] Z (H':=[_]) Z ?_
 refine rnd (aO+1,(a5++[(⟨z.id,z.ty,a0.take z.args.length,a0.drop z.args.length⟩ : Q1u)]),aV,aW,((a5++[(⟨z.id,z.ty,a0.take z.args.length,a0.drop z.args.length⟩ : Q1u)]).length)) (Qp hLu1 (zs e)) [4,3,0] [3] Z
 refine k2 3 0 Z<|QQ<|Q7<|Q7<|Qq ?_
 refine jn (a5,aI,aJ,aK) (Qb hLu1 (zs e)) [3,0] [0] Z
 rintro ⟨aD,aE,aF,aG⟩ j
 try dsimp only at j ⊢
 have e:=hLj_1
 try rw [j] at e
 refine Q5<|kn e fun bF e hLj_2=>?_
 refine cut (σ:=(List Q1u)×OA×Nat×Nat) bF (fun (aH,a9,aA,aB)=>(aH,[(3,.slice a9 aB aA),(0,.slice qp0 l0.length qc1)],[.sli 3 Q14 qp0 qc1 l0],[Q23 Q3i 71 3 (.slice a9 aB aA) aH])) ?_ ?_
 refine sq<|wP Z<|nt<|Qk<|lop (σ:=Nat×(List Q1u)×OA×Nat×Nat) (Q3q N) (fun (a1,a6,aL,aM,aN)=>((a1,a6),[(6,.int .i64 (a1:Int)),(3,.slice aL aN aM),(0,.slice qp0 l0.length qc1)],[.sli 3 Q14 qp0 qc1 l0],[Q23 Q3i 71 3 (.slice aL aN aM) a6])) (0,aD,aE,aF,aG) e [6,3,0] [0] Z fun s_ bW bX e hLu2=>?_
 obtain ⟨a1,a6,aL,aM,aN⟩:=s_
 unfold Q3q at e
 try dsimp only at e ⊢
 refine Q5<|sq<|wP2 Z<|Qi (Nlt a1 12)<|nk4 27 6 3 0 Z ?_
 refine Qs e Z (fun e=>?_) fun e=>?_
 refine k3 6 3 0 Z<|kt<|Q5<|Qk<|Qe<|wP2 Z<|kn e fun _ bG e=>?_
 try dsimp only at e
 refine c0 [] [0] Z fn_29 bG Q7I [] [_] Z<|QR Z Z Z Zq Z Q4N Q4l tZ_71 Z (zs:=[.int .i64 0,.int .i64 0,V1]) (by kernel_rfl) Z (out:=V3 ..) Z fun bY=>Qar 1 Z fun b5 _=>?_
 subst b5
 refine wl_rowNil 57 3 R_V<|Q3U 0 (φ':=.own 57 3 R_V (.slice none ((([] : List V)++[]).length) 0) (([] : List V)++[])) Z Z (H':=V3 ..) Z<|Qc4 2 Z fun aQ aX=>kg e fun bH e=>?_
 have aC:List.map (fun x:Q1u×(OA×Nat)=>x.1) (aQ++[((⟨(MK 1 (a1:Int)),0,([] : List V),[]⟩ : Q1u),(none,0))])=a6++[(⟨(MK 1 (a1:Int)),0,([] : List V),[]⟩ : Q1u)]:=pair_app aX (us:=[(⟨(MK 1 (a1:Int)),0,([] : List V),[]⟩ : Q1u)]) rfl
 have aY:aQ.length+([((⟨(MK 1 (a1:Int)),0,([] : List V),[]⟩ : Q1u),(none,0))] : List (Q1u×(OA×Nat))).length≤3518437208883:=by rw [Q81 aX];exact bH
 refine Q1V (R:=Q3i.pair) ([((⟨(MK 1 (a1:Int)),0,([] : List V),[]⟩ : Q1u),(none,0))]) 3 2 Z Z Z Zq Z Z Z Z Z (fun F w hφ=>⟨[.int .i64 (MK 1 (a1:Int)),.int .i64 0,V1],[],Z,Z,Z,Z⟩) Q4N tR_71 Z Z (Nat.le_trans aY (by decide)) (Nat.le_trans (Nat.mul_le_mul_right _ aY) (by decide)) (H2:=fun aZ b0=>(V4 ..)) (fun _ _=>Z) fun aZ b0=>Q4K 2 Z (H':=V3 ..) Z<|wl_as (d:=34) (v':=.slice aZ ((a6++[(⟨(MK 1 (a1:Int)),0,([] : List V),[]⟩ : Q1u)]).length) b0) (S':=V7 ..) Z Z (by rw [Q81 aC])<|Q3U 2 (φ':=.own 71 3 Q3i.pair (.slice aZ ((a6++[(⟨(MK 1 (a1:Int)),0,([] : List V),[]⟩ : Q1u)]).length) b0) (aQ++[((⟨(MK 1 (a1:Int)),0,([] : List V),[]⟩ : Q1u),(none,0))])) Z (by rw [Q81 aC]) (H':=V3 ..) Z<|wl_pick [1,0,2] Z (H':=V3 ..) Z<|wl_sh [bagF Q3i (aQ++[((⟨(MK 1 (a1:Int)),0,([] : List V),[]⟩ : Q1u),(none,0))]) none,_] (fun _ h=>QC.bagPush (T:=Q3i) (x:=(⟨(MK 1 (a1:Int)),0,([] : List V),[]⟩ : Q1u)) (r:=(none,0)) (zs:=aQ) (H:=[_,_]) h 0 Z)<|wl_sh [Q23 Q3i 71 3 (.slice aZ ((a6++[(⟨(MK 1 (a1:Int)),0,([] : List V),[]⟩ : Q1u)]).length) b0) (a6++[(⟨(MK 1 (a1:Int)),0,([] : List V),[]⟩ : Q1u)])] (fun _ h=>h.treeIn 1 0 Z Z Z aC)<|Qx (S':=V7 ..) Z Z Z Z Z<|Q2<|Q6<|Qv<|k3 3 6 0 Z<|Qe<|wP2 Z<|kg e fun bI e=>Qi (QD (a:=a1) (b:=1) bI)<|Qx (S':=V4 ..) Z Z Z Z Z<|Q2 ?_
 refine rnd (a1+1,(a6++[(⟨(MK 1 (a1:Int)),0,([] : List V),[]⟩ : Q1u)]),aZ,b0,((a6++[(⟨(MK 1 (a1:Int)),0,([] : List V),[]⟩ : Q1u)]).length)) (Qp hLu2 (zs e)) [6,3,0] [0] Z
 refine k2 3 0 Z<|QQ<|Q7<|Q7<|Qq ?_
 refine jn (a6,aL,aM,aN) (Qb hLu2 (zs e)) [3,0] [0] Z
 rintro ⟨aH,a9,aA,aB⟩ j
 try dsimp only at j ⊢
 have e:=hLj_2
 try rw [j] at e
 refine sq<|wP2 Z<|wN Z Q4N<|kg e fun bJ e=>Qc4 0 Z fun bK b1=>?_
 have b6:l0.length≤bK.length:=by rw [Q81 b1];exact bJ
 refine Q8j 1 Z fun b7 b2=>Q8k Z Z Z Zq Z Z Z Z Q4N Q4l (Nat.le_trans b6 (by rw [← b2.2];exact b2.1)) b7<|wP Z<|nk1 2 Z<|Qm ?_
 obtain rfl:=Zi e
 refine we_sh [Q23 Q3i 71 3 (.slice a9 aB aA) aH] (fun _ h=>h.treeIn 1 0 Z Z Z b1) ?_
 refine re1 [0] [] results11 Z ⟨a9,aA,aB,Z,Z,Z⟩ Z
theorem w_value_named_s {N:Nat} {a0:ByteArray} {o0:Bool} (e:Q9m N a0=some o0):QY prog 107 [.string a0] [] [] (R0 (.bool o0) [] []):=by
 unfold Q9m at e
 refine Qt func107 Z ntmps107 Z (S:=[_]) Z fun C=>sq<|wP Z<|nk1 0 Z<|Q5<|kn e fun bj_1 e hLj_1=>?_
 unfold Qai at e
 refine cut (σ:=Bool) bj_1 (fun j_1_2=>(j_1_2,[(2,.bool j_1_2)],[],[])) ?_ ?_
 refine Qe<|wP2 Z<|wP Z ?_
 refine QE e (fun e=>?_) fun e=>?_
 refine wP Z<|Q64 Z Z Z Zq (Qd3 Z Z tT_9)<|wP Z<|Qi (Nle a0.size 24)<|wP2 Z ?_
 refine QE e (fun e=>?_) fun e=>?_
 refine wP Z<|kn e fun x12 hx12 e=>Q64 Z Z Z Zq (rk_strAt 0 Z Z Z Z hx12 tT_9)<|wC [] [] Z fn_141 Z (sh_IndexByte (⟨#[97,98,99,100,101,102,103,104,105,106,107,108,109,110,111,112,113,114,115,116,117,118,119,120,121,122]⟩ : ByteArray) (x12.toNat:Int) ) (asK [] Z) Z (H':=[]) Z ?_
 rintro _ _ _ ⟨rfl,rfl,rfl⟩
 refine wP2 Z<|wP Z ?_
 refine QE e (fun e=>?_) fun e=>?_
 refine wP Z<|kg e fun hs18_0 e=>wC [] [] Z fn_142 Z (sh_Trim a0 (⟨#[97,98,99,100,101,102,103,104,105,106,107,108,109,110,111,112,113,114,115,116,117,118,119,120,121,122,48,49,50,51,52,53,54,55,56,57,95]⟩ : ByteArray) (by decide) (ascii_of_all (by decide)) hs18_0) (asK [] Z) Z (H':=[]) Z ?_
 rintro _ _ _ ⟨rfl,rfl,rfl⟩
 refine wP2 Z<|wP Z<|Q2 ?_
 refine jM ((⟨(Lib.trimS a0.data.toList (⟨#[97,98,99,100,101,102,103,104,105,106,107,108,109,110,111,112,113,114,115,116,117,118,119,120,121,122,48,49,50,51,52,53,54,55,56,57,95]⟩ : ByteArray).data.toList).toArray⟩ : ByteArray).toList==EB.toList) e [2] [] Z
 refine wO2 Z<|wO Z<|wP2 Z<|Q2 ?_
 refine jM false e [2] [] Z
 refine wO4 Z<|wP2 Z<|wO2 Z<|wO Z<|wP2 Z<|Q2 ?_
 refine jM false e [2] [] Z
 refine wO2 Z<|wO Z<|wP2 Z<|wO4 Z<|wP2 Z<|wO2 Z<|wO Z<|wP2 Z<|Q2 ?_
 refine jM false e [2] [] Z
 rintro j_1_2 j
 try dsimp only at j ⊢
 have e:=hLj_1
 try rw [j] at e
 refine Qm ?_
 obtain rfl:=Zi e
 refine re1 [] [] results107 Z ⟨Z,Z,Z⟩ Z
theorem Q7m {N:Nat} {a0 a1:Int} {a2:ByteArray} {o0:Bool} (e:Q1S N a0 a1 a2=some o0):QY prog 64 [.agg #[.int .u8 a0,.int .i64 a1,.string a2]] [] [] (R0 (.bool o0) [] []):=by
 unfold Q1S at e
 refine Qt func64 Z ntmps64 Z (S:=[_]) Z fun C=>sq<|wB Z fun g1=>wP Z<|nk1 1 Z<|Q5<|sq<|wF Z Qdx<|wD 0 0 Z tS_55 tA_55 Z<|nk2 4 1 Z<|Qk<|sq<|wP2 Z<|nk3 5 4 1 Z ?_
 refine Qs e Z (fun e=>?_) fun e=>?_
 refine k1 1 Z<|sq<|wF Z tF_57_2<|wD 0 2 Z tS_9 tA_9 Z<|wP2 Z<|nk1 2 Z<|Qm<|Qg<|Q3 ?_
 obtain rfl:=Zi e
 refine re1 [] [] results64 Z ⟨Z,Z,Z⟩ Z
 refine k2 4 1 Z<|sq<|wP2 Z<|nk2 10 1 Z ?_
 refine Qs e Z (fun e=>?_) fun e=>?_
 refine k1 1 Z<|sq<|wF Z Q2g<|wD 0 1 Z Q95 Q92 Z<|wP2 Z ?_
 refine QE e (fun e=>?_) fun e=>?_
 refine wF Z tF_57_2<|wD 0 2 Z tS_9 tA_9 Z<|kn e fun v18 hc18 e=>c0 [] [0] Z fn_107 hc18 w_value_named_s [] [_] Z<|wP2 Z<|nk1 2 Z<|Qm<|Qg<|Q3 ?_
 obtain rfl:=Zi e
 refine re1 [] [] results64 Z ⟨Z,Z,Z⟩ Z
 refine wO2 Z<|wO Z<|wP2 Z<|nk1 2 Z<|Qm<|Qg<|Q3 ?_
 obtain rfl:=Zi e
 refine re1 [] [] results64 Z ⟨Z,Z,Z⟩ Z
 refine k0 Z<|QT<|Q6<|Qv<|sq<|wP Z<|nr ?_
 obtain rfl:=Zi e
 refine re1 [] [] results64 Z ⟨Z,Z,Z⟩ Z
theorem Q8v {N:Nat} {a0:ByteArray} {o0:Bool} (e:Q8w N a0=some o0):QY prog 58 [.string a0] [] [] (R0 (.bool o0) [] []):=by
 unfold Q8w at e
 refine Qt func58 Z ntmps58 Z (S:=[_]) Z fun C=>sq<|wP Z<|nk1 0 Z<|sq<|wP Z<|Q1v Z Z Z Zq Z Q1X Q8t Z (out:=V3 ..) Z<|kn e fun v5 hc5 e=>c0 [] [] Z fn_64 hc5 Q7m [] [] Z<|wP Z<|nk1 2 Z<|Qm ?_
 obtain rfl:=Zi e
 refine re1 [] [] results58 Z ⟨Z,Z,Z⟩ Z
theorem Qdy {N:Nat} {a0:ByteArray} {a1:Int} {qg0:Nat} {a2:ByteArray} (e:Q7r N a0 a1 a2=some ()):QY prog 99 [.agg #[.string a0,.int .i64 a1],.pointer (some ⟨qg0,0,none⟩)] [] [.blk qg0 [.string a2] 9] (R0 (.bool (a0.toList==a2.toList)) [] [.blk qg0 [.string a2] 9]):=by
 unfold Q7r at e
 refine Qt func99 Z ntmps99 Z (S:=[_,_]) Z fun C=>sq<|wB Z fun g2=>wP Z<|nk2 2 1 Z<|sq<|wF Z Qbb<|wD 0 0 Z tS_9 tA_9 Z<|wD 1 0 Z tS_9 tA_9 Z<|wP2 Z<|nk1 3 Z<|Qm ?_
 have j:=(Zi e).symm
 refine re1 [1] [] results99 Z ⟨Z,Z,Z⟩ Z
theorem Qck {N qc1 qg2:Nat} {qp0:OA} {l0:List Q8} {a1:ByteArray} {o0:Int} (e:Q6k N l0 a1=some o0):QY prog 98 [.slice qp0 l0.length qc1,.func (.func 99) #[] #[.pointer (some ⟨qg2,0,none⟩)]] [.sli 2 Qd qp0 qc1 l0] [.blk qg2 [.string a1] 9] (R0 (.int .i64 o0) [] [.blk qg2 [.string a1] 9]):=by
 unfold Q6k at e
 refine Qt func98 Z ntmps98 Z (S:=[_,_]) Z fun C=>sq<|wP Z<|nk2 0 1 Z<|Q5<|ks e fun bj_1 e hLj_1=>?_
 refine cut (σ:=Unit) bj_1 (fun _=>(.inl (),[],[],[.blk qg2 [.string a1] 9])) ?_ ?_
 refine sq<|wP Z<|wN Z Q3d<|wP Z<|nk4 8 7 0 1 Z<|Qk<|lop (σ:=Nat) (Q3x N l0 a1) (fun u1_8=>(u1_8,[(8,.int .i64 (u1_8:Int)),(7,.int .i64 (l0.length:Int)),(0,.slice qp0 l0.length qc1),(1,.func (.func 99) #[] #[.pointer (some ⟨qg2,0,none⟩)])],[.sli 2 Qd qp0 qc1 l0],[.blk qg2 [.string a1] 9])) 0 e [8,7,0,1] [0] Z fun u1_8 mu1 bu1 e hLu1=>?_
 unfold Q3x at e
 try dsimp only at e ⊢
 refine sq<|wP Z<|Qi (Nlt u1_8 l0.length)<|nt<|Q5 ?_
 refine Qs e Z (fun e=>?_) fun e=>?_
 refine k4 8 7 0 1 Z<|kt<|Q5<|Qk<|sq<|wP2 Z<|nk5 5 8 7 0 1 Z<|sq<|wP2 Z<|wP Z<|kn e fun x14 hx14 e=>wI 0 u1_8 Z hx14 Q3d Q7a fun b14 q14 cs14 hlx14=>Q1i Q1z 1 Z fun r14 er14 _=>?_
 subst er14
 refine wLd 0 0 [_,_] Z Q7a tA_69 Z<|kn e fun _ hc16 e=>?_
 try dsimp only at e
 refine Q1B [0] [] Z Z Z Zq Z Z Z fn_99 Z Z (@Qdy N x14.name x14.fields qg2 a1 hc16) (asK [] Z) Z (H':=[]) Z ?_
 rintro _ _ _ ⟨rfl,rfl,rfl⟩
 refine nk6 16 5 8 7 0 1 Z ?_
 refine Qs e Z (fun e=>?_) fun e=>?_
 refine k1 5 Z<|sq<|wP2 Z<|nk1 4 Z<|Qm<|Qg<|Q3<|rb<|Q3 ?_
 obtain rfl:=(Qb hLj_1 (Qb hLu1 (zs e))).symm
 refine re1 [0] [] results98 Z ⟨Z,Z,Z⟩ Z
 refine k4 8 7 0 1 Z<|QT<|Q6<|Qv<|Qe<|wP Z<|kg e fun hg18 e=>Qi (QD (a:=u1_8) (b:=1) hg18)<|Qx (S':=V4 ..) Z Z Z Z Z<|Q2 ?_
 refine rnd (u1_8+1) (Qp hLu1 (zs e)) [8,7,0,1] [2] Z
 refine k0 Z<|QQ<|Q7<|Q7<|Qq ?_
 refine jn () (Qb hLu1 (zs e)) [] [] Z
 rintro _ j
 try dsimp only at j ⊢
 have e:=Qp hLj_1 j
 try dsimp only at e
 refine sq<|wP Z<|nr ?_
 obtain rfl:=Zi e
 refine re1 [0] [] results98 Z ⟨Z,Z,Z⟩ Z
theorem Qea {N qg0 qc2 qc4:Nat} {qp1 qp3:OA} {l0:List Q8} {l1:List Qf} {a2 a3 o0:Int} {a4:ByteArray} (e:Q73 N l0 l1 a2 a3 a4=some o0):QY prog 59 [.pointer (some ⟨qg0,0,none⟩),.string a4] [.sli 2 Qd qp1 qc2 l0,.sli 5 Qh qp3 qc4 l1] [.blk qg0 [.slice qp1 l0.length qc2,.slice qp3 l1.length qc4,.int .i64 a2,.int .i64 a3] 124] (R0 (.int .i64 o0) [.sli 2 Qd qp1 qc2 l0,.sli 5 Qh qp3 qc4 l1] [.blk qg0 [.slice qp1 l0.length qc2,.slice qp3 l1.length qc4,.int .i64 a2,.int .i64 a3] 124]):=by
 unfold Q73 at e
 refine Qt func59 Z ntmps59 Z (S:=[_,_]) Z fun C=>sq<|wB Z fun g3=>wP Z<|nk2 3 0 Z<|sq<|wP2 Z<|wF Z tF_122_0<|wF Z Q4h<|wD 1 0 Z Q8u Q8F Z<|Q26 Z Z Z Zq Z Z<|kn e fun v11 hc11 e=>c0 [0] [1] Z fn_98 hc11 Qck [0] [_] Z<|wP Z<|nk1 4 Z<|Qm ?_
 obtain rfl:=Zi e
 refine re1 [1] [0,1] results59 Z ⟨Z,Z,Z⟩ Z
theorem Qdz {N:Nat} {a0:ByteArray} {a1:Int} {a2:Int} {qp0:OA} {qc1:Nat} {l3:List Qn} {qp2:OA} {qc3:Nat} {l4:List QO} {qg4:Nat} {a5:ByteArray} (e:Q7s N a0 a1 a2 l3 l4 a5=some ()):QY prog 101 [.agg #[.string a0,.int .i64 a1,.int .i64 a2,.slice qp0 l3.length qc1,.slice qp2 l4.length qc3],.pointer (some ⟨qg4,0,none⟩)] [.sli 10 QB qp0 qc1 l3,.sli 4 QF qp2 qc3 l4] [.blk qg4 [.string a5] 9] (R0 (.bool (a0.toList==a5.toList)) [] [.blk qg4 [.string a5] 9]):=by
 unfold Q7s at e
 refine Qt func101 Z ntmps101 Z (S:=[_,_]) Z fun C=>sq<|wB Z fun g2=>wP Z<|nk2 2 1 Z<|sq<|wF Z Qba<|wD 0 0 Z tS_9 tA_9 Z<|wD 1 0 Z tS_9 tA_9 Z<|wP2 Z<|nk1 3 Z<|Qm ?_
 have j:=(Zi e).symm
 refine re1 [1] [] results101 Z ⟨Z,Z,Z⟩ Z
theorem Qcj {N qc1 qg2:Nat} {qp0:OA} {l0:List Qf} {a1:ByteArray} {o0:Int} (e:Q6j N l0 a1=some o0):QY prog 100 [.slice qp0 l0.length qc1,.func (.func 101) #[] #[.pointer (some ⟨qg2,0,none⟩)]] [.sli 5 Qh qp0 qc1 l0] [.blk qg2 [.string a1] 9] (R0 (.int .i64 o0) [] [.blk qg2 [.string a1] 9]):=by
 unfold Q6j at e
 refine Qt func100 Z ntmps100 Z (S:=[_,_]) Z fun C=>sq<|wP Z<|nk2 0 1 Z<|Q5<|ks e fun bj_1 e hLj_1=>?_
 refine cut (σ:=Unit) bj_1 (fun _=>(.inl (),[],[],[.blk qg2 [.string a1] 9])) ?_ ?_
 refine sq<|wP Z<|wN Z Q3e<|wP Z<|nk4 8 7 0 1 Z<|Qk<|lop (σ:=Nat) (Q3w N l0 a1) (fun u1_8=>(u1_8,[(8,.int .i64 (u1_8:Int)),(7,.int .i64 (l0.length:Int)),(0,.slice qp0 l0.length qc1),(1,.func (.func 101) #[] #[.pointer (some ⟨qg2,0,none⟩)])],[.sli 5 Qh qp0 qc1 l0],[.blk qg2 [.string a1] 9])) 0 e [8,7,0,1] [0] Z fun u1_8 mu1 bu1 e hLu1=>?_
 unfold Q3w at e
 try dsimp only at e ⊢
 refine sq<|wP Z<|Qi (Nlt u1_8 l0.length)<|nt<|Q5 ?_
 refine Qs e Z (fun e=>?_) fun e=>?_
 refine k4 8 7 0 1 Z<|kt<|Q5<|Qk<|sq<|wP2 Z<|nk5 5 8 7 0 1 Z<|sq<|wP2 Z<|wP Z<|kn e fun x14 hx14 e=>wI 0 u1_8 Z hx14 Q3e Q2X fun b14 q14 cs14 hlx14=>Q1i Q1T 1 Z fun r14 er14 _=>?_
 subst er14
 refine wLd 2 0 (V5 ..) Z Q2X Q8U Z<|kn e fun _ hc16 e=>?_
 try dsimp only at e
 refine Q1B [0] [] Z Z Z Zq Z Z Z fn_101 Z Z (@Qdz N x14.name x14.salience x14.vars r14.1.1 r14.1.2 x14.conds r14.2.1 r14.2.2 x14.acts qg2 a1 hc16) (asK [0,1] Z) Z (H':=[]) Z ?_
 rintro _ _ _ ⟨rfl,rfl,rfl⟩
 refine nk6 16 5 8 7 0 1 Z ?_
 refine Qs e Z (fun e=>?_) fun e=>?_
 refine k1 5 Z<|sq<|wP2 Z<|nk1 4 Z<|Qm<|Qg<|Q3<|rb<|Q3 ?_
 obtain rfl:=(Qb hLj_1 (Qb hLu1 (zs e))).symm
 refine re1 [0] [] results100 Z ⟨Z,Z,Z⟩ Z
 refine k4 8 7 0 1 Z<|QT<|Q6<|Qv<|Qe<|wP Z<|kg e fun hg18 e=>Qi (QD (a:=u1_8) (b:=1) hg18)<|Qx (S':=V4 ..) Z Z Z Z Z<|Q2 ?_
 refine rnd (u1_8+1) (Qp hLu1 (zs e)) [8,7,0,1] [4] Z
 refine k0 Z<|QQ<|Q7<|Q7<|Qq ?_
 refine jn () (Qb hLu1 (zs e)) [] [] Z
 rintro _ j
 try dsimp only at j ⊢
 have e:=Qp hLj_1 j
 try dsimp only at e
 refine sq<|wP Z<|nr ?_
 obtain rfl:=Zi e
 refine re1 [0] [] results100 Z ⟨Z,Z,Z⟩ Z
theorem QaG {N qg0 qc2 qc4:Nat} {qp1 qp3:OA} {l0:List Q8} {l1:List Qf} {a2 a3 o0:Int} {a4:ByteArray} (e:Q74 N l0 l1 a2 a3 a4=some o0):QY prog 60 [.pointer (some ⟨qg0,0,none⟩),.string a4] [.sli 2 Qd qp1 qc2 l0,.sli 5 Qh qp3 qc4 l1] [.blk qg0 [.slice qp1 l0.length qc2,.slice qp3 l1.length qc4,.int .i64 a2,.int .i64 a3] 124] (R0 (.int .i64 o0) [.sli 2 Qd qp1 qc2 l0,.sli 5 Qh qp3 qc4 l1] [.blk qg0 [.slice qp1 l0.length qc2,.slice qp3 l1.length qc4,.int .i64 a2,.int .i64 a3] 124]):=by
 unfold Q74 at e
 refine Qt func60 Z ntmps60 Z (S:=[_,_]) Z fun C=>sq<|wB Z fun g3=>wP Z<|nk2 3 0 Z<|sq<|wP2 Z<|wF Z tF_122_0<|wF Z Q5Z<|wD 1 1 Z Q9o Q9C Z<|Q26 Z Z Z Zq Z Z<|kn e fun v11 hc11 e=>c0 [0] [1] Z fn_100 hc11 Qcj [1] [_] Z<|wP Z<|nk1 4 Z<|Qm ?_
 obtain rfl:=Zi e
 refine re1 [1] [0,1] results60 Z ⟨Z,Z,Z⟩ Z
theorem QaI {N qg0 qc2 qc4:Nat} {qp1 qp3:OA} {l0:List Q8} {l1:List Qf} {a2 a3 a4 a5:Int} {o0:Bool} (e:Q5C N l0 l1 a2 a3 a4 a5=some o0):QY prog 135 [.pointer (some ⟨qg0,0,none⟩),.int .i64 a4,.int .i64 a5] [.sli 2 Qd qp1 qc2 l0,.sli 5 Qh qp3 qc4 l1] [.blk qg0 [.slice qp1 l0.length qc2,.slice qp3 l1.length qc4,.int .i64 a2,.int .i64 a3] 124] (R0 (.bool o0) [.sli 2 Qd qp1 qc2 l0,.sli 5 Qh qp3 qc4 l1] [.blk qg0 [.slice qp1 l0.length qc2,.slice qp3 l1.length qc4,.int .i64 a2,.int .i64 a3] 124]):=by
 unfold Q5C at e
 refine Qt func135 Z ntmps135 Z (S:=V3 ..) Z fun C=>sq<|wP Z<|nk3 0 1 2 Z<|sq<|wP2 Z<|wP Z ?_
 refine QE e (fun e=>?_) fun e=>?_
 refine wP2 Z<|wP Z<|wF Z Qe7<|wF Z tF_122_0<|wF Z Q4h<|wD 0 0 Z Q8u Q8F Z<|wN Z Q3d<|wP2 Z<|wP Z ?_
 refine QE e (fun e=>?_) fun e=>?_
 refine wP2 Z<|wF Z Qe7<|wF Z tF_122_0<|wF Z Q4h<|wD 0 0 Z Q8u Q8F Z<|wP Z<|kg e fun hn28 e=>kn e fun x28 hx28 e=>Qbv 0 a4.toNat Z Z Z Zq Z Z Z Z (Q2K hn28) hx28 Q3d Q7a fun b28 q28 cs28 hlx28=>Q1i Q1z 1 Z fun r28 er28 _=>?_
 subst er28
 refine wF Z Q9s<|wLd 0 1 [_] Z QV Q13 Z<|wP2 Z<|wP2 Z<|nk1 6 Z<|Qm ?_
 obtain rfl:=Zi e
 refine re1 [0] [2,3] results135 Z ⟨Z,Z,Z⟩ Z
 refine wO4 Z<|wO4 Z<|wO4 Z<|wP2 Z<|nk1 6 Z<|Qm ?_
 obtain rfl:=Zi e
 refine re1 [0] [0,1] results135 Z ⟨Z,Z,Z⟩ Z
 refine wO4 Z<|wO4 Z<|wO Z<|wP2 Z<|wO4 Z<|wO4 Z<|wO4 Z<|wP2 Z<|nk1 6 Z<|Qm ?_
 obtain rfl:=Zi e
 refine re1 [0] [0,1] results135 Z ⟨Z,Z,Z⟩ Z
theorem Q7l {N qc1:Nat} {a0 a1 a2 a4 a5:Int} {a3:ByteArray} {qp0:OA} {l6:List Q4} {a7 a8 a9 o0:Bool} (e:Q6V N a0 a1 a2 a3 a4 a5 l6 a7 a8 a9=some o0):QY prog 136 [.agg #[.int .u8 a0,.int .u8 a1,.int .i64 a2,.string a3,.int .i64 a4,.int .u8 a5,.slice qp0 l6.length qc1],.bool a7,.bool a8,.bool a9] [.sli 7 Qj qp0 qc1 l6] [] (R0 (.bool o0) [] []):=by
 unfold Q6V at e
 refine Qt func136 Z ntmps136 Z (S:=V4 ..) Z fun C=>sq<|wB Z fun g4=>wP Z<|nk4 4 1 2 3 Z<|Q5<|kn e fun a6 e hLj_1=>?_
 unfold Qah at e
 refine cut (σ:=Bool) a6 (fun z=>(z,[(8,.bool z)],[],[])) ?_ ?_
 refine Qe<|wP2 Z ?_
 refine QE e (fun e=>?_) fun e=>?_
 refine wO4 Z<|wP2 Z<|wP2 Z ?_
 refine QE e (fun e=>?_) fun e=>?_
 refine wO2 Z<|wO Z<|wP2 Z<|wP2 Z<|wP Z ?_
 refine QE e (fun e=>?_) fun e=>?_
 refine wO4 Z<|wO4 Z<|wO Z<|wP2 Z<|wP Z<|Q2<|Qo [] Z (H':=[]) Z ?_
 refine jM true e [8] [] Z
 refine wF Z Q6S<|wD 0 5 Z Qa2 Qa0 Z<|wP2 Z ?_
 refine QE e (fun e=>?_) fun e=>?_
 refine wF Z Q60<|wD 0 6 Z Q4k Q4M Z<|wN Z Q1g<|wP Z<|Qi (Neq l6.length 0)<|wP2 Z<|wP2 Z<|Q2<|Qo [] Z (H':=[]) Z ?_
 refine jM (l6.length==0) e [8] [] Z
 refine wO4 Z<|wP2 Z<|wP2 Z<|Q2<|Qo [] Z (H':=[]) Z ?_
 refine jM false e [8] [] Z
 refine wF Z Q7g<|wD 0 4 Z QV Q13 Z<|wP2 Z<|wP2 Z ?_
 refine QE e (fun e=>?_) fun e=>?_
 refine wP2 Z ?_
 refine QE e (fun e=>?_) fun e=>?_
 refine wO4 Z<|wO4 Z<|wO Z<|wP2 Z<|wP Z<|Q2<|Qo [] Z (H':=[]) Z ?_
 refine jM true e [8] [] Z
 refine wF Z Q6S<|wD 0 5 Z Qa2 Qa0 Z<|wP2 Z ?_
 refine QE e (fun e=>?_) fun e=>?_
 refine wF Z Q60<|wD 0 6 Z Q4k Q4M Z<|wN Z Q1g<|wP Z<|Qi (Neq l6.length 0)<|wP2 Z<|wP2 Z<|Q2<|Qo [] Z (H':=[]) Z ?_
 refine jM (l6.length==0) e [8] [] Z
 refine wO4 Z<|wP2 Z<|wP2 Z<|Q2<|Qo [] Z (H':=[]) Z ?_
 refine jM false e [8] [] Z
 refine wO4 Z<|wO4 Z<|wO4 Z<|wP2 Z<|Q2<|Qo [] Z (H':=[]) Z ?_
 refine jM false e [8] [] Z
 refine wF Z Qaw<|wM 0 1 (V3 ..) Z Qz Q17 Z<|Q1v Z Z Z Zq Z Q1X Q8t Z (out:=V3 ..) Z<|Q9g Z Z Z Zq Z Z Z (eqlV _ _ (⟨a1,a2,a3⟩ : V) (⟨0,0,EB⟩ : V))<|wP2 Z ?_
 refine QE e (fun e=>?_) fun e=>?_
 refine wP2 Z ?_
 refine QE e (fun e=>?_) fun e=>?_
 refine wO2 Z<|wO Z<|wP2 Z<|wP2 Z<|wP Z ?_
 refine QE e (fun e=>?_) fun e=>?_
 refine wO4 Z<|wO4 Z<|wO Z<|wP2 Z<|wP Z<|Q2<|Qo [] Z (H':=[]) Z ?_
 refine jM true e [8] [] Z
 refine wF Z Q6S<|wD 0 5 Z Qa2 Qa0 Z<|wP2 Z ?_
 refine QE e (fun e=>?_) fun e=>?_
 refine wF Z Q60<|wD 0 6 Z Q4k Q4M Z<|wN Z Q1g<|wP Z<|Qi (Neq l6.length 0)<|wP2 Z<|wP2 Z<|Q2<|Qo [] Z (H':=[]) Z ?_
 refine jM (l6.length==0) e [8] [] Z
 refine wO4 Z<|wP2 Z<|wP2 Z<|Q2<|Qo [] Z (H':=[]) Z ?_
 refine jM false e [8] [] Z
 refine wF Z Q7g<|wD 0 4 Z QV Q13 Z<|wP2 Z<|wP2 Z ?_
 refine QE e (fun e=>?_) fun e=>?_
 refine wP2 Z ?_
 refine QE e (fun e=>?_) fun e=>?_
 refine wO4 Z<|wO4 Z<|wO Z<|wP2 Z<|wP Z<|Q2<|Qo [] Z (H':=[]) Z ?_
 refine jM true e [8] [] Z
 refine wF Z Q6S<|wD 0 5 Z Qa2 Qa0 Z<|wP2 Z ?_
 refine QE e (fun e=>?_) fun e=>?_
 refine wF Z Q60<|wD 0 6 Z Q4k Q4M Z<|wN Z Q1g<|wP Z<|Qi (Neq l6.length 0)<|wP2 Z<|wP2 Z<|Q2<|Qo [] Z (H':=[]) Z ?_
 refine jM (l6.length==0) e [8] [] Z
 refine wO4 Z<|wP2 Z<|wP2 Z<|Q2<|Qo [] Z (H':=[]) Z ?_
 refine jM false e [8] [] Z
 refine wO4 Z<|wO4 Z<|wO4 Z<|wP2 Z<|Q2<|Qo [] Z (H':=[]) Z ?_
 refine jM false e [8] [] Z
 refine wO4 Z<|wO2 Z<|wP2 Z<|wO4 Z<|wO4 Z<|wO4 Z<|wP2 Z<|Q2<|Qo [] Z (H':=[]) Z ?_
 refine jM false e [8] [] Z
 rintro z j
 try dsimp only at j ⊢
 have e:=hLj_1
 try rw [j] at e
 refine Qm ?_
 obtain rfl:=Zi e
 refine re1 [] [] results136 Z ⟨Z,Z,Z⟩ Z
end Go.Proofs.YtbgodclhmgmcgaaGreatDoor
