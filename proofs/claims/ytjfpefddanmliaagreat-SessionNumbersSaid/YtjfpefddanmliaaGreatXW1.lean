import Derived.Test.YtjfpefddanmliaaGreatXM
import Derived.Test.YtjfpefddanmliaaGreatTypesP
import Derived.Test.YtjfpefddanmliaaGreatEq
import Derived.Test.YtjfpefddanmliaaGreatMapK
import Derived.Test.YtjfpefddanmliaaGreatAuto
import Derived.Test.YtjfpefddanmliaaGreatView
import Derived.Test.YtjfpefddanmliaaGreatMapE
import Derived.Test.YtjfpefddanmliaaGreatFlat
import Derived.Test.YtjfpefddanmliaaGreatApart
import Derived.Test.YtjfpefddanmliaaGreatRun
import Derived.Test.YtjfpefddanmliaaGreatShort
import Derived.Test.YtjfpefddanmliaaGreatAb
namespace Go.Proofs.YtjfpefddanmliaaGreat
open Go.RowKit
set_option maxRecDepth 100000
set_option maxHeartbeats 4000000
theorem Q3B (N:Nat) (a0:Int) (a1:Int) (o2:List SessD) (hm:Q2K N a0 a1 = some o2):Q1v Tryz.prog 5 [.int .i64 a0,.int .i64 a1] [] [] (fun v Φr Hr=>∃ (o0:Option Addr) (o1:Nat) (o3:Nat),v = .slice o0 o3 o1 ∧ Φr = [] ∧ Hr = [Qi Qe 35 6 (.slice o0 o3 o1) o2]):=by
 unfold Q2K at hm
 refine Qx Tryz.func5 rfl Tryz.ntmps5 rfl (S:=[_,_]) rfl (fun C=>(Q4 (Q1 (wP rfl (Q3 (Q2 (Q5 [0,1] (S':=[_,_]) rfl (Q4 (Q1 (wP rfl (Q3 (Q2 (Q4 ?_)))))))))))))
 obtain ⟨bj_1,hm,hLj_1⟩:=Q6 hm
 refine Q14 (σ:=(List SessD) × (Option Addr) × Nat × Nat) (fun (j_1_5_l,j_1_5_p,j_1_5_c,j_1_5_n)=>bj_1 = j_1_5_l) (fun (j_1_5_l,j_1_5_p,j_1_5_c,j_1_5_n)=>[(5,.slice j_1_5_p j_1_5_n j_1_5_c)]) (fun (j_1_5_l,j_1_5_p,j_1_5_c,j_1_5_n)=>[]) (fun (j_1_5_l,j_1_5_p,j_1_5_c,j_1_5_n)=>[Qi Qe 35 6 (.slice j_1_5_p j_1_5_n j_1_5_c) j_1_5_l]) ?_ ?_
 ·
  refine Q4 (Q1 (wP rfl (Q3 (Q2 (Qc (Q6D [Qi Qe 35 6 (.slice none 0 0) []] (fun _ h=>h.treeNil Qe 35 6) (QI (σ:=Nat × Nat × (List SessD) × (Option Addr) × Nat × Nat) (fun (nu1,u1_6,u1_5_l,u1_5_p,u1_5_c,u1_5_n)=>Q2s (Q5l N a1 a0) nu1 (u1_6,u1_5_l) = some bj_1) (fun (nu1,u1_6,u1_5_l,u1_5_p,u1_5_c,u1_5_n)=>nu1) (fun (nu1,u1_6,u1_5_l,u1_5_p,u1_5_c,u1_5_n)=>[(6,.int .i64 ((u1_6:Nat):Int)),(5,.slice u1_5_p u1_5_n u1_5_c),(0,.int .i64 a0),(1,.int .i64 a1)]) (fun (nu1,u1_6,u1_5_l,u1_5_p,u1_5_c,u1_5_n)=>[]) (fun (nu1,u1_6,u1_5_l,u1_5_p,u1_5_c,u1_5_n)=>[Qi Qe 35 6 (.slice u1_5_p u1_5_n u1_5_c) u1_5_l]) (N,0,[],none,0,0) hm [6,5,0,1] rfl (asK [] rfl) rfl (fun s_ hm=>?_))))))))
  obtain ⟨nu1,u1_6,u1_5_l,u1_5_p,u1_5_c,u1_5_n⟩:=s_
  try dsimp only at hm ⊢
  obtain ⟨mu1,bu1,hnu1,hq,hLu1⟩:=Q1m hm
  clear hm
  subst hnu1
  replace hm:=hq
  clear hq
  unfold Q5l at hm
  try dsimp only at hm
  refine Q4 (Q4 (Q1 (wP rfl (wP rfl (wP rfl (Q3 (Q2 (Q5 [9,6,5,0,1] (S':=[_,_,_,_,_]) rfl ?_))))))))
  refine Qm rfl (fun hb9=>?_) (fun hb9=>?_)
  ·
   replace hm:=QQ hm hb9
   refine Q5 [6,5,0,1] (S':=[_,_,_,_]) rfl (Qj (Q2 (Q4 (Qc (Q1 (wP rfl (wP rfl (wP rfl (wP rfl ?_)))))))))
   obtain ⟨hg15,hm⟩:=Qq hm
   refine Qr (d:=15) (v':=.int .i64 (a0 + ((u1_6:Nat):Int))) (S':=[_,_,_,_,_,_,_]) rfl rfl (i64_in hg15) (wP rfl (Q2t rfl rfl rfl (Q0 rfl) rfl Q4G tP_35 rfl (out:=[_,_,_,_,_,_]) rfl (QJ rfl rfl rfl (Q0 rfl) rfl QB QN Q4G rfl (zs:=[.int .i64 0,.int .i64 0,.int .i64 0,.int .i64 0,.slice none 0 0,.slice none 0 0]) (by kernel_rfl) rfl (out:=[_,_,_,_,_,_]) rfl (fun g18=>(QG 1 rfl (fun hzt8 _=>?_))))))
   subst hzt8
   refine Qv [Qi Qf 61 3 (.slice none 0 0) [],_,_] (fun _ h=>h.treeNil Qf 61 3) (QM 149 3 R_V (Q1q 3 rfl (fun zz19 hzz19=>?_)))
   obtain ⟨hg19,hm⟩:=Qq hm
   have hzs12:List.map (fun x:SessD × ((Option Addr × Nat) × (Option Addr × Nat))=>x.1) (zz19 ++ [((⟨(a0 + ((u1_6:Nat):Int)),(((u1_6:Nat):Int)),(⟨0,0,[],[]⟩ : ReplyD)⟩ : SessD),((none,0),(none,0)))]) = u1_5_l ++ [(⟨(a0 + ((u1_6:Nat):Int)),(((u1_6:Nat):Int)),(⟨0,0,[],[]⟩ : ReplyD)⟩ : SessD)]:=Q5I hzz19 (us:=[(⟨(a0 + ((u1_6:Nat):Int)),(((u1_6:Nat):Int)),(⟨0,0,[],[]⟩ : ReplyD)⟩ : SessD)]) rfl
   have hgl19:zz19.length + ([((⟨(a0 + ((u1_6:Nat):Int)),(((u1_6:Nat):Int)),(⟨0,0,[],[]⟩ : ReplyD)⟩ : SessD),((none,0),(none,0)))] : List (SessD × ((Option Addr × Nat) × (Option Addr × Nat)))).length ≤ 1759218604441:=by rw [Q12 hzz19]; exact hg19
   refine Q3c (R:=Qe.pair) ([((⟨(a0 + ((u1_6:Nat):Int)),(((u1_6:Nat):Int)),(⟨0,0,[],[]⟩ : ReplyD)⟩ : SessD),((none,0),(none,0)))]) 4 3 rfl rfl rfl (Q0 rfl) rfl rfl rfl rfl rfl (fun F w hφ=>⟨[.int .i64 (a0 + ((u1_6:Nat):Int)),.int .i64 ((u1_6:Nat):Int),.int .i64 0,.int .i64 0,.slice none 0 0,.slice none 0 0],[],rfl,rfl,rfl,rfl⟩) QB Q6Q rfl rfl (Nat.le_trans hgl19 (by decide)) (Nat.le_trans (Nat.mul_le_mul_right _ hgl19) (by decide)) (H2:=fun p19 c19=>[_,_,_,_,.own 35 6 Qe.pair (.slice p19 ((zz19 ++ [((⟨(a0 + ((u1_6:Nat):Int)),(((u1_6:Nat):Int)),(⟨0,0,[],[]⟩ : ReplyD)⟩ : SessD),((none,0),(none,0)))]).length) c19) (zz19 ++ [((⟨(a0 + ((u1_6:Nat):Int)),(((u1_6:Nat):Int)),(⟨0,0,[],[]⟩ : ReplyD)⟩ : SessD),((none,0),(none,0)))])]) (fun _ _=>rfl) (fun p19 c19=>(Q2k 3 rfl (H':=[_,_,_,_]) rfl (Qr (d:=19) (v':=.slice p19 ((u1_5_l ++ [(⟨(a0 + ((u1_6:Nat):Int)),(((u1_6:Nat):Int)),(⟨0,0,[],[]⟩ : ReplyD)⟩ : SessD)]).length) c19) (S':=[_,_,_,_,_,_,_,_,_,_,_]) rfl rfl (by rw [Q12 hzs12]) (Q15 3 (φ':=.own 35 6 Qe.pair (.slice p19 ((u1_5_l ++ [(⟨(a0 + ((u1_6:Nat):Int)),(((u1_6:Nat):Int)),(⟨0,0,[],[]⟩ : ReplyD)⟩ : SessD)]).length) c19) (zz19 ++ [((⟨(a0 + ((u1_6:Nat):Int)),(((u1_6:Nat):Int)),(⟨0,0,[],[]⟩ : ReplyD)⟩ : SessD),((none,0),(none,0)))])) rfl (by rw [Q12 hzs12]) (H':=[_,_,_,_]) rfl (Q13 [1,2,0,3] rfl (H':=[_,_,_,_]) rfl (Qv [QR Qe (zz19 ++ [((⟨(a0 + ((u1_6:Nat):Int)),(((u1_6:Nat):Int)),(⟨0,0,[],[]⟩ : ReplyD)⟩ : SessD),((none,0),(none,0)))]) none,_] (fun _ h=>Qo.bagPush (T:=Qe) (x:=(⟨(a0 + ((u1_6:Nat):Int)),(((u1_6:Nat):Int)),(⟨0,0,[],[]⟩ : ReplyD)⟩ : SessD)) (r:=((none,0),(none,0))) (zs:=zz19) (H:=[_,_]) h 0 rfl) (Qv [Qi Qe 35 6 (.slice p19 ((u1_5_l ++ [(⟨(a0 + ((u1_6:Nat):Int)),(((u1_6:Nat):Int)),(⟨0,0,[],[]⟩ : ReplyD)⟩ : SessD)]).length) c19) (u1_5_l ++ [(⟨(a0 + ((u1_6:Nat):Int)),(((u1_6:Nat):Int)),(⟨0,0,[],[]⟩ : ReplyD)⟩ : SessD)])] (fun _ h=>h.treeIn 1 0 rfl rfl rfl hzs12) (Qs (S':=[_,_,_,_,_,_,_,_,_,_,_]) rfl rfl rfl rfl rfl (Q3 (Qa (Q2 (Q5 [5,6,0,1] (S':=[_,_,_,_]) rfl (Q1 (wP rfl ?_))))))))))))))
   refine wP rfl ?_
   obtain ⟨hg11,hm⟩:=Qq hm
   refine Qr (d:=11) (v':=.int .i64 ((u1_6 + 1:Nat):Int)) (S':=[_,_,_,_,_]) rfl rfl (Qw (a:=u1_6) (b:=1) hg11) (Qs (S':=[_,_,_,_,_]) rfl rfl rfl rfl rfl (Q3 ?_))
   have hE:=(Option.some.inj hm).symm
   replace hE:=QZ hLu1 hE
   refine Q1n (_,u1_6 + 1,(u1_5_l ++ [(⟨(a0 + ((u1_6:Nat):Int)),(((u1_6:Nat):Int)),(⟨0,0,[],[]⟩ : ReplyD)⟩ : SessD)]),p19,c19,((u1_5_l ++ [(⟨(a0 + ((u1_6:Nat):Int)),(((u1_6:Nat):Int)),(⟨0,0,[],[]⟩ : ReplyD)⟩ : SessD)]).length)) (Nat.lt_succ_self _) hE [6,5,0,1] rfl (asK [] rfl) rfl
  ·
   replace hm:=QP hm hb9
   refine Q5 [5] (S':=[_]) rfl (QH (Q8 (Q8 (Qh ?_))))
   have hE:=(Option.some.inj hm).symm
   replace hE:=Qy hLu1 hE
   refine Ql (u1_5_l,u1_5_p,u1_5_c,u1_5_n) hE [5] rfl (asK [] rfl) rfl
 ·
  rintro ⟨j_1_5_l,j_1_5_p,j_1_5_c,j_1_5_n⟩ hE
  try dsimp only
  have hm:=hLj_1
  rw [hE] at hm
  refine Q4 (Q1 (wP rfl (wP rfl (Q3 (Q2 (Q5 [4] (S':=[_]) rfl (Qn ?_)))))))
  have hE:=(Option.some.inj hm).symm
  replace hE:=hE.symm
  subst hE
  refine Qp (Hr:=[_]) [0] Tryz.results5 (Qd rfl) ⟨j_1_5_p,j_1_5_c,j_1_5_n,rfl,rfl,rfl⟩ (asK [] rfl) rfl rfl (.inl rfl)
theorem Q6w (N:Nat) (a0:Int) (a1:Int) (qp0:Option Addr) (qc1:Nat) (l2:List FactD) (qp2:Option Addr) (qc3:Nat) (l3:List V) (o0:Bool) (hm:Q3K N a0 a1 l2 l3 = some o0):Q1v Tryz.prog 7 [.agg #[.int .i64 a0,.int .i64 a1,.slice qp0 l2.length qc1,.slice qp2 l3.length qc3]] [.sli 3 QO qp0 qc1 l2,.sli 3 R_V qp2 qc3 l3] [] (fun v Φr Hr=>v = .bool o0 ∧ Φr = [] ∧ Hr = []):=by
 unfold Q3K at hm
 refine Qx Tryz.func7 rfl Tryz.ntmps7 rfl (S:=[_]) rfl (fun C=>(Q4 (Q1 (wB rfl (fun g1=>(wP rfl (Q3 (Q2 (Q5 [1] (S':=[_]) rfl (Q4 (Q1 (wF rfl Q4g (wD 0 2 rfl Q31 Q4R rfl (wN rfl Q1s (wF rfl Q5b ?_)))))))))))))))
 refine wD 0 3 rfl Q1Z Q41 rfl (wN rfl Q1S (wP rfl ?_))
 obtain ⟨hg11,hm⟩:=Qq hm
 refine Qr (d:=11) (v':=.int .i64 ((l2.length + l3.length:Nat):Int)) (S':=[_,_,_,_,_,_,_]) rfl rfl (Qw (a:=l2.length) (b:=l3.length) hg11) (wP rfl (Q3 (Q2 (Q5 [3,1] (S':=[_,_]) rfl (Q4 ?_)))))
 obtain ⟨bj_1,hm,hLj_1⟩:=Q6 hm
 refine Q14 (σ:=Nat) (fun j_1_3=>bj_1 = j_1_3) (fun j_1_3=>[(3,.int .i64 ((j_1_3:Nat):Int))]) (fun j_1_3=>[]) (fun j_1_3=>[]) ?_ ?_
 ·
  refine Q4 (Q1 (wP rfl (Q3 (Q2 (Qc (QI (σ:=Nat × Nat × Nat) (fun (nu1,u1_4,u1_3)=>Q2s (Q3N N l2) nu1 (u1_4,u1_3) = some bj_1) (fun (nu1,u1_4,u1_3)=>nu1) (fun (nu1,u1_4,u1_3)=>[(4,.int .i64 ((u1_4:Nat):Int)),(3,.int .i64 ((u1_3:Nat):Int)),(1,.pointer (some ⟨g1,0,none⟩))]) (fun (nu1,u1_4,u1_3)=>[.sli 3 QO qp0 qc1 l2,.sli 3 R_V qp2 qc3 l3]) (fun (nu1,u1_4,u1_3)=>[.blk g1 [.int .i64 a0,.int .i64 a1,.slice qp0 l2.length qc1,.slice qp2 l3.length qc3] 27]) (N,0,l2.length + l3.length) hm [4,3,1] rfl (asK [0,1] rfl) rfl (fun s_ hm=>?_)))))))
  obtain ⟨nu1,u1_4,u1_3⟩:=s_
  try dsimp only at hm ⊢
  obtain ⟨mu1,bu1,hnu1,hq,hLu1⟩:=Q1m hm
  clear hm
  subst hnu1
  replace hm:=hq
  clear hq
  unfold Q3N at hm
  try dsimp only at hm
  refine Q4 (Q4 ?_)
  obtain ⟨bj_2,hm,hLj_2⟩:=Q6 hm
  refine Q14 (σ:=Bool) (fun j_2_20=>bj_2 = j_2_20) (fun j_2_20=>[(4,.int .i64 ((u1_4:Nat):Int)),(3,.int .i64 ((u1_3:Nat):Int)),(1,.pointer (some ⟨g1,0,none⟩)),(20,.bool j_2_20)]) (fun j_2_20=>[.sli 3 QO qp0 qc1 l2,.sli 3 R_V qp2 qc3 l3]) (fun j_2_20=>[.blk g1 [.int .i64 a0,.int .i64 a1,.slice qp0 l2.length qc1,.slice qp2 l3.length qc3] 27]) ?_ ?_
  ·
   refine Q1 (wP rfl (wF rfl Q4g (wD 0 2 rfl Q31 Q4R rfl (wN rfl Q1s (wP rfl (Qr (d:=16) (v':=.bool (decide (u1_4 < l2.length))) (S':=[_,_,_,_,_,_,_]) rfl rfl (Q3a (a:=u1_4) (b:=l2.length)) (wP rfl ?_)))))))
   refine QA (d:=17) (S':=[_,_,_,_,_,_,_,_]) rfl rfl (fun hs17=>?_) (fun hs17=>?_)
   ·
    replace hm:=QQ hm hs17
    refine wP rfl (wP rfl (Qr (d:=19) (v':=.bool (decide (u1_3 ≤ 200))) (S':=[_,_,_,_,_,_,_,_,_,_]) rfl rfl (natle (a:=u1_3) (b:=200)) (wP rfl (Q3 ?_))))
    have hE:=(Option.some.inj hm).symm
    refine Ql (decide (u1_3 ≤ 200)) hE [4,3,1,20] rfl (asK [0,1] rfl) rfl
   ·
    replace hm:=QP hm hs17
    refine wO rfl (wO rfl (wP rfl (Q3 ?_)))
    have hE:=(Option.some.inj hm).symm
    refine Ql false hE [4,3,1,20] rfl (asK [0,1] rfl) rfl
  ·
   rintro j_2_20 hE
   try dsimp only
   have hm:=hLj_2
   rw [hE] at hm
   refine Qm rfl (fun hb20=>?_) (fun hb20=>?_)
   ·
    replace hm:=QQ hm hb20
    refine Q5 [4,3,1] (S':=[_,_,_]) rfl (Qj (Q2 (Q4 (Qc (Q1 (wP rfl (wF rfl Q4g (wD 0 2 rfl Q31 Q4R rfl (wP rfl ?_)))))))))
    obtain ⟨x27,hx27,hm⟩:=Q6 hm
    refine Q3A 0 u1_4 rfl rfl rfl (Q0 rfl) rfl rfl rfl rfl rfl hx27 Q1s Q1G (fun b27 q27 cs27 hlx27=>(Q4L Q4u 1 rfl (fun r27 er27 _=>?_)))
    subst er27
    refine wF rfl Q5e (Q4M 1 2 rfl rfl rfl (Q0 rfl) rfl rfl rfl (cs:=[_]) rfl Q1Z Q41 rfl rfl (wN rfl Q1S (wP rfl ?_)))
    obtain ⟨hg31,hm⟩:=Qq hm
    refine Qr (d:=31) (v':=.int .i64 ((u1_3 + x27.args.length:Nat):Int)) (S':=[_,_,_,_,_,_,_,_,_,_,_]) rfl rfl (Qw (a:=u1_3) (b:=x27.args.length) hg31) (Qs (S':=[_,_,_,_,_,_,_,_,_,_,_]) rfl rfl rfl rfl rfl (Q3 (Qa (Q2 (Q5 [3,4,1] (S':=[_,_,_]) rfl (Q1 (wP rfl (wP rfl ?_))))))))
    obtain ⟨hg22,hm⟩:=Qq hm
    refine Qr (d:=22) (v':=.int .i64 ((u1_4 + 1:Nat):Int)) (S':=[_,_,_,_]) rfl rfl (Qw (a:=u1_4) (b:=1) hg22) (Qs (S':=[_,_,_,_]) rfl rfl rfl rfl rfl (Q3 ?_))
    have hE:=(Option.some.inj hm).symm
    replace hE:=QZ hLu1 hE
    refine Q1n (_,u1_4 + 1,u1_3 + x27.args.length) (Nat.lt_succ_self _) hE [4,3,1] rfl (asK [3,4] rfl) rfl
   ·
    replace hm:=QP hm hb20
    refine Q5 [3] (S':=[_]) rfl (QH (Q8 (Q8 (Qh ?_))))
    have hE:=(Option.some.inj hm).symm
    replace hE:=Qy hLu1 hE
    refine QE [] rfl (H':=[]) rfl ?_
    refine Ql u1_3 hE [3] rfl (asK [] rfl) rfl
 ·
  rintro j_1_3 hE
  try dsimp only
  have hm:=hLj_1
  rw [hE] at hm
  refine Q4 (Q1 (wP rfl (wP rfl (Qr (d:=33) (v':=.bool (decide (200 < j_1_3))) (S':=[_,_]) rfl rfl (natgt (a:=j_1_3) (b:=200)) (wP rfl (Q3 (Q2 (Q5 [2] (S':=[_]) rfl (Qn ?_)))))))))
  have hE:=(Option.some.inj hm).symm
  replace hE:=hE.symm
  subst hE
  refine Qp (Hr:=[]) [] Tryz.results7 (Qd rfl) ⟨rfl,rfl,rfl⟩ (asK [] rfl) rfl rfl (.inl rfl)
theorem Q8l (N:Nat)   (hm:Q6p N = some ()):Q1v Tryz.prog 8 [] [] [] (fun v Φr Hr=>∃ (o0:Nat),v = .pointer (some ⟨o0,0,none⟩) ∧ Φr = [] ∧ Hr = [.blk o0 [.slice none 0 0,.int .i64 1] 65]):=by
 unfold Q6p at hm
 refine Qx Tryz.func8 rfl Tryz.ntmps8 rfl (S:=[]) rfl (fun C=>(Q4 (Q1 (wP rfl (Q3 (Q2 (Q5 [] (S':=[]) rfl (Q4 (Q1 (Q2t rfl rfl rfl (Q0 rfl) rfl tZ_65 tP_65 rfl (out:=[_,_]) rfl (wB rfl (fun g2=>(wP rfl (Q3 (Q2 ?_)))))))))))))))
 refine Q5 [0] (S':=[_]) rfl (Qn ?_)
 have hE:=(Option.some.inj hm).symm
 refine Qp (Hr:=[_]) [0] Tryz.results8 (Qd rfl) ⟨g2,rfl,rfl,rfl⟩ (asK [] rfl) rfl rfl (.inl rfl)
theorem Q6A (N:Nat) (qg0:Nat) (qp1:Option Addr) (qn2:Nat) (qc3:Nat) (l0:List SessD) (a1:Int)  (hm:Q1O N l0 a1 = some ()):Q1v Tryz.prog 42 [.pointer (some ⟨qg0,0,none⟩)] [] [.blk qg0 [.slice qp1 qn2 qc3,.int .i64 a1] 65,.own 35 6 Qt (.slice qp1 qn2 qc3) l0] (fun v Φr Hr=>v = .bool (decide (a1 > 0)) ∧ Φr = [] ∧ Hr = [.blk qg0 [.slice qp1 qn2 qc3,.int .i64 a1] 65,.own 35 6 Qt (.slice qp1 qn2 qc3) l0]):=by
 unfold Q1O at hm
 refine Qx Tryz.func42 rfl Tryz.ntmps42 rfl (S:=[_]) rfl (fun C=>(Q4 (Q1 (wP rfl (Q3 (Q2 (Q5 [0] (S':=[_]) rfl (Q4 (Q1 (wP rfl (Q7J rfl rfl rfl (Q0 rfl) rfl rfl rfl (neqP tQ_38 _ _ _) (wP rfl (wP rfl (wP rfl ?_))))))))))))))
 refine wF rfl Q67 (wD 0 1 rfl Q1g Q1D rfl (wP rfl (wP rfl (wP rfl (Q3 (Q2 (Q5 [2] (S':=[_]) rfl (Qn ?_))))))))
 have hE:=(Option.some.inj hm).symm
 refine Qp (Hr:=[_,_]) [0,1] Tryz.results42 (Qd rfl) ⟨rfl,rfl,rfl⟩ (asK [] rfl) rfl rfl (.inl rfl)
theorem Q6G (N:Nat) (qg0:Nat) (qp1:Option Addr) (qn2:Nat) (qc3:Nat) (l0:List SessD) (a1:Int) (o0:Int) (o1:Nat) (o4:List SessD) (o6:Int) (hm:Q5c N l0 a1 = some (o0,o1,o4,o6)):Q1v Tryz.prog 19 [.pointer (some ⟨qg0,0,none⟩)] [] [.blk qg0 [.slice qp1 qn2 qc3,.int .i64 a1] 65,.own 35 6 Qt (.slice qp1 qn2 qc3) l0] (fun v Φr Hr=>∃ (o2:Option Addr) (o3:Nat) (o5:Nat),v = .tuple #[.int .i64 o0,.int .i64 ((o1:Nat):Int)] ∧ Φr = [] ∧ Hr = [.blk qg0 [.slice o2 o5 o3,.int .i64 o6] 65,.own 35 6 Qt (.slice o2 o5 o3) o4]):=by
 unfold Q5c at hm
 refine Qx Tryz.func19 rfl Tryz.ntmps19 rfl (S:=[_]) rfl (fun C=>(Q4 (Q1 (wP rfl (wP rfl (Q3 (Q2 (Q5 [0] (S':=[_]) rfl (Q4 (Qc (Q4 (Q1 (wP rfl ?_)))))))))))))
 obtain ⟨_,hc6,hm⟩:=Q6 hm
 try dsimp only at hm
 refine wC [0,1] [] rfl fn_42 rfl (Q6A N qg0 qp1 qn2 qc3 l0 a1 hc6) (asK [] rfl) rfl (H':=[]) rfl ?_
 rintro _ _ _ ⟨rfl,rfl,rfl⟩
 refine wP rfl (wP rfl (Q3 (Q2 (Q5 [4,0] (S':=[_,_]) rfl ?_))))
 refine Qm rfl (fun hb4=>?_) (fun hb4=>?_)
 ·
  replace hm:=QQ hm hb4
  refine Q5 [] (S':=[]) rfl (Q4 (Q1 (wP rfl (wP rfl (Q3 (Q2 (Qn (Qu (Qb ?_)))))))))
  have hE:=(Option.some.inj hm).symm
  obtain ⟨hE0,hF1⟩:=Prod.mk.inj hE
  obtain ⟨hE1,hF2⟩:=Prod.mk.inj hF1
  obtain ⟨hE2,hE3⟩:=Prod.mk.inj hF2
  clear hE hF1 hF2
  replace hE0:=hE0.symm
  subst hE0
  replace hE1:=hE1.symm
  subst hE1
  replace hE2:=hE2.symm
  subst hE2
  replace hE3:=hE3.symm
  subst hE3
  refine Q4z (Hr:=[_,_]) [0,1] Tryz.results19 (Qd rfl) (Qd rfl) ⟨qp1,qc3,qn2,rfl,rfl,rfl⟩ (asK [] rfl) rfl rfl (.inl rfl)
 ·
  replace hm:=QP hm hb4
  refine Q5 [0] (S':=[_]) rfl (Q4 ?_)
  obtain ⟨bj_1,hm,hLj_1⟩:=Q6 hm
  refine Q14 (σ:=Bool) (fun j_1_8=>bj_1 = j_1_8) (fun j_1_8=>[(0,.pointer (some ⟨qg0,0,none⟩)),(8,.bool j_1_8)]) (fun j_1_8=>[]) (fun j_1_8=>[.blk qg0 [.slice qp1 qn2 qc3,.int .i64 a1] 65,.own 35 6 Qt (.slice qp1 qn2 qc3) l0]) ?_ ?_
  ·
   refine Q1 (wP rfl (wP rfl (wF rfl Q4t (wF rfl Q4r (wD 0 0 rfl Q1L Q3Q rfl (Q2n 1 rfl (fun hl14 _=>(wN rfl QB (Qr (d:=14) (v':=.int .i64 ((l0.length:Nat):Int)) (S':=[_,_,_,_,_,_]) rfl rfl (len_is hl14) (wP rfl (Qr (d:=15) (v':=.bool (decide (32 ≤ l0.length))) (S':=[_,_,_,_,_,_,_]) rfl rfl (Q7r (a:=l0.length) (b:=32)) (wP rfl ?_))))))))))))
   refine QA (d:=16) (S':=[_,_,_,_,_,_,_,_]) rfl rfl (fun hs16=>?_) (fun hs16=>?_)
   ·
    replace hm:=QQ hm hs16
    refine wO rfl (wO rfl (wO rfl (wO rfl (wO rfl (wP rfl (wP rfl (Q3 ?_)))))))
    have hE:=(Option.some.inj hm).symm
    refine Ql true hE [0,8] rfl (asK [] rfl) rfl
   ·
    replace hm:=QP hm hs16
    refine wP rfl (wP rfl (wF rfl Q67 (wD 0 1 rfl Q1g Q1D rfl (wP rfl (wP rfl (wP rfl (Q3 ?_)))))))
    have hE:=(Option.some.inj hm).symm
    refine Ql (decide (a1 > 1099511627776)) hE [0,8] rfl (asK [] rfl) rfl
  ·
   rintro j_1_8 hE
   try dsimp only
   have hm:=hLj_1
   rw [hE] at hm
   refine Qm rfl (fun hb8=>?_) (fun hb8=>?_)
   ·
    replace hm:=QQ hm hb8
    refine Q5 [] (S':=[]) rfl (Q4 (Q1 (wP rfl (wP rfl (Q3 (Q2 (Qn (Qu (Qb ?_)))))))))
    have hE:=(Option.some.inj hm).symm
    obtain ⟨hE0,hF1⟩:=Prod.mk.inj hE
    obtain ⟨hE1,hF2⟩:=Prod.mk.inj hF1
    obtain ⟨hE2,hE3⟩:=Prod.mk.inj hF2
    clear hE hF1 hF2
    replace hE0:=hE0.symm
    subst hE0
    replace hE1:=hE1.symm
    subst hE1
    replace hE2:=hE2.symm
    subst hE2
    replace hE3:=hE3.symm
    subst hE3
    refine Q4z (Hr:=[_,_]) [0,1] Tryz.results19 (Qd rfl) (Qd rfl) ⟨qp1,qc3,qn2,rfl,rfl,rfl⟩ (asK [] rfl) rfl rfl (.inl rfl)
   ·
    replace hm:=QP hm hb8
    refine Q5 [0] (S':=[_]) rfl (Qj (Qa (Q2 (Q4 ?_))))
    obtain ⟨hg35,hm⟩:=Qq hm
    refine Q1l [0,1,2,3,4,5,6,7,8,9,10,13,14,15] rfl rfl (fun hok=>(xP hok 0 rfl (xP hok 1 rfl (xP hok 2 rfl (Qz hok 3 rfl rfl rfl (Q0 rfl) rfl rfl rfl Q4t (Qz hok 4 rfl rfl rfl (Q0 rfl) rfl rfl rfl Q4r (Q1R hok 5 0 0 rfl rfl rfl (Q0 rfl) rfl rfl rfl rfl (cs:=[_]) rfl Q1L Q3Q rfl rfl (xP hok 6 rfl (xP hok 7 rfl (Qz hok 8 rfl rfl rfl (Q0 rfl) rfl rfl rfl Q67 (Q1R hok 9 0 1 rfl rfl rfl (Q0 rfl) rfl rfl rfl rfl (cs:=[_]) rfl Q1g Q1D rfl rfl (Q4Q hok 10 rfl rfl rfl (Q0 rfl) rfl rfl Q4G tP_35 rfl (out:=[_,_,_,_,_,_]) rfl (xS hok 11 rfl (QJ rfl rfl rfl (Q0 rfl) rfl QB QN Q4G rfl (zs:=[.int .i64 0,.int .i64 0,.int .i64 0,.int .i64 0,.slice none 0 0,.slice none 0 0]) (by kernel_rfl) rfl (out:=[_,_,_,_,_,_]) rfl (fun g34=>?_)))))))))))))))
    refine Q3 (QT [] [1,1] rfl rfl (xS hok 12 rfl (Q3c ([(⟨a1,0,(⟨0,0,[],[]⟩ : ReplyD)⟩ : SessD)]) 2 0 rfl rfl rfl (Q0 rfl) rfl rfl rfl rfl rfl (fun F w hφ=>⟨[.int .i64 a1,.int .i64 0,.int .i64 0,.int .i64 0,.slice none 0 0,.slice none 0 0],[],rfl,rfl,⟨((none,0),(none,0)),rfl,(QD Q2B (QD Q2B Q1f))⟩,rfl⟩) QB Q6Q rfl rfl (Nat.le_trans hg35 (by decide)) (Nat.le_trans (Nat.mul_le_mul_right _ hg35) (by decide)) (H2:=fun p35 c35=>[_,_,.own 35 6 Qt (.slice p35 ((l0 ++ ([(⟨a1,0,(⟨0,0,[],[]⟩ : ReplyD)⟩ : SessD)])).length) c35) (l0 ++ ([(⟨a1,0,(⟨0,0,[],[]⟩ : ReplyD)⟩ : SessD)]))]) (fun _ _=>rfl) (fun p35 c35=>(Q2k 0 rfl (H':=[_,_]) rfl (Q3 (QT [] [0] rfl rfl (xP hok 13 rfl (Qz hok 14 rfl rfl rfl (Q0 rfl) rfl rfl rfl Q4t (Qz hok 15 rfl rfl rfl (Q0 rfl) rfl rfl rfl Q4r (xS hok 16 rfl (wS 0 0 rfl Q1L (all':=[_,_]) rfl (H':=[_,_]) rfl (Q3 (QT [] [] rfl rfl ?_))))))))))))))
    refine Q19 hok rfl (Q2 (Q5 [0] (S':=[_]) rfl (Q4 (Q1 (wP rfl (wP rfl (wF rfl Q67 (wD 0 1 rfl Q1g Q1D rfl (wP rfl ?_)))))))))
    obtain ⟨hg43,hm⟩:=Qq hm
    refine Qr (d:=43) (v':=.int .i64 (a1 + 1)) (S':=[_,_,_,_,_]) rfl rfl (i64_in hg43) (wP rfl (wF rfl Q67 (wS 0 1 rfl Q1g (all':=[_,_]) rfl (H':=[_,_]) rfl (Q3 (Q2 (Q5 [0] (S':=[_]) rfl (Q4 (Q1 (wP rfl (wP rfl (wF rfl Q67 (wD 0 1 rfl Q1g Q1D rfl (wP rfl ?_)))))))))))))
    obtain ⟨hg50,hm⟩:=Qq hm
    refine Qr (d:=50) (v':=.int .i64 ((a1 + 1) - 1)) (S':=[_,_,_,_,_]) rfl rfl (i64_in hg50) (wP rfl (wP rfl (Q3 (Q2 (Q5 [3,2] (S':=[_,_]) rfl (Qn ?_))))))
    have hE:=(Option.some.inj hm).symm
    obtain ⟨hE0,hF1⟩:=Prod.mk.inj hE
    obtain ⟨hE1,hF2⟩:=Prod.mk.inj hF1
    obtain ⟨hE2,hE3⟩:=Prod.mk.inj hF2
    clear hE hF1 hF2
    replace hE0:=hE0.symm
    subst hE0
    replace hE1:=hE1.symm
    subst hE1
    replace hE2:=hE2.symm
    subst hE2
    replace hE3:=hE3.symm
    subst hE3
    refine Q4z (Hr:=[_,_]) [0,1] Tryz.results19 (Qd rfl) (Qd rfl) ⟨p35,c35,(l0 ++ ([(⟨a1,0,(⟨0,0,[],[]⟩ : ReplyD)⟩ : SessD)])).length,rfl,rfl,rfl⟩ (asK [] rfl) rfl rfl (.inl rfl)
theorem Q8a (N:Nat) (a0:Int) (a1:Int) (a2:Int) (a3:Int) (qp0:Option Addr) (qc1:Nat) (l4:List FactD) (qp2:Option Addr) (qc3:Nat) (l5:List V) (qg4:Nat) (a6:Int)  (hm:Q53 N a0 a1 a2 a3 l4 l5 a6 = some ()):Q1v Tryz.prog 143 [.agg #[.int .i64 a0,.int .i64 a1,.int .i64 a2,.int .i64 a3,.slice qp0 l4.length qc1,.slice qp2 l5.length qc3],.pointer (some ⟨qg4,0,none⟩)] [.sli 3 QO qp0 qc1 l4,.sli 3 R_V qp2 qc3 l5] [.blk qg4 [.int .i64 a6] 3] (fun v Φr Hr=>v = .bool (a0 == a6) ∧ Φr = [] ∧ Hr = [.blk qg4 [.int .i64 a6] 3]):=by
 unfold Q53 at hm
 refine Qx Tryz.func143 rfl Tryz.ntmps143 rfl (S:=[_,_]) rfl (fun C=>(Q4 (Q1 (wB rfl (fun g2=>(wP rfl (Q3 (Q2 (Q5 [2,1] (S':=[_,_]) rfl (Q4 (Q1 (wF rfl Q4A (wD 0 0 rfl Q1g Q1D rfl (wD 1 0 rfl Q1g Q1D rfl (wP rfl ?_)))))))))))))))
 refine wP rfl (Q3 (Q2 (Q5 [3] (S':=[_]) rfl (Qn ?_))))
 have hE:=(Option.some.inj hm).symm
 refine Qp (Hr:=[_]) [1] Tryz.results143 (Qd rfl) ⟨rfl,rfl,rfl⟩ (asK [] rfl) rfl rfl (.inl rfl)
theorem Q5C (N:Nat) (qp0:Option Addr) (qc1:Nat) (l0:List SessD) (qg2:Nat) (a1:Int) (o0:Int) (hm:Q3q N l0 a1 = some o0):Q1v Tryz.prog 142 [.slice qp0 l0.length qc1,.func (.func 143) #[] #[.pointer (some ⟨qg2,0,none⟩)]] [.sli 6 Qt qp0 qc1 l0] [.blk qg2 [.int .i64 a1] 3] (fun v Φr Hr=>v = .int .i64 o0 ∧ Φr = [] ∧ Hr = [.blk qg2 [.int .i64 a1] 3]):=by
 unfold Q3q at hm
 refine Qx Tryz.func142 rfl Tryz.ntmps142 rfl (S:=[_,_]) rfl (fun C=>(Q4 (Q1 (wP rfl (Q3 (Q2 (Q5 [0,1] (S':=[_,_]) rfl (Q4 ?_))))))))
 obtain ⟨bj_1,hm,hLj_1⟩:=Q2F hm
 refine Q14 (σ:=Unit) (fun _=>bj_1 = .inl ()) (fun _=>[]) (fun _=>[]) (fun _=>[.blk qg2 [.int .i64 a1] 3]) ?_ ?_
 ·
  refine Q4 (Q1 (wP rfl (wN rfl QB (wP rfl (Q3 (Q2 (Q5 [8,7,0,1] (S':=[_,_,_,_]) rfl (Qc (QI (σ:=Nat × Nat) (fun (nu1,u1_8)=>Q2s (Q2P N l0 a1) nu1 u1_8 = some bj_1) (fun (nu1,u1_8)=>nu1) (fun (nu1,u1_8)=>[(8,.int .i64 ((u1_8:Nat):Int)),(7,.int .i64 ((l0.length:Nat):Int)),(0,.slice qp0 l0.length qc1),(1,.func (.func 143) #[] #[.pointer (some ⟨qg2,0,none⟩)])]) (fun (nu1,u1_8)=>[.sli 6 Qt qp0 qc1 l0]) (fun (nu1,u1_8)=>[.blk qg2 [.int .i64 a1] 3]) (N,0) hm [8,7,0,1] rfl (asK [0] rfl) rfl (fun s_ hm=>?_))))))))))
  obtain ⟨nu1,u1_8⟩:=s_
  try dsimp only at hm ⊢
  obtain ⟨mu1,bu1,hnu1,hq,hLu1⟩:=Q1m hm
  clear hm
  subst hnu1
  replace hm:=hq
  clear hq
  unfold Q2P at hm
  try dsimp only at hm
  refine Q4 (Q1 (wP rfl (Qr (d:=9) (v':=.bool (decide (u1_8 < l0.length))) (S':=[_,_,_,_]) rfl rfl (Q3a (a:=u1_8) (b:=l0.length)) (Q3 (Q2 (Q4 ?_))))))
  refine Qm rfl (fun hb9=>?_) (fun hb9=>?_)
  ·
   replace hm:=QQ hm hb9
   refine Q5 [8,7,0,1] (S':=[_,_,_,_]) rfl (Qj (Q2 (Q4 (Qc (Q4 (Q1 (wP rfl (wP rfl (Q3 (Q2 (Q5 [5,8,7,0,1] (S':=[_,_,_,_,_]) rfl (Q4 (Q1 ?_)))))))))))))
   refine wP rfl (wP rfl (wP rfl ?_))
   obtain ⟨x14,hx14,hm⟩:=Q6 hm
   refine Q3A 0 u1_8 rfl rfl rfl (Q0 rfl) rfl rfl rfl rfl rfl hx14 QB QN (fun b14 q14 cs14 hlx14=>(Q4L Q17 1 rfl (fun r14 er14 _=>?_)))
   subst er14
   refine Q4M 2 0 rfl rfl rfl (Q0 rfl) rfl rfl rfl (cs:=[_,_,_,_,_,_]) rfl QN Q4O rfl rfl ?_
   obtain ⟨_,hc16,hm⟩:=Q6 hm
   try dsimp only at hm
   refine wl_callDyn [0] [] rfl rfl rfl (Q0 rfl) rfl rfl rfl fn_143 rfl rfl (Q8a N x14.id x14.seq x14.r.err x14.r.num r14.1.1 r14.1.2 x14.r.facts r14.2.1 r14.2.2 x14.r.said qg2 a1 hc16) (asK [0,1] rfl) rfl (H':=[]) rfl ?_
   rintro _ _ _ ⟨rfl,rfl,rfl⟩
   refine Q3 (Q2 (Q5 [16,5,8,7,0,1] (S':=[_,_,_,_,_,_]) rfl ?_))
   refine Qm rfl (fun hb16=>?_) (fun hb16=>?_)
   ·
    replace hm:=QQ hm hb16
    refine Q5 [5] (S':=[_]) rfl (Q4 (Q1 (wP rfl (wP rfl (Q3 (Q2 (Q5 [4] (S':=[_]) rfl (Qn (Qu (Qb (Qb (Qu (Qb ?_)))))))))))))
    have hE:=(Option.some.inj hm).symm
    replace hE:=Qy hLu1 hE
    replace hE:=Qy hLj_1 hE
    replace hE:=hE.symm
    subst hE
    refine Qp (Hr:=[_]) [0] Tryz.results142 (Qd rfl) ⟨rfl,rfl,rfl⟩ (asK [] rfl) rfl rfl (.inl rfl)
   ·
    replace hm:=QP hm hb16
    refine Q5 [8,7,0,1] (S':=[_,_,_,_]) rfl (Qj (Qa (Q2 (Q1 (wP rfl ?_)))))
    obtain ⟨hg18,hm⟩:=Qq hm
    refine Qr (d:=18) (v':=.int .i64 ((u1_8 + 1:Nat):Int)) (S':=[_,_,_,_]) rfl rfl (Qw (a:=u1_8) (b:=1) hg18) (Qs (S':=[_,_,_,_]) rfl rfl rfl rfl rfl (Q3 ?_))
    have hE:=(Option.some.inj hm).symm
    replace hE:=QZ hLu1 hE
    refine Q1n (_,u1_8 + 1) (Nat.lt_succ_self _) hE [8,7,0,1] rfl (asK [4] rfl) rfl
  ·
   replace hm:=QP hm hb9
   refine Q5 [] (S':=[]) rfl (QH (Q8 (Q8 (Qh ?_))))
   have hE:=(Option.some.inj hm).symm
   replace hE:=Qy hLu1 hE
   refine Ql () hE [] rfl (asK [] rfl) rfl
 ·
  rintro _ hE
  try dsimp only
  have hm:=QZ hLj_1 hE
  try dsimp only at hm
  refine Q4 (Q1 (wP rfl (Q3 (Q2 (Qn ?_)))))
  have hE:=(Option.some.inj hm).symm
  replace hE:=hE.symm
  subst hE
  refine Qp (Hr:=[_]) [0] Tryz.results142 (Qd rfl) ⟨rfl,rfl,rfl⟩ (asK [] rfl) rfl rfl (.inl rfl)
theorem Q8r (N:Nat) (qg0:Nat) (qp1:Option Addr) (qn2:Nat) (qc3:Nat) (l0:List SessD) (a1:Int) (a2:Int) (o0:Int) (hm:Q4p N l0 a1 a2 = some o0):Q1v Tryz.prog 92 [.pointer (some ⟨qg0,0,none⟩),.int .i64 a2] [] [.blk qg0 [.slice qp1 qn2 qc3,.int .i64 a1] 65,.own 35 6 Qt (.slice qp1 qn2 qc3) l0] (fun v Φr Hr=>v = .int .i64 o0 ∧ Φr = [] ∧ Hr = [.blk qg0 [.slice qp1 qn2 qc3,.int .i64 a1] 65,.own 35 6 Qt (.slice qp1 qn2 qc3) l0]):=by
 unfold Q4p at hm
 refine Qx Tryz.func92 rfl Tryz.ntmps92 rfl (S:=[_,_]) rfl (fun C=>(Q4 (Q1 (wB rfl (fun g3=>(wP rfl (Q3 (Q2 (Q5 [3,0] (S':=[_,_]) rfl (Q4 (Q1 (wP rfl (wP rfl (wF rfl Q4r (wD 1 0 rfl Q1L Q3Q rfl ?_)))))))))))))))
 refine wl_makeFunc rfl rfl rfl (Q0 rfl) rfl rfl (Q2n 2 rfl (fun hzqn2 _=>?_))
 subst hzqn2
 obtain ⟨v10,hc10,hm⟩:=Q6 hm
 refine Q3h [0] [1,2] [2] rfl rfl rfl (Q0 rfl) rfl rfl fn_142 rfl (Q5C N qp1 qc3 l0 g3 a2 _ hc10) (fun F w hφ hh=>(QD (Q5k (hh _ (QS (k:=0) rfl))) Q1f)) (fun _ _ _ hR=>by obtain ⟨rfl,rfl,rfl⟩:=hR; exact ⟨rfl,(Q4B (Q8p) (fun _ h=>Q2h h))⟩) rfl rfl (H':=[_,_]) rfl ?_
 rintro _ _ _ ⟨rfl,rfl,rfl⟩
 refine wP rfl (Q3 (Q2 (Q5 [4] (S':=[_]) rfl (Qn ?_))))
 have hE:=(Option.some.inj hm).symm
 replace hE:=hE.symm
 subst hE
 refine Qp (Hr:=[_,_]) [1,2] Tryz.results92 (Qd rfl) ⟨rfl,rfl,rfl⟩ (asK [] rfl) rfl rfl (.inl rfl)
theorem Q60 (N:Nat) (qg0:Nat) (qp1:Option Addr) (qn2:Nat) (qc3:Nat) (l0:List SessD) (a1:Int) (a2:Int) (o0:Int) (o1:Nat) (hm:Q2j N l0 a1 a2 = some (o0,o1)):Q1v Tryz.prog 45 [.pointer (some ⟨qg0,0,none⟩),.int .i64 a2] [] [.blk qg0 [.slice qp1 qn2 qc3,.int .i64 a1] 65,.own 35 6 Qt (.slice qp1 qn2 qc3) l0] (fun v Φr Hr=>v = .tuple #[.int .i64 o0,.int .i64 ((o1:Nat):Int)] ∧ Φr = [] ∧ Hr = [.blk qg0 [.slice qp1 qn2 qc3,.int .i64 a1] 65,.own 35 6 Qt (.slice qp1 qn2 qc3) l0]):=by
 unfold Q2j at hm
 refine Qx Tryz.func45 rfl Tryz.ntmps45 rfl (S:=[_,_]) rfl (fun C=>(Q4 (Q1 (wP rfl (wP rfl (Q3 (Q2 (Q5 [0,1] (S':=[_,_]) rfl (Q4 (Q4 (Q1 (wP rfl ?_))))))))))))
 obtain ⟨_,hc8,hm⟩:=Q6 hm
 try dsimp only at hm
 refine wC [0,1] [] rfl fn_42 rfl (Q6A N qg0 qp1 qn2 qc3 l0 a1 hc8) (asK [] rfl) rfl (H':=[]) rfl ?_
 rintro _ _ _ ⟨rfl,rfl,rfl⟩
 refine wP rfl (Q3 (Q2 (Q5 [9,0,1] (S':=[_,_,_]) rfl ?_)))
 refine Qm rfl (fun hb9=>?_) (fun hb9=>?_)
 ·
  replace hm:=QQ hm hb9
  refine Q5 [] (S':=[]) rfl (Q4 (Q1 (wP rfl (wP rfl (Q3 (Q2 (Qn (Qb ?_))))))))
  have hE:=(Option.some.inj hm).symm
  obtain ⟨hE0,hE1⟩:=Prod.mk.inj hE
  clear hE
  replace hE0:=hE0.symm
  subst hE0
  replace hE1:=hE1.symm
  subst hE1
  refine Q4z (Hr:=[_,_]) [0,1] Tryz.results45 (Qd rfl) (Qd rfl) ⟨rfl,rfl,rfl⟩ (asK [] rfl) rfl rfl (.inl rfl)
 ·
  replace hm:=QP hm hb9
  refine Q5 [0,1] (S':=[_,_]) rfl (Qj (Q2 (Q4 (Q1 (wP rfl (wP rfl (wF rfl Q4t (wP rfl ?_))))))))
  obtain ⟨v14,hc14,hm⟩:=Q6 hm
  refine wC [0,1] [] rfl fn_92 rfl (Q8r N qg0 qp1 qn2 qc3 l0 a1 a2 _ hc14) (asK [] rfl) rfl (H':=[]) rfl ?_
  rintro _ _ _ ⟨rfl,rfl,rfl⟩
  refine wP rfl (Q3 (Q2 (Q5 [6] (S':=[_]) rfl (Q4 (Q4 (Q1 (wP rfl (wP rfl (Q3 (Q2 (Q5 [16,6] (S':=[_,_]) rfl ?_)))))))))))
  refine Qm rfl (fun hb16=>?_) (fun hb16=>?_)
  ·
   replace hm:=QQ hm hb16
   refine Q5 [] (S':=[]) rfl (Q4 (Q1 (wP rfl (wP rfl (Q3 (Q2 (Qn (Qb ?_))))))))
   have hE:=(Option.some.inj hm).symm
   obtain ⟨hE0,hE1⟩:=Prod.mk.inj hE
   clear hE
   replace hE0:=hE0.symm
   subst hE0
   replace hE1:=hE1.symm
   subst hE1
   refine Q4z (Hr:=[_,_]) [0,1] Tryz.results45 (Qd rfl) (Qd rfl) ⟨rfl,rfl,rfl⟩ (asK [] rfl) rfl rfl (.inl rfl)
  ·
   replace hm:=QP hm hb16
   refine Q5 [6] (S':=[_]) rfl (Qj (Q2 (Q4 (Q1 (wP rfl (wP rfl (wP rfl (Q3 (Q2 (Q5 [5,4] (S':=[_,_]) rfl (Qn ?_)))))))))))
   have hE:=(Option.some.inj hm).symm
   obtain ⟨hE0,hE1⟩:=Prod.mk.inj hE
   clear hE
   replace hE0:=hE0.symm
   subst hE0
   replace hE1:=hE1.symm
   subst hE1
   refine Q4z (Hr:=[_,_]) [0,1] Tryz.results45 (Qd rfl) (Qd rfl) ⟨rfl,rfl,rfl⟩ (asK [] rfl) rfl rfl (.inl rfl)
theorem Clone93f_s (p:Option Addr) (c:Nat) (l:List V) (hb:l.length ≤ 4398046511104):Q1v Tryz.prog 93 [.slice p l.length c] [.sli 3 R_V p c l] [] (fun v Φr Hr=>∃ p' c',v = .slice p' l.length c' ∧ Φr = [] ∧ Hr = [.own 149 3 R_V v l]):=by
 refine Qx Tryz.func93 rfl Tryz.ntmps93 rfl (S:=[_]) rfl (fun C=>(wc_know (fun F w h=>sli_nil (h _ (QS (k:=0) rfl))) (fun isnil=>(Q4 (Q1 (wP rfl (Q3 (Q2 (Q4 (Q4 (Q1 (wP rfl (wl_eqlNil rfl rfl rfl (Q0 rfl) rfl rfl rfl Q1S (Q3 (Q2 ?_)))))))))))))))
 refine Q5 [4,2,0] (S':=[_,_,_]) rfl ?_
 refine Qm rfl (fun h4=>?_) (fun h4=>?_)
 ·
  replace h4:=Q8s h4
  obtain rfl:=isnil h4
  subst h4
  refine Q5q 149 3 R_V (Q4 (Q1 (Qs (S':=[_,_]) rfl rfl rfl rfl rfl (Q3 (Q2 (Qn (Qb (Qp (Hr:=[.own 149 3 R_V (.slice none 0 0) []]) [0] Tryz.results93 (Qd rfl) ?_ (asK [] rfl) rfl rfl (.inl rfl)))))))))
  exact ⟨none,0,rfl,rfl,rfl⟩
 ·
  replace h4:=Q8c h4
  refine Qj (Q2 (Q4 (Q1 (QJ rfl rfl rfl (Q0 rfl) rfl Q1S Q25 tZ_149 rfl (zs:=[]) (by kernel_rfl) rfl (out:=[]) rfl (fun g5=>(wP rfl (Q6t (sz:=3) (m:=0) R_V [] 0 rfl (fun F w hφ=>rfl) rfl (by decide) (H':=[_]) rfl (Q7n 0 0 rfl rfl rfl (Q0 rfl) rfl rfl rfl rfl rfl Q1S tR_149 rfl rfl (by simp; omega) (by simp; omega) (H2:=fun p7 c7=>[.own 149 3 R_V (.slice p7 (l).length c7) l]) (fun _ _=>rfl) (fun p7 c7=>(Qs (S':=[_,_,_,_,_]) rfl rfl rfl rfl rfl (Q3 (Q2 (Q5 [2,4,0] (S':=[_,_,_]) rfl (Qn (Qp (Hr:=[.own 149 3 R_V (.slice p7 (l).length c7) l]) [0] Tryz.results93 (Qd rfl) ?_ (asK [] rfl) rfl rfl (.inl rfl))))))))))))))))
  exact ⟨_,_,rfl,rfl,rfl⟩
theorem Clone94f_s (p:Option Addr) (c:Nat) (l:List FactD) (hb:l.length ≤ 3518437208883):Q1v Tryz.prog 94 [.slice p l.length c] [.sli 3 QO p c l] [] (fun v Φr Hr=>∃ p' c',v = .slice p' l.length c' ∧ Φr = [] ∧ Hr = [.own 61 3 QO v l]):=by
 refine Qx Tryz.func94 rfl Tryz.ntmps94 rfl (S:=[_]) rfl (fun C=>(wc_know (fun F w h=>sli_nil (h _ (QS (k:=0) rfl))) (fun isnil=>(Q4 (Q1 (wP rfl (Q3 (Q2 (Q4 (Q4 (Q1 (wP rfl (wl_eqlNil rfl rfl rfl (Q0 rfl) rfl rfl rfl Q1s (Q3 (Q2 ?_)))))))))))))))
 refine Q5 [4,2,0] (S':=[_,_,_]) rfl ?_
 refine Qm rfl (fun h4=>?_) (fun h4=>?_)
 ·
  replace h4:=Q8s h4
  obtain rfl:=isnil h4
  subst h4
  refine Q5q 61 3 QO (Q4 (Q1 (Qs (S':=[_,_]) rfl rfl rfl rfl rfl (Q3 (Q2 (Qn (Qb (Qp (Hr:=[.own 61 3 QO (.slice none 0 0) []]) [0] Tryz.results94 (Qd rfl) ?_ (asK [] rfl) rfl rfl (.inl rfl)))))))))
  exact ⟨none,0,rfl,rfl,rfl⟩
 ·
  replace h4:=Q8c h4
  refine Qj (Q2 (Q4 (Q1 (QJ rfl rfl rfl (Q0 rfl) rfl Q1s Q1G tZ_61 rfl (zs:=[]) (by kernel_rfl) rfl (out:=[]) rfl (fun g5=>(wP rfl (Q6t (sz:=3) (m:=0) QO [] 0 rfl (fun F w hφ=>rfl) rfl (by decide) (H':=[_]) rfl (Q7n 0 0 rfl rfl rfl (Q0 rfl) rfl rfl rfl rfl rfl Q1s tR_61 rfl rfl (by simp; omega) (by simp; omega) (H2:=fun p7 c7=>[.own 61 3 QO (.slice p7 (l).length c7) l]) (fun _ _=>rfl) (fun p7 c7=>(Qs (S':=[_,_,_,_,_]) rfl rfl rfl rfl rfl (Q3 (Q2 (Q5 [2,4,0] (S':=[_,_,_]) rfl (Qn (Qp (Hr:=[.own 61 3 QO (.slice p7 (l).length c7) l]) [0] Tryz.results94 (Qd rfl) ?_ (asK [] rfl) rfl rfl (.inl rfl))))))))))))))))
  exact ⟨_,_,rfl,rfl,rfl⟩
theorem Q5F (N:Nat) (a0:Int) (a1:Int) (qp0:Option Addr) (qc1:Nat) (l2:List FactD) (qp2:Option Addr) (qc3:Nat) (l3:List V) (o2:List FactD) (hm:Q4N N a0 a1 l2 l3 = some o2):Q1v Tryz.prog 46 [.agg #[.int .i64 a0,.int .i64 a1,.slice qp0 l2.length qc1,.slice qp2 l3.length qc3]] [.sli 3 QO qp0 qc1 l2,.sli 3 R_V qp2 qc3 l3] [] (fun v Φr Hr=>∃ (o0:Option Addr) (o1:Nat) (o3:Option Addr) (o4:Nat),v = .agg #[.int .i64 a0,.int .i64 a1,.slice o0 l2.length o1,.slice o3 l3.length o4] ∧ Φr = [] ∧ Hr = [Qi Qf 61 3 (.slice o0 l2.length o1) o2,.own 149 3 R_V (.slice o3 l3.length o4) l3]):=by
 unfold Q4N at hm
 refine Qx Tryz.func46 rfl Tryz.ntmps46 rfl (S:=[_]) rfl (fun C=>(Q4 (Q1 (wB rfl (fun g1=>(Q2a rfl rfl rfl (Q0 rfl) rfl Q5Q rfl (fun g2=>(Q3 (Q2 (Q5 [2,1] (S':=[_,_]) rfl (Q4 (Q1 (wF rfl Q5b (wD 1 3 rfl Q1Z Q41 rfl ?_))))))))))))))
 obtain ⟨hg6,hm⟩:=Qq hm
 refine wC [] [0,1] rfl fn_93 rfl (Clone93f_s qp2 qc3 l3 hg6) (asK [1] rfl) rfl (H':=[_,_]) rfl ?_
 rintro _ _ _ ⟨p6,c6,rfl,rfl,rfl⟩
 refine wF rfl Q5b (wS 2 3 rfl Q1Z (all':=[_,_,_,_]) rfl (H':=[_,_,_]) rfl (Q3 (Q2 (Q5 [2,1] (S':=[_,_]) rfl (Q4 (Q1 (wF rfl Q4g (wD 2 2 rfl Q31 Q4R rfl ?_))))))))
 obtain ⟨hg10,hm⟩:=Qq hm
 refine wC [] [0,1,2] rfl fn_94 rfl (Clone94f_s qp0 qc1 l2 hg10) (asK [0] rfl) rfl (H':=[_,_,_]) rfl ?_
 rintro _ _ _ ⟨p10,c10,rfl,rfl,rfl⟩
 refine wF rfl Q4g (wS 3 2 rfl Q31 (all':=[_,_,_,_]) rfl (H':=[_,_,_,_]) rfl (Q3 (Q2 (Q5 [2,1] (S':=[_,_]) rfl (Q4 ?_)))))
 obtain ⟨bj_1,hm,hLj_1⟩:=Q6 hm
 refine Q14 (σ:=(List FactD) × Nat) (fun (j_1_1_f2_l,j_1_sh2)=>bj_1 = (j_1_1_f2_l,j_1_sh2)) (fun (j_1_1_f2_l,j_1_sh2)=>[(2,.pointer (some ⟨g2,0,none⟩)),(1,.pointer (some ⟨g1,0,none⟩))]) (fun (j_1_1_f2_l,j_1_sh2)=>[]) (fun (j_1_1_f2_l,j_1_sh2)=>[.blk g2 [.int .i64 0,.int .i64 0,.slice none 0 0,.slice none 0 0] 27,.blk g1 [.int .i64 a0,.int .i64 a1,.slice p10 l2.length c10,.slice p6 l3.length c6] 27,Q6H Qf QO 61 3 (.slice p10 l2.length c10) j_1_1_f2_l j_1_sh2,.own 149 3 R_V (.slice p6 l3.length c6) l3]) ?_ ?_
 ·
  refine Q4 (Q1 (wF rfl Q4g (wD 3 2 rfl Q31 Q4R rfl (wN rfl Q1s (wP rfl (Q3 (Q2 (Q5 [15,14,2,1] (S':=[_,_,_,_]) rfl (Qc (Q6D [Q6H Qf QO 61 3 (.slice p10 l2.length c10) l2 0,_,_,_] (fun _ h=>h.toShell T_FactD_cells 0 rfl) (wc_pick [2,3,0,1] rfl (H':=[_,_,_,_]) rfl (QI (σ:=Nat × Nat × (List FactD)) (fun (nu1,u1_15,u1_1_f2_l)=>Q2s (Q5m N l2) nu1 (u1_15,u1_1_f2_l) = some bj_1) (fun (nu1,u1_15,u1_1_f2_l)=>nu1) (fun (nu1,u1_15,u1_1_f2_l)=>[(15,.int .i64 ((u1_15:Nat):Int)),(14,.int .i64 ((l2.length:Nat):Int)),(2,.pointer (some ⟨g2,0,none⟩)),(1,.pointer (some ⟨g1,0,none⟩))]) (fun (nu1,u1_15,u1_1_f2_l)=>[]) (fun (nu1,u1_15,u1_1_f2_l)=>[.blk g2 [.int .i64 0,.int .i64 0,.slice none 0 0,.slice none 0 0] 27,.blk g1 [.int .i64 a0,.int .i64 a1,.slice p10 l2.length c10,.slice p6 l3.length c6] 27,Q6H Qf QO 61 3 (.slice p10 l2.length c10) u1_1_f2_l u1_15,.own 149 3 R_V (.slice p6 l3.length c6) l3]) (N,0,l2) hm [15,14,2,1] rfl (asK [] rfl) rfl (fun s_ hm=>?_)))))))))))))
  obtain ⟨nu1,u1_15,u1_1_f2_l⟩:=s_
  try dsimp only at hm ⊢
  obtain ⟨mu1,bu1,hnu1,hq,hLu1⟩:=Q1m hm
  clear hm
  subst hnu1
  replace hm:=hq
  clear hq
  unfold Q5m at hm
  try dsimp only at hm
  refine Q4 (Q1 (wP rfl (Qr (d:=16) (v':=.bool (decide (u1_15 < l2.length))) (S':=[_,_,_,_]) rfl rfl (Q3a (a:=u1_15) (b:=l2.length)) (Q3 (Q2 (Q4 ?_))))))
  refine Qm rfl (fun hb16=>?_) (fun hb16=>?_)
  ·
   replace hm:=QQ hm hb16
   refine Q5 [15,14,2,1] (S':=[_,_,_,_]) rfl (Qj (Q2 (Q4 (Qc (Q4 (Q1 (wP rfl (wP rfl (Q3 (Q2 (Q5 [3,15,14,2,1] (S':=[_,_,_,_,_]) rfl ?_)))))))))))
   obtain ⟨x24,hx24,hm⟩:=Q6 hm
   obtain ⟨x26,hx26,hm⟩:=Q6 hm
   obtain ⟨hg27,hm⟩:=Qq hm
   obtain ⟨x28,hx28,hm⟩:=Q6 hm
   obtain ⟨x1007,hx1007,hm⟩:=Q6 hm
   refine Q1l [0,1,2,3,4,5,7,11] rfl rfl (fun hok=>(Qz hok 0 rfl rfl rfl (Q0 rfl) rfl rfl rfl Q4g (Q1R hok 1 1 2 rfl rfl rfl (Q0 rfl) rfl rfl rfl rfl (cs:=[_]) rfl Q31 Q4R rfl rfl (xP hok 2 rfl (Qz hok 3 rfl rfl rfl (Q0 rfl) rfl rfl rfl Q4g (Q1R hok 4 1 2 rfl rfl rfl (Q0 rfl) rfl rfl rfl rfl (cs:=[_]) rfl Q31 Q4R rfl rfl (xP hok 5 rfl (xS hok 6 rfl (wl_shellOut 2 rfl (fun zz24 hzz24=>?_))))))))))
   obtain ⟨rr24,hrr24⟩:=Q5x hzz24 hx24
   refine Q1r 3 u1_15 rfl rfl rfl (Q0 rfl) rfl rfl rfl rfl rfl (Q1X hrr24) Q1s Q1G (fun g24 eg24=>?_)
   subst eg24
   refine Q3 (QT [] [2] rfl rfl (Qz hok 7 rfl rfl rfl (Q0 rfl) rfl rfl rfl Q5e (xS hok 8 rfl ?_)))
   obtain ⟨rr26,hrr26⟩:=Q5x hzz24 hx26
   refine Q2l (.sli 3 R_V rr26.1 rr26.2 x26.args) (fun F w hφ=>T_FactD_read _ _ F w ((hφ _ (QS (k:=0) rfl)) u1_15 _ hrr26 (Nat.le_refl _)) _ (QS (k:=0) rfl)) (QU Q4W 3 u1_15 2 rfl rfl rfl (Q0 rfl) rfl rfl rfl hrr26 Q1Z Q41 (v:=fun _=>.slice rr26.1 x26.args.length rr26.2) (fun _=>rfl) (fun _=>rfl) (fun _ _=>(Q3 (QT [1] [2,2] rfl rfl (xS hok 9 rfl (wC [] [0,1,2,3,4] rfl fn_93 rfl (Clone93f_s rr26.1 rr26.2 x26.args hg27) (asK [0] rfl) rfl (H':=[_,_,_,_,_]) rfl ?_))))))
   rintro _ _ _ ⟨p27,c27,rfl,rfl,rfl⟩
   refine Q3 (QT [0,1] [3,3] rfl rfl (xS hok 10 rfl ?_))
   obtain ⟨rr28,hrr28⟩:=Q5x hzz24 hx28
   refine Q2c 4 u1_15 rfl rfl rfl (Q0 rfl) rfl rfl rfl rfl rfl (Q1X hrr28) Q1s Q1G (Q3 (QT [0,1] [] rfl rfl (Qz hok 11 rfl rfl rfl (Q0 rfl) rfl rfl rfl Q5e (xS hok 12 rfl ?_))))
   obtain ⟨rr1007,hrr1007⟩:=Q5x hzz24 hx1007
   refine Q55 (u:=((⟨x1007.id,x1007.ty,x26.args⟩ : FactD),(p27,c27))) 4 u1_15 2 rfl rfl rfl rfl rfl hrr1007 rfl rfl Q1Z rfl rfl (fun F w hφ ds hd=>by cases hd; rfl) rfl (H':=[_,_,_,_,_,_]) rfl (Q2l (Q89 Qf QO (zz24.set u1_15 ((⟨x1007.id,x1007.ty,x26.args⟩ : FactD),(p27,c27))) (u1_15 + 1)) (fun F w hφ=>later_set (hφ _ (QS (k:=1) rfl))) (Qv [QR Qf ((zz24.take u1_15) ++ [((⟨x1007.id,x1007.ty,x26.args⟩ : FactD),(p27,c27))]) none,_,_,_,_] (fun _ h=>Qo.bagPush (T:=Qf) (x:=(⟨x1007.id,x1007.ty,x26.args⟩ : FactD)) (r:=(p27,c27)) (zs:=zz24.take u1_15) (H:=[_,_,_,_,_]) h 0 rfl) (Q15 0 (φ':=QR Qf ((zz24.set u1_15 ((⟨x1007.id,x1007.ty,x26.args⟩ : FactD),(p27,c27))).take (u1_15 + 1)) none) rfl (by rw [take_setZ hrr1007]) (H':=[_,_,_,_,_]) rfl ?_)))
   have hzs12:List.map (fun x:FactD × (Option Addr × Nat)=>x.1) (zz24.set u1_15 ((⟨x1007.id,x1007.ty,x26.args⟩ : FactD),(p27,c27))) = u1_1_f2_l.set u1_15 (⟨x1007.id,x1007.ty,x26.args⟩ : FactD):=Q54 hzz24
   refine Q3 (QT [1,2] [] rfl rfl (Q19 hok rfl (Qa (Q2 (Q5 [15,14,2,1] (S':=[_,_,_,_]) rfl (Q1 (wP rfl ?_)))))))
   obtain ⟨hg30,hm⟩:=Qq hm
   refine Qr (d:=30) (v':=.int .i64 ((u1_15 + 1:Nat):Int)) (S':=[_,_,_,_]) rfl rfl (Qw (a:=u1_15) (b:=1) hg30) (Qs (S':=[_,_,_,_]) rfl rfl rfl rfl rfl (Q3 ?_))
   have hE:=(Option.some.inj hm).symm
   replace hE:=QZ hLu1 hE
   refine Q3o [_,_,Q6H Qf QO 61 3 (.slice (some ⟨g24,0,none⟩) l2.length c10) (u1_1_f2_l.set u1_15 (⟨x1007.id,x1007.ty,x26.args⟩ : FactD)) (u1_15 + 1),_] (fun _ h=>h.shellIn 3 0 0 rfl rfl rfl rfl hzs12) ?_
   refine Q1n (_,u1_15 + 1,(u1_1_f2_l.set u1_15 (⟨x1007.id,x1007.ty,x26.args⟩ : FactD))) (Nat.lt_succ_self _) hE [15,14,2,1] rfl (asK [] rfl) rfl
  ·
   replace hm:=QP hm hb16
   refine Q5 [2,1] (S':=[_,_]) rfl (QH (Q8 (Q8 (Qh ?_))))
   have hE:=(Option.some.inj hm).symm
   replace hE:=Qy hLu1 hE
   refine Ql (u1_1_f2_l,u1_15) hE [2,1] rfl (asK [] rfl) rfl
 ·
  rintro ⟨j_1_1_f2_l,j_1_sh2⟩ hE
  try dsimp only
  have hm:=hLj_1
  rw [hE] at hm
  try dsimp only at hm
  refine Q4 (Q1 (Q1e 1 0 rfl rfl rfl (Q0 rfl) rfl rfl rfl (cs:=[_,_,_,_]) rfl Q11 Q1W rfl rfl (wS 0 0 rfl Q11 (all':=[_,_,_,_]) rfl (H':=[_,_,_,_]) rfl (Q3 (Q2 (Q5 [2] (S':=[_]) rfl (Qn ?_)))))))
  obtain ⟨hgs13,hm⟩:=Qq hm
  refine Q3o [_,_,Qi Qf 61 3 (.slice p10 l2.length c10) j_1_1_f2_l,_] (fun _ h=>h.shellDone 2 rfl hgs13) ?_
  have hE:=(Option.some.inj hm).symm
  replace hE:=hE.symm
  subst hE
  refine Qp (Hr:=[_,_]) [2,3] Tryz.results46 (Q3y 0 rfl rfl Q11 Q1W rfl rfl) ⟨p10,c10,p6,c6,rfl,rfl,rfl⟩ (asK [] rfl) rfl rfl (.inl rfl)
theorem Q4X (N:Nat) (qg0:Nat) (qp1:Option Addr) (qn2:Nat) (qc3:Nat) (l0:List SessD) (a1:Int) (a2:Int) (a3:Int) (o0:Int) (o1:Int) (o4:List FactD) (o8:List V) (o10:Bool) (o11:Nat) (hm:Q1E N l0 a1 a2 a3 = some (o0,o1,o4,o8,o10,o11)):Q1v Tryz.prog 20 [.pointer (some ⟨qg0,0,none⟩),.int .i64 a2,.int .i64 a3] [] [.blk qg0 [.slice qp1 qn2 qc3,.int .i64 a1] 65,.own 35 6 Qt (.slice qp1 qn2 qc3) l0] (fun v Φr Hr=>∃ (o2:Option Addr) (o3:Nat) (o5:Nat) (o6:Option Addr) (o7:Nat) (o9:Nat),v = .tuple #[.agg #[.int .i64 o0,.int .i64 o1,.slice o2 o5 o3,.slice o6 o9 o7],.bool o10,.int .i64 ((o11:Nat):Int)] ∧ Φr = [] ∧ Hr = [Qi Qf 61 3 (.slice o2 o5 o3) o4,.own 149 3 R_V (.slice o6 o9 o7) o8,.blk qg0 [.slice qp1 qn2 qc3,.int .i64 a1] 65,.own 35 6 Qt (.slice qp1 qn2 qc3) l0]):=by
 unfold Q1E at hm
 refine Qx Tryz.func20 rfl Tryz.ntmps20 rfl (S:=[_,_,_]) rfl (fun C=>(Q4 (Q1 (Q2a rfl rfl rfl (Q0 rfl) rfl Q5Q rfl (fun g6=>(wP rfl (wP rfl (Q3 (Q2 (Q5 [6,0,1,2] (S':=[_,_,_,_]) rfl (Q4 (Q1 (wP rfl (wP rfl ?_))))))))))))))
 obtain ⟨⟨v14_0,v14_1⟩,hc14,hm⟩:=Q6 hm
 try dsimp only at hm
 refine wC [1,2] [0] rfl fn_45 rfl (Q60 N qg0 qp1 qn2 qc3 l0 a1 a2 _ _ hc14) (asK [] rfl) rfl (H':=[_]) rfl ?_
 rintro _ _ _ ⟨rfl,rfl,rfl⟩
 refine wP rfl (wP rfl (wP rfl (wP rfl (wP rfl (Q3 (Q2 (Q5 [8,9,6,0,2] (S':=[_,_,_,_,_]) rfl (Q4 (Q4 (Q1 (wP rfl (wP rfl (Qr (d:=18) (v':=.bool (v14_1 != 0)) (S':=[_,_,_,_,_,_]) rfl rfl (natne (a:=v14_1) (b:=0)) ?_)))))))))))))
 refine Q3 (Q2 (Q5 [18,8,9,6,0,2] (S':=[_,_,_,_,_,_]) rfl ?_))
 refine Qm rfl (fun hb18=>?_) (fun hb18=>?_)
 ·
  replace hm:=QQ hm hb18
  refine Q5 [8,6] (S':=[_,_]) rfl (Q4 (Q1 (Q1e 2 0 rfl rfl rfl (Q0 rfl) rfl rfl rfl (cs:=[_,_,_,_]) rfl Q11 Q1W rfl rfl (wP rfl (wS 2 0 rfl Q11 (all':=[_,_,_,_]) rfl (H':=[_,_,_]) rfl (wP rfl (Qs (S':=[_,_,_,_]) rfl rfl rfl rfl rfl (Q3 (Q2 (Q5 [8,7,6] (S':=[_,_,_]) rfl (Qn (Qb ?_))))))))))))
  have hE:=(Option.some.inj hm).symm
  obtain ⟨hE0,hF1⟩:=Prod.mk.inj hE
  obtain ⟨hE1,hF2⟩:=Prod.mk.inj hF1
  obtain ⟨hE2,hF3⟩:=Prod.mk.inj hF2
  obtain ⟨hE3,hF4⟩:=Prod.mk.inj hF3
  obtain ⟨hE4,hE5⟩:=Prod.mk.inj hF4
  clear hE hF1 hF2 hF3 hF4
  replace hE0:=hE0.symm
  subst hE0
  replace hE1:=hE1.symm
  subst hE1
  replace hE2:=hE2.symm
  subst hE2
  replace hE3:=hE3.symm
  subst hE3
  replace hE4:=hE4.symm
  subst hE4
  replace hE5:=hE5.symm
  subst hE5
  refine Q3o [Qi Qf 61 3 (.slice none 0 0) [],_,_,_] (fun _ h=>h.treeNil Qf 61 3) (Q6b 149 3 R_V ?_)
  refine Q52 (Hr:=[_,_,_,_]) [1,0,2,3] Tryz.results20 (Q3y 4 rfl rfl Q11 Q1W rfl rfl) (Qd rfl) (Qd rfl) ⟨none,0,0,none,0,0,rfl,rfl,rfl⟩ (asK [] rfl) rfl rfl (.inl rfl)
 ·
  replace hm:=QP hm hb18
  refine Q5 [9,6,0,2] (S':=[_,_,_,_]) rfl (Qj (Q2 (Q4 (Q4 (Q1 (wP rfl (wP rfl (wF rfl Q4t (wF rfl Q4r (wD 0 0 rfl Q1L Q3Q rfl (wP rfl ?_)))))))))))
  obtain ⟨hn27,hm⟩:=Qq hm
  obtain ⟨x27,hx27,hm⟩:=Q6 hm
  refine Q1r 1 v14_0.toNat rfl rfl rfl (Q0 rfl) rfl rfl rfl rfl (Q4F hn27) (Q1X hx27) QB QN (fun g27 eg27=>?_)
  subst eg27
  refine QU Q17 1 v14_0.toNat 0 rfl rfl rfl (Q0 rfl) rfl rfl rfl hx27 QN Q4O (v:=fun r28=>.agg #[.int .i64 (x27.id),.int .i64 (x27.seq),.int .i64 (x27.r.err),.int .i64 (x27.r.num),.slice r28.1.1 x27.r.facts.length r28.1.2,.slice r28.2.1 x27.r.said.length r28.2.2]) (fun _=>rfl) (fun _=>rfl) (fun r28 _=>(Q2a rfl rfl rfl (Q0 rfl) rfl Q4G rfl (fun g10=>(wS 0 0 rfl QN (all':=[_,_,_,_,_,_]) rfl (H':=[_,_,_,_]) rfl (Q3 (Q2 (Q5 [10,6,2] (S':=[_,_,_]) rfl (Qc (Q4 ?_)))))))))
  obtain ⟨bj_1,hm,hLj_1⟩:=Q6 hm
  refine Q14 (σ:=Bool) (fun j_1_29=>bj_1 = j_1_29) (fun j_1_29=>[(10,.pointer (some ⟨g10,0,none⟩)),(6,.pointer (some ⟨g6,0,none⟩)),(2,.int .i64 a3),(29,.bool j_1_29)]) (fun j_1_29=>[.sli 3 QO r28.1.1 r28.1.2 x27.r.facts,.sli 3 R_V r28.2.1 r28.2.2 x27.r.said]) (fun j_1_29=>[.blk g10 [.int .i64 (x27.id),.int .i64 (x27.seq),.int .i64 (x27.r.err),.int .i64 (x27.r.num),.slice r28.1.1 x27.r.facts.length r28.1.2,.slice r28.2.1 x27.r.said.length r28.2.2] 35,.blk g6 [.int .i64 0,.int .i64 0,.slice none 0 0,.slice none 0 0] 27,.blk qg0 [.slice (some ⟨g27,0,none⟩) qn2 qc3,.int .i64 a1] 65,.own 35 6 Qt (.slice (some ⟨g27,0,none⟩) qn2 qc3) l0]) ?_ ?_
  ·
   refine Q1 (wP rfl (wP rfl (wP rfl ?_)))
   refine QA (d:=32) (S':=[_,_,_,_,_]) rfl rfl (fun hs32=>?_) (fun hs32=>?_)
   ·
    replace hm:=QQ hm hs32
    refine wO rfl (wO rfl (wO rfl (wO rfl (wP rfl (wP rfl (Q3 ?_))))))
    have hE:=(Option.some.inj hm).symm
    refine QE [0,3,1,2] rfl (H':=[_,_,_,_]) rfl ?_
    refine Ql true hE [10,6,2,29] rfl (asK [0,1] rfl) rfl
   ·
    replace hm:=QP hm hs32
    refine wP rfl (wF rfl Q4h (wD 0 1 rfl Q1g Q1D rfl (wP rfl (wP rfl (wP rfl (Q3 ?_))))))
    have hE:=(Option.some.inj hm).symm
    refine QE [0,3,1,2] rfl (H':=[_,_,_,_]) rfl ?_
    refine Ql (decide (a3 < x27.seq)) hE [10,6,2,29] rfl (asK [0,1] rfl) rfl
  ·
   rintro j_1_29 hE
   try dsimp only
   have hm:=hLj_1
   rw [hE] at hm
   refine Qm rfl (fun hb29=>?_) (fun hb29=>?_)
   ·
    replace hm:=QQ hm hb29
    refine Q5 [6] (S':=[_]) rfl (Q4 (Q1 (Q1e 1 0 rfl rfl rfl (Q0 rfl) rfl rfl rfl (cs:=[_,_,_,_]) rfl Q11 Q1W rfl rfl (wS 1 0 rfl Q11 (all':=[_,_,_,_]) rfl (H':=[_,_,_,_]) rfl (wP rfl (wP rfl (Q3 (Q2 (Q5 [8,7,6] (S':=[_,_,_]) rfl (Qn (Qu (Qb ?_))))))))))))
    have hE:=(Option.some.inj hm).symm
    obtain ⟨hE0,hF1⟩:=Prod.mk.inj hE
    obtain ⟨hE1,hF2⟩:=Prod.mk.inj hF1
    obtain ⟨hE2,hF3⟩:=Prod.mk.inj hF2
    obtain ⟨hE3,hF4⟩:=Prod.mk.inj hF3
    obtain ⟨hE4,hE5⟩:=Prod.mk.inj hF4
    clear hE hF1 hF2 hF3 hF4
    replace hE0:=hE0.symm
    subst hE0
    replace hE1:=hE1.symm
    subst hE1
    replace hE2:=hE2.symm
    subst hE2
    replace hE3:=hE3.symm
    subst hE3
    replace hE4:=hE4.symm
    subst hE4
    replace hE5:=hE5.symm
    subst hE5
    refine Q3o [Qi Qf 61 3 (.slice none 0 0) [],_,_,_,_] (fun _ h=>h.treeNil Qf 61 3) (Q6b 149 3 R_V ?_)
    refine Q52 (Hr:=[_,_,_,_]) [1,0,4,5] Tryz.results20 (Q3y 3 rfl rfl Q11 Q1W rfl rfl) (Qd rfl) (Qd rfl) ⟨none,0,0,none,0,0,rfl,rfl,rfl⟩ (asK [] rfl) rfl rfl (.inl rfl)
   ·
    replace hm:=QP hm hb29
    refine Q5 [10,6,2] (S':=[_,_,_]) rfl (Q4 (Q1 (wP rfl (wF rfl Q4h (wD 0 1 rfl Q1g Q1D rfl (wP rfl (wP rfl (Q3 (Q2 (Q5 [39,10,6] (S':=[_,_,_]) rfl ?_))))))))))
    refine Qm rfl (fun hb39=>?_) (fun hb39=>?_)
    ·
     replace hm:=QQ hm hb39
     refine Q5 [10,6] (S':=[_,_]) rfl (Q4 (Q1 (wF rfl Q4b (Q1e 0 2 rfl rfl rfl (Q0 rfl) rfl rfl rfl (cs:=[_,_,_,_]) rfl Q11 Q1W rfl rfl ?_))))
     obtain ⟨v46,hc46,hm⟩:=Q6 hm
     refine wC [] [0,1,2,3] rfl fn_46 rfl (Q5F N x27.r.err x27.r.num r28.1.1 r28.1.2 x27.r.facts r28.2.1 r28.2.2 x27.r.said _ hc46) (asK [0,1] rfl) rfl (H':=[_,_,_,_]) rfl ?_
     rintro _ _ _ ⟨p46_0,c46_1,p46_2,c46_3,rfl,rfl,rfl⟩
     refine wS 3 0 rfl Q11 (all':=[_,_,_,_]) rfl (H':=[_,_,_,_,_,_]) rfl (wP rfl (wP rfl (Q3 (Q2 (Q5 [8,7,6] (S':=[_,_,_]) rfl (Qn (Qu (Qb ?_))))))))
     have hE:=(Option.some.inj hm).symm
     obtain ⟨hE0,hF1⟩:=Prod.mk.inj hE
     obtain ⟨hE1,hF2⟩:=Prod.mk.inj hF1
     obtain ⟨hE2,hF3⟩:=Prod.mk.inj hF2
     obtain ⟨hE3,hF4⟩:=Prod.mk.inj hF3
     obtain ⟨hE4,hE5⟩:=Prod.mk.inj hF4
     clear hE hF1 hF2 hF3 hF4
     replace hE0:=hE0.symm
     subst hE0
     replace hE1:=hE1.symm
     subst hE1
     replace hE2:=hE2.symm
     subst hE2
     replace hE3:=hE3.symm
     subst hE3
     replace hE4:=hE4.symm
     subst hE4
     replace hE5:=hE5.symm
     subst hE5
     refine Q52 (Hr:=[_,_,_,_]) [0,1,4,5] Tryz.results20 (Q3y 3 rfl rfl Q11 Q1W rfl rfl) (Qd rfl) (Qd rfl) ⟨p46_0,c46_1,x27.r.facts.length,p46_2,c46_3,x27.r.said.length,rfl,rfl,rfl⟩ (asK [] rfl) rfl rfl (.inl rfl)
    ·
     replace hm:=QP hm hb39
     refine Q5 [6] (S':=[_]) rfl (Qj (Qa (Q2 (Q4 (Q1 (Q1e 1 0 rfl rfl rfl (Q0 rfl) rfl rfl rfl (cs:=[_,_,_,_]) rfl Q11 Q1W rfl rfl (wS 1 0 rfl Q11 (all':=[_,_,_,_]) rfl (H':=[_,_,_,_]) rfl (wP rfl (wP rfl (Q3 (Q2 (Q5 [8,7,6] (S':=[_,_,_]) rfl (Qn ?_)))))))))))))
     have hE:=(Option.some.inj hm).symm
     obtain ⟨hE0,hF1⟩:=Prod.mk.inj hE
     obtain ⟨hE1,hF2⟩:=Prod.mk.inj hF1
     obtain ⟨hE2,hF3⟩:=Prod.mk.inj hF2
     obtain ⟨hE3,hF4⟩:=Prod.mk.inj hF3
     obtain ⟨hE4,hE5⟩:=Prod.mk.inj hF4
     clear hE hF1 hF2 hF3 hF4
     replace hE0:=hE0.symm
     subst hE0
     replace hE1:=hE1.symm
     subst hE1
     replace hE2:=hE2.symm
     subst hE2
     replace hE3:=hE3.symm
     subst hE3
     replace hE4:=hE4.symm
     subst hE4
     replace hE5:=hE5.symm
     subst hE5
     refine Q3o [Qi Qf 61 3 (.slice none 0 0) [],_,_,_,_] (fun _ h=>h.treeNil Qf 61 3) (Q6b 149 3 R_V ?_)
     refine Q52 (Hr:=[_,_,_,_]) [1,0,4,5] Tryz.results20 (Q3y 3 rfl rfl Q11 Q1W rfl rfl) (Qd rfl) (Qd rfl) ⟨none,0,0,none,0,0,rfl,rfl,rfl⟩ (asK [] rfl) rfl rfl (.inl rfl)
theorem Q6E (N:Nat) (qg0:Nat) (qp1:Option Addr) (qn2:Nat) (qc3:Nat) (l0:List SessD) (a1:Int) (a2:Int) (a3:Int) (a4:Int) (a5:Int) (qp4:Option Addr) (qc5:Nat) (l6:List FactD) (qp6:Option Addr) (qc7:Nat) (l7:List V) (o0:Nat) (o1:List SessD) (hm:Q5d N l0 a1 a2 a3 a4 a5 l6 l7 = some (o0,o1)):Q1v Tryz.prog 21 [.pointer (some ⟨qg0,0,none⟩),.int .i64 a2,.int .i64 a3,.agg #[.int .i64 a4,.int .i64 a5,.slice qp4 l6.length qc5,.slice qp6 l7.length qc7]] [.sli 3 QO qp4 qc5 l6,.sli 3 R_V qp6 qc7 l7] [.blk qg0 [.slice qp1 qn2 qc3,.int .i64 a1] 65,.own 35 6 Qt (.slice qp1 qn2 qc3) l0] (fun v Φr Hr=>v = .int .i64 ((o0:Nat):Int) ∧ Φr = [] ∧ Hr = [.blk qg0 [.slice qp1 qn2 qc3,.int .i64 a1] 65,.own 35 6 Qt (.slice qp1 qn2 qc3) o1]):=by
 unfold Q5d at hm
 refine Qx Tryz.func21 rfl Tryz.ntmps21 rfl (S:=[_,_,_,_]) rfl (fun C=>(Q4 (Q1 (wB rfl (fun g7=>(wP rfl (Q3 (Q2 (Q5 [7,0,1,2] (S':=[_,_,_,_]) rfl (Q4 (Q1 (wP rfl (wP rfl ?_)))))))))))))
 obtain ⟨⟨v14_0,v14_1⟩,hc14,hm⟩:=Q6 hm
 try dsimp only at hm
 refine wC [1,2] [0] rfl fn_45 rfl (Q60 N qg0 qp1 qn2 qc3 l0 a1 a2 _ _ hc14) (asK [] rfl) rfl (H':=[_]) rfl ?_
 rintro _ _ _ ⟨rfl,rfl,rfl⟩
 refine wP rfl (wP rfl (wP rfl (wP rfl (wP rfl (Q3 (Q2 (Q5 [10,9,7,0,2] (S':=[_,_,_,_,_]) rfl (Q4 (Qc (Q4 (Q1 (wP rfl (wP rfl ?_)))))))))))))
 refine Qr (d:=19) (v':=.bool (v14_1 != 0)) (S':=[_,_,_,_,_,_]) rfl rfl (natne (a:=v14_1) (b:=0)) (wP rfl (Q3 (Q2 (Q5 [17,10,9,7,0,2] (S':=[_,_,_,_,_,_]) rfl ?_))))
 refine Qm rfl (fun hb17=>?_) (fun hb17=>?_)
 ·
  replace hm:=QQ hm hb17
  refine Q5 [10] (S':=[_]) rfl (Q4 (Q1 (wP rfl (wP rfl (Q3 (Q2 (Q5 [8] (S':=[_]) rfl (Qn (Qu (Qb ?_))))))))))
  have hE:=(Option.some.inj hm).symm
  obtain ⟨hE0,hE1⟩:=Prod.mk.inj hE
  clear hE
  replace hE0:=hE0.symm
  subst hE0
  replace hE1:=hE1.symm
  subst hE1
  refine Qp (Hr:=[_,_]) [0,1] Tryz.results21 (Qd rfl) ⟨rfl,rfl,rfl⟩ (asK [] rfl) rfl rfl (.inl rfl)
 ·
  replace hm:=QP hm hb17
  refine Q5 [9,7,0,2] (S':=[_,_,_,_]) rfl (Q4 ?_)
  obtain ⟨bj_1,hm,hLj_1⟩:=Q6 hm
  refine Q14 (σ:=Bool) (fun j_1_21=>bj_1 = j_1_21) (fun j_1_21=>[(9,.int .i64 v14_0),(7,.pointer (some ⟨g7,0,none⟩)),(0,.pointer (some ⟨qg0,0,none⟩)),(2,.int .i64 a3),(21,.bool j_1_21)]) (fun j_1_21=>[.sli 3 QO qp4 qc5 l6,.sli 3 R_V qp6 qc7 l7]) (fun j_1_21=>[.blk g7 [.int .i64 a4,.int .i64 a5,.slice qp4 l6.length qc5,.slice qp6 l7.length qc7] 27,.blk qg0 [.slice qp1 qn2 qc3,.int .i64 a1] 65,.own 35 6 Qt (.slice qp1 qn2 qc3) l0]) ?_ ?_
  ·
   refine Q1 (wP rfl (wP rfl (wP rfl ?_)))
   refine QA (d:=24) (S':=[_,_,_,_,_,_]) rfl rfl (fun hs24=>?_) (fun hs24=>?_)
   ·
    replace hm:=QQ hm hs24
    refine wO rfl (wO rfl (wO rfl (wO rfl (wO rfl (wO rfl (wO rfl (wO rfl (wO rfl (wO rfl (wO rfl (wP rfl (wP rfl (Q3 ?_)))))))))))))
    have hE:=(Option.some.inj hm).symm
    refine QE [2,0,1] rfl (H':=[_,_,_]) rfl ?_
    refine Ql true hE [9,7,0,2,21] rfl (asK [0,1] rfl) rfl
   ·
    replace hm:=QP hm hs24
    refine wP rfl (wP rfl (wP rfl (wF rfl Q4t (wF rfl Q4r (wD 0 0 rfl Q1L Q3Q rfl (wP rfl ?_))))))
    obtain ⟨hn32,hm⟩:=Qq hm
    obtain ⟨x32,hx32,hm⟩:=Q6 hm
    refine Q1r 1 v14_0.toNat rfl rfl rfl (Q0 rfl) rfl rfl rfl rfl (Q4F hn32) (Q1X hx32) QB QN (fun g32 eg32=>?_)
    subst eg32
    refine wF rfl Q4h (QU Q17 1 v14_0.toNat 1 rfl rfl rfl (Q0 rfl) rfl rfl rfl hx32 Q1g Q1D (v:=fun r34=>.int .i64 (x32.seq)) (fun _=>rfl) (fun _=>rfl) (fun r34 _=>(wP rfl (wP rfl (wP rfl (Q3 ?_))))))
    have hE:=(Option.some.inj hm).symm
    refine QE [2,0,1] rfl (H':=[_,_,_]) rfl ?_
    refine Ql (decide (a3 ≤ x32.seq)) hE [9,7,0,2,21] rfl (asK [2,3] rfl) rfl
  ·
   rintro j_1_21 hE
   try dsimp only
   have hm:=hLj_1
   rw [hE] at hm
   refine Qm rfl (fun hb21=>?_) (fun hb21=>?_)
   ·
    replace hm:=QQ hm hb21
    refine Q5 [] (S':=[]) rfl (Q4 (Q1 (wP rfl (Q3 (Q2 (Qn (Qu (Qb ?_))))))))
    have hE:=(Option.some.inj hm).symm
    obtain ⟨hE0,hE1⟩:=Prod.mk.inj hE
    clear hE
    replace hE0:=hE0.symm
    subst hE0
    replace hE1:=hE1.symm
    subst hE1
    refine Qp (Hr:=[_,_]) [1,2] Tryz.results21 (Qd rfl) ⟨rfl,rfl,rfl⟩ (asK [] rfl) rfl rfl (.inl rfl)
   ·
    replace hm:=QP hm hb21
    refine Q5 [9,7,0,2] (S':=[_,_,_,_]) rfl (Qj (Qa (Q2 (Q4 ?_))))
    obtain ⟨v51,hc51,hm⟩:=Q6 hm
    obtain ⟨hn52,hm⟩:=Qq hm
    obtain ⟨x52,hx52,hm⟩:=Q6 hm
    obtain ⟨hn54,hm⟩:=Qq hm
    obtain ⟨x54,hx54,hm⟩:=Q6 hm
    refine Q1l [0,1,2,3,4,5,6,7,8,9,10,11,12,13,15,16,18,19] rfl rfl (fun hok=>(xP hok 0 rfl (xP hok 1 rfl (Qz hok 2 rfl rfl rfl (Q0 rfl) rfl rfl rfl Q4t (Qz hok 3 rfl rfl rfl (Q0 rfl) rfl rfl rfl Q4r (Q1R hok 4 1 0 rfl rfl rfl (Q0 rfl) rfl rfl rfl rfl (cs:=[_]) rfl Q1L Q3Q rfl rfl (xP hok 5 rfl (xP hok 6 rfl (xP hok 7 rfl (Qz hok 8 rfl rfl rfl (Q0 rfl) rfl rfl rfl Q4t (Qz hok 9 rfl rfl rfl (Q0 rfl) rfl rfl rfl Q4r (Q1R hok 10 1 0 rfl rfl rfl (Q0 rfl) rfl rfl rfl rfl (cs:=[_]) rfl Q1L Q3Q rfl rfl (xP hok 11 rfl (xP hok 12 rfl ?_))))))))))))))
    refine Q1R hok 13 0 0 rfl rfl rfl (Q0 rfl) rfl rfl rfl rfl (cs:=[_,_,_,_]) rfl Q11 Q1W rfl rfl (xS hok 14 rfl (wC [] [0,1,2] rfl fn_46 rfl (Q5F N a4 a5 qp4 qc5 l6 qp6 qc7 l7 _ hc51) (asK [0,1] rfl) rfl (H':=[_,_,_]) rfl ?_))
    rintro _ _ _ ⟨p51_0,c51_1,p51_2,c51_3,rfl,rfl,rfl⟩
    refine Q3 (QT [0,1] [3,3] rfl rfl (Q7m hok 15 4 v14_0.toNat rfl rfl rfl (Q0 rfl) rfl rfl rfl rfl rfl (Q4F hn52) (Q1X hx52) QB QN (fun g52 eg52=>?_)))
    subst eg52
    refine Qz hok 16 rfl rfl rfl (Q0 rfl) rfl rfl rfl Q4h (xS hok 17 rfl (Q55 (u:=(⟨x52.id,a3,x52.r⟩ : SessD)) 4 v14_0.toNat 1 rfl rfl rfl rfl rfl hx52 rfl rfl Q1g rfl rfl (fun F w hφ ds hd=>by obtain ⟨rx52,rfl,hf⟩:=hd; exact ⟨((rx52.1.1,rx52.1.2),(rx52.2.1,rx52.2.2)),rfl,(QD (hf _ (QS (k:=0) rfl)) (QD (hf _ (QS (k:=1) rfl)) Q1f))⟩) rfl (H':=[_,_,_,_,_]) rfl (Q3 (QT [0,1] [2] rfl rfl (Q1d hok 18 4 v14_0.toNat rfl rfl rfl (Q0 rfl) rfl rfl rfl rfl rfl (Q4F hn54) (Q1X hx54) QB QN (Qz hok 19 rfl rfl rfl (Q0 rfl) rfl rfl rfl Q4b (xS hok 20 rfl (QG 0 rfl (fun hzt4 _=>(Q4q 4 (v':=.agg #[.int .i64 a4,.int .i64 a5,.slice p51_0 v51.length c51_1,.slice p51_2 l7.length c51_3]) rfl (by rw [hzt4]) (Q15 0 (φ':=Qi Qf 61 3 (.slice p51_0 v51.length c51_1) v51) rfl (by rw [hzt4]) (H':=[_,_,_,_,_]) rfl (wl_freeze 0 rfl (H':=[_,_,_,_]) rfl (Q2l (.sli 3 QO p51_0 c51_1 v51) (fun F w hφ=>Q1M Q6a (hφ _ (QS (k:=0) rfl)) (fun _ h=>h) (fun _ h=>h)) (wl_freeze 0 rfl (H':=[_,_,_]) rfl ?_))))))))))))))
    refine Q2l (.sli 3 R_V p51_2 c51_3 l7) (fun F w hφ=>Q5k (hφ _ (QS (k:=0) rfl))) (Q55 (u:=(⟨x54.id,x54.seq,(⟨a4,a5,v51,l7⟩ : ReplyD)⟩ : SessD)) 2 v14_0.toNat 2 rfl rfl rfl rfl rfl hx54 rfl rfl Q11 rfl rfl (fun F w hφ ds hd=>by obtain ⟨rx54,rfl,hf⟩:=hd; exact ⟨((p51_0,c51_1),(p51_2,c51_3)),rfl,(QD (hφ _ (QS (k:=2) rfl)) (QD (hφ _ (QS (k:=0) rfl)) Q1f))⟩) rfl (H':=[_,_,_]) rfl (Q3 (QT [4,5] [] rfl rfl (Q19 hok rfl (Q2 (Q5 [] (S':=[]) rfl (Q4 (Q1 (wP rfl (Q3 (Q2 (Qn ?_))))))))))))
    have hE:=(Option.some.inj hm).symm
    obtain ⟨hE0,hE1⟩:=Prod.mk.inj hE
    clear hE
    replace hE0:=hE0.symm
    subst hE0
    replace hE1:=hE1.symm
    subst hE1
    refine Qp (Hr:=[_,_]) [1,2] Tryz.results21 (Qd rfl) ⟨rfl,rfl,rfl⟩ (asK [] rfl) rfl rfl (.inl rfl)
theorem Delete47_n (p:Option Addr) (c k:Nat) (L:List SessD) (hk:k < L.length):Q1v Tryz.prog 47 [.slice p L.length c,.int .i64 ((k:Nat):Int),.int .i64 ((k + 1:Nat):Int)] [] [.own 35 6 Qt (.slice p L.length c) L] (fun v Φr Hr=>∃ p' c',v = .slice p' (L.take k ++ L.drop (k + 1)).length c' ∧ Φr = [] ∧ Hr = [.own 35 6 Qt v (L.take k ++ L.drop (k + 1))]):=by
 refine Qx Tryz.func47 rfl Tryz.ntmps47 rfl (S:=[_,_,_]) rfl (fun C=>(wc_ownSome 0 rfl (by omega) (fun g0 e0 hc1 hc2=>?_)))
 subst e0
 refine Q4 (Q1 (wP rfl (Q3 (Q2 (Q4 (Q1 (wP rfl (wP rfl (wP rfl (wP rfl (wN rfl QB (wl_slice3 rfl rfl rfl (Q0 rfl) rfl rfl rfl rfl rfl rfl rfl rfl QB QN (by omega) (by omega) (by omega) (fun a13=>(Q3 ?_))))))))))))))
 refine Q2 (Q5 [6,0,1,2] (S':=[_,_,_,_]) rfl (Q4 (Q4 (Q1 (wP rfl (wP rfl (wP rfl (Q3 (Q2 (Q5 [16,6,0,1,2] (S':=[_,_,_,_,_]) rfl ?_))))))))))
 refine Qm rfl (fun h16=>?_) (fun h16=>?_)
 ·
  replace h16:=eq_of_beq h16
  exfalso
  omega
 ·
  replace h16:=ne_of_beq_false h16
  refine Qj (Q2 (Q4 (Q1 (wP rfl (wN rfl QB (wP rfl (Q3 (Q2 (Q5 [7,16,6,0,1,2] (S':=[_,_,_,_,_,_]) rfl (Q4 ?_))))))))))
  refine Q14 (σ:=Addr) (fun a25=>k + 1 < c → a25 = ⟨g0,(k + 1) * 6,none⟩) (fun a25=>[(0,.slice (some ⟨g0,0,none⟩) ((L.take k ++ L.drop (k + 1)).length) c),(7,.int .i64 ((L.length:Nat):Int)),(16,.bool (((k:Nat):Int) == ((k + 1:Nat):Int))),(6,.slice none 0 0),(1,.int .i64 ((k:Nat):Int)),(2,.int .i64 ((k + 1:Nat):Int))]) (fun a25=>[]) (fun a25=>[.own 35 6 Qt (.slice (some ⟨g0,0,none⟩) ((L.take k ++ L.drop (k + 1)).length) c) (L.take k ++ L.drop (k + 1))]) ?_ ?_
  ·
   refine Q1l [0,1,3,4] rfl rfl (fun hok=>(xP hok 0 rfl (xP hok 1 rfl (xP hok 3 rfl (xP hok 4 rfl ?_)))))
   refine wx_step2 hok 2 5 rfl rfl rfl rfl rfl rfl ?_ ?_
   ·
    refine Q4T rfl rfl rfl (Q0 rfl) rfl rfl rfl rfl QB QN (by omega) (fun _ h=>by cases h; rfl) (Q3 (QT [] [] rfl rfl (xS hok 5 rfl (Q7d rfl rfl rfl (Q0 rfl) rfl rfl rfl rfl QB QN (by omega) (by omega) (fun a25 ha25=>(Q3 (QT [] [] rfl rfl (xS hok 6 rfl (Q6X 0 k (k + 1) rfl rfl rfl (Q0 rfl) rfl rfl rfl rfl (by omega) (by omega) (fun h=>ha25 (by omega)) QB Q6Q (H2:=[.own 35 6 Qt (.slice (some ⟨g0,0,none⟩) ((L.take k ++ L.drop (k + 1)).length) c) (L.take k ++ L.drop (k + 1))]) rfl (fun _=>(Q3 (QT [] [] rfl rfl (xS hok 7 rfl (Qs (S':=[_,_,_,_,_,_,_,_,_,_,_,_]) rfl rfl rfl rfl rfl (Q3 ?_)))))))))))))))
    refine QT [] [] rfl rfl (Q19 hok rfl ?_)
    refine Ql (a25) ha25 [0,7,16,6,1,2] rfl (asK [] rfl) rfl
   ·
    refine Q7d rfl rfl rfl (Q0 rfl) rfl rfl rfl rfl QB QN (by omega) (by omega) (fun a25 ha25=>(Q3 (QT [] [] rfl rfl (xS hok 2 rfl (Q4T rfl rfl rfl (Q0 rfl) rfl rfl rfl rfl QB QN (by omega) (fun _ h=>by cases h; rfl) (Q3 (QT [] [] rfl rfl (xS hok 6 rfl (Q6X 0 k (k + 1) rfl rfl rfl (Q0 rfl) rfl rfl rfl rfl (by omega) (by omega) (fun h=>ha25 (by omega)) QB Q6Q (H2:=[.own 35 6 Qt (.slice (some ⟨g0,0,none⟩) ((L.take k ++ L.drop (k + 1)).length) c) (L.take k ++ L.drop (k + 1))]) rfl (fun _=>(Q3 (QT [] [] rfl rfl (xS hok 7 rfl (Qs (S':=[_,_,_,_,_,_,_,_,_,_,_,_]) rfl rfl rfl rfl rfl (Q3 ?_)))))))))))))))
    refine QT [] [] rfl rfl (Q19 hok rfl ?_)
    refine Ql (a25) ha25 [0,7,16,6,1,2] rfl (asK [] rfl) rfl
  ·
   rintro a25 ha25
   try dsimp only
   refine Q4 (Q1 (wP rfl (wP rfl (wN rfl QB (wP rfl (wl_sliceMid rfl rfl rfl (Q0 rfl) rfl rfl rfl rfl rfl rfl QB QN (by simp; omega) (by omega) (fun a31 ha31=>(wl_clearTail 0 rfl rfl rfl rfl rfl (fun h=>ha31 (by simp at h ⊢; omega)) (by simp; omega) QB Q4G rfl rfl rfl (Q3 (Q2 (Q5 [0,7,16,6,1,2] (S':=[_,_,_,_,_,_]) rfl (Q4 (Q1 (wP rfl ?_))))))))))))))
   refine Qs (S':=[_,_,_,_,_,_]) rfl rfl rfl rfl rfl (Q3 (Q2 (Q5 [6,0,7,16,1,2] (S':=[_,_,_,_,_,_]) rfl (Qn (Qp (Hr:=[.own 35 6 Qt (.slice (some ⟨g0,0,none⟩) ((L.take k ++ L.drop (k + 1)).length) c) (L.take k ++ L.drop (k + 1))]) [0] Tryz.results47 (Qd rfl) ?_ (asK [] rfl) rfl rfl (.inl rfl))))))
   exact ⟨_,_,rfl,rfl,rfl⟩
theorem Delete47_s (p:Option Addr) (c:Nat) (i:Int) (L:List SessD) (h0 : 0 ≤ i) (hk:i.toNat < L.length):Q1v Tryz.prog 47 [.slice p L.length c,.int .i64 i,.int .i64 (i + 1)] [] [.own 35 6 Qt (.slice p L.length c) L] (fun v Φr Hr=>∃ p' c',v = .slice p' (L.take i.toNat ++ L.drop (i.toNat + 1)).length c' ∧ Φr = [] ∧ Hr = [.own 35 6 Qt v (L.take i.toNat ++ L.drop (i.toNat + 1))]):=by
  obtain ⟨k,rfl⟩:=Int.eq_ofNat_of_zero_le h0
  have e1:((k:Int) + 1) = ((k + 1:Nat):Int):=by omega
  rw [e1]
  exact Delete47_n p c k L hk
theorem Q7I (N:Nat) (qg0:Nat) (qp1:Option Addr) (qn2:Nat) (qc3:Nat) (l0:List SessD) (a1:Int) (a2:Int) (o0:Nat) (o3:List SessD) (hm:Q1U N l0 a1 a2 = some (o0,o3)):Q1v Tryz.prog 22 [.pointer (some ⟨qg0,0,none⟩),.int .i64 a2] [] [.blk qg0 [.slice qp1 qn2 qc3,.int .i64 a1] 65,.own 35 6 Qt (.slice qp1 qn2 qc3) l0] (fun v Φr Hr=>∃ (o1:Option Addr) (o2:Nat) (o4:Nat),v = .int .i64 ((o0:Nat):Int) ∧ Φr = [] ∧ Hr = [.blk qg0 [.slice o1 o4 o2,.int .i64 a1] 65,.own 35 6 Qt (.slice o1 o4 o2) o3]):=by
 unfold Q1U at hm
 refine Qx Tryz.func22 rfl Tryz.ntmps22 rfl (S:=[_,_]) rfl (fun C=>(Q4 (Q1 (wP rfl (Q3 (Q2 (Q5 [0,1] (S':=[_,_]) rfl (Q4 (Q1 (wP rfl (wP rfl ?_)))))))))))
 obtain ⟨⟨v10_0,v10_1⟩,hc10,hm⟩:=Q6 hm
 try dsimp only at hm
 refine wC [0,1] [] rfl fn_45 rfl (Q60 N qg0 qp1 qn2 qc3 l0 a1 a2 _ _ hc10) (asK [] rfl) rfl (H':=[]) rfl ?_
 rintro _ _ _ ⟨rfl,rfl,rfl⟩
 refine wP rfl (wP rfl (wP rfl (wP rfl (wP rfl (Q3 (Q2 (Q5 [6,5,0] (S':=[_,_,_]) rfl (Q4 ?_))))))))
 obtain ⟨bj_1,hm,hLj_1⟩:=Q6 hm
 refine Q14 (σ:=(List SessD) × (Option Addr) × Nat × Nat) (fun (j_1_r0_f0_l,j_1_r0_f0_p,j_1_r0_f0_c,j_1_r0_f0_n)=>bj_1 = j_1_r0_f0_l) (fun (j_1_r0_f0_l,j_1_r0_f0_p,j_1_r0_f0_c,j_1_r0_f0_n)=>[(6,.int .i64 ((v10_1:Nat):Int))]) (fun (j_1_r0_f0_l,j_1_r0_f0_p,j_1_r0_f0_c,j_1_r0_f0_n)=>[]) (fun (j_1_r0_f0_l,j_1_r0_f0_p,j_1_r0_f0_c,j_1_r0_f0_n)=>[.blk qg0 [.slice j_1_r0_f0_p j_1_r0_f0_n j_1_r0_f0_c,.int .i64 a1] 65,.own 35 6 Qt (.slice j_1_r0_f0_p j_1_r0_f0_n j_1_r0_f0_c) j_1_r0_f0_l]) ?_ ?_
 ·
  refine Q4 (Q1 (wP rfl (wP rfl (Qr (d:=14) (v':=.bool (v10_1 == 0)) (S':=[_,_,_,_]) rfl rfl (Q77 (a:=v10_1) (b:=0)) (Q3 (Q2 (Q5 [14,6,5,0] (S':=[_,_,_,_]) rfl ?_)))))))
  refine Qm rfl (fun hb14=>?_) (fun hb14=>?_)
  ·
   replace hm:=QQ hm hb14
   refine Q5 [6,5,0] (S':=[_,_,_]) rfl (Q1 (wP rfl (wP rfl (wP rfl (wF rfl Q4t (wF rfl Q4r (wD 0 0 rfl Q1L Q3Q rfl (wP rfl (wP rfl (wP rfl ?_))))))))))
   obtain ⟨hg23,hm⟩:=Qq hm
   refine Qr (d:=23) (v':=.int .i64 (v10_0 + 1)) (S':=[_,_,_,_,_,_,_,_,_,_,_]) rfl rfl (i64_in hg23) (Q2n 1 rfl (fun hzqn2 _=>?_))
   subst hzqn2
   obtain ⟨hg24,hm⟩:=Qq hm
   obtain ⟨hgk24,hm⟩:=Qq hm
   refine wC [1] [0] rfl fn_47 rfl (Delete47_s qp1 qc3 v10_0 l0 hg24 hgk24) (asK [] rfl) rfl (H':=[_]) rfl ?_
   rintro _ _ _ ⟨p24,c24,rfl,rfl,rfl⟩
   refine wP rfl (wF rfl Q4t (wF rfl Q4r (wS 1 0 rfl Q1L (all':=[_,_]) rfl (H':=[_,_]) rfl (Q3 ?_))))
   have hE:=(Option.some.inj hm).symm
   refine QE [1,0] rfl (H':=[_,_]) rfl ?_
   refine Ql (l0.take v10_0.toNat ++ l0.drop (v10_0.toNat + 1),p24,c24,(l0.take v10_0.toNat ++ l0.drop (v10_0.toNat + 1)).length) hE [6] rfl (asK [] rfl) rfl
  ·
   replace hm:=QP hm hb14
   refine Q5 [6] (S':=[_]) rfl (Qj ?_)
   have hE:=(Option.some.inj hm).symm
   refine Ql (l0,qp1,qc3,qn2) hE [6] rfl (asK [] rfl) rfl
 ·
  rintro ⟨j_1_r0_f0_l,j_1_r0_f0_p,j_1_r0_f0_c,j_1_r0_f0_n⟩ hE
  try dsimp only
  have hm:=hLj_1
  rw [hE] at hm
  refine Q4 (Q1 (wP rfl (wP rfl (Q3 (Q2 (Q5 [4] (S':=[_]) rfl (Qn ?_)))))))
  have hE:=(Option.some.inj hm).symm
  obtain ⟨hE0,hE1⟩:=Prod.mk.inj hE
  clear hE
  replace hE0:=hE0.symm
  subst hE0
  replace hE1:=hE1.symm
  subst hE1
  refine Qp (Hr:=[_,_]) [0,1] Tryz.results22 (Qd rfl) ⟨j_1_r0_f0_p,j_1_r0_f0_c,j_1_r0_f0_n,rfl,rfl,rfl⟩ (asK [] rfl) rfl rfl (.inl rfl)
theorem Q3X (N:Nat)  (o0:Bool) (hm:Q20 N = some o0):Q1v Tryz.prog 6 [] [] [] (fun v Φr Hr=>v = .bool o0 ∧ Φr = [] ∧ Hr = []):=by
 unfold Q20 at hm
 refine Qx Tryz.func6 rfl Tryz.ntmps6 rfl (S:=[]) rfl (fun C=>(Q4 (Q1 (wP rfl (Q3 (Q2 (Q5 [] (S':=[]) rfl (Q4 (Q1 ?_)))))))))
 obtain ⟨_,hc21,hm⟩:=Q6 hm
 try dsimp only at hm
 refine wC [] [] rfl fn_8 rfl (Q8l N  hc21) (asK [] rfl) rfl (H':=[]) rfl ?_
 rintro _ _ _ ⟨c21_0,rfl,rfl,rfl⟩
 refine wP rfl (Q3 (Q2 (Q5 [1] (S':=[_]) rfl (Q4 (Q1 (wP rfl (QM 35 6 Qt ?_)))))))
 obtain ⟨⟨v24_0,v24_1,v24_2,v24_3⟩,hc24,hm⟩:=Q6 hm
 try dsimp only at hm
 refine wC [1,0] [] rfl fn_19 rfl (Q6G N c21_0 none 0 0 [] 1 _ _ _ _ hc24) (asK [] rfl) rfl (H':=[]) rfl ?_
 rintro _ _ _ ⟨p24_0,c24_1,c24_2,rfl,rfl,rfl⟩
 refine wP rfl (wP rfl (wP rfl (wP rfl (wP rfl (Q3 (Q2 (Q5 [3,2,1] (S':=[_,_,_]) rfl (Q4 (Q1 (wP rfl ?_))))))))))
 obtain ⟨⟨v29_0,v29_1,v29_2,v29_3,v29_4,v29_5⟩,hc29,hm⟩:=Q6 hm
 try dsimp only at hm
 refine wC [0,1] [] rfl fn_20 rfl (Q4X N c21_0 p24_0 c24_2 c24_1 v24_2 v24_3 1 4 _ _ _ _ _ _ hc29) (asK [] rfl) rfl (H':=[]) rfl ?_
 rintro _ _ _ ⟨p29_0,c29_1,c29_2,p29_3,c29_4,c29_5,rfl,rfl,rfl⟩
 refine wP rfl (wP rfl (wP rfl (wP rfl (Q2a rfl rfl rfl (Q0 rfl) rfl Q5Q rfl (fun g4=>(wS 0 0 rfl Q11 (all':=[_,_,_,_]) rfl (H':=[_,_,_,_,_]) rfl (wP rfl (wP rfl (Q3 (Q2 (Q5 [6,5,3,2,1] (S':=[_,_,_,_,_]) rfl (Q4 (Q1 (wP rfl ?_))))))))))))))
 refine Q2t rfl rfl rfl (Q0 rfl) rfl Q5Q tP_27 rfl (out:=[_,_,_,_]) rfl (Q2l (.sli 3 QO none 0 ([] : List FactD)) (fun _ _ _=>Q2B) (Q2l (.sli 3 R_V none 0 ([] : List V)) (fun _ _ _=>Q2B) ?_))
 obtain ⟨⟨v35_0,v35_1⟩,hc35,hm⟩:=Q6 hm
 try dsimp only at hm
 refine wC [3,4] [0,1,2] rfl fn_21 rfl (Q6E N c21_0 p24_0 c24_2 c24_1 v24_2 v24_3 1 4 0 9 none 0 ([] : List FactD) none 0 ([] : List V) _ _ hc35) (asK [1,0] rfl) rfl (H':=[_,_,_]) rfl ?_
 rintro _ _ _ ⟨rfl,rfl,rfl⟩
 refine wP rfl (Q3 (Q2 (Q5 [7,6,5,3,2,1] (S':=[_,_,_,_,_,_]) rfl (Q4 (Q1 (wP rfl ?_))))))
 obtain ⟨⟨v38_0,v38_1,v38_2,v38_3,v38_4,v38_5⟩,hc38,hm⟩:=Q6 hm
 try dsimp only at hm
 refine wC [0,1] [2,3,4] rfl fn_20 rfl (Q4X N c21_0 p24_0 c24_2 c24_1 v35_1 v24_3 1 4 _ _ _ _ _ _ hc38) (asK [] rfl) rfl (H':=[_,_,_]) rfl ?_
 rintro _ _ _ ⟨p38_0,c38_1,c38_2,p38_3,c38_4,c38_5,rfl,rfl,rfl⟩
 refine wP rfl (wP rfl (wP rfl (wP rfl (Q2a rfl rfl rfl (Q0 rfl) rfl Q5Q rfl (fun g8=>(wS 0 0 rfl Q11 (all':=[_,_,_,_]) rfl (H':=[_,_,_,_,_,_,_,_]) rfl (wP rfl (wP rfl (Q3 (Q2 (Q5 [10,9,8,7,6,5,3,2,1] (S':=[_,_,_,_,_,_,_,_,_]) rfl (Q4 (Q1 (wP rfl ?_))))))))))))))
 obtain ⟨⟨v44_0,v44_1,v44_2,v44_3,v44_4,v44_5⟩,hc44,hm⟩:=Q6 hm
 try dsimp only at hm
 refine wC [3,4] [0,1,2,5,6,7] rfl fn_20 rfl (Q4X N c21_0 p24_0 c24_2 c24_1 v35_1 v24_3 1 3 _ _ _ _ _ _ hc44) (asK [] rfl) rfl (H':=[_,_,_,_,_,_]) rfl ?_
 rintro _ _ _ ⟨p44_0,c44_1,c44_2,p44_3,c44_4,c44_5,rfl,rfl,rfl⟩
 refine wP rfl (wP rfl (wP rfl (wP rfl (Q2a rfl rfl rfl (Q0 rfl) rfl Q5Q rfl (fun g11=>(wS 0 0 rfl Q11 (all':=[_,_,_,_]) rfl (H':=[_,_,_,_,_,_,_,_,_,_,_]) rfl (wP rfl (wP rfl (Q3 (Q2 (Q5 [13,10,9,8,7,6,5,3,2,1] (S':=[_,_,_,_,_,_,_,_,_,_]) rfl (Q4 (Q1 (wP rfl ?_))))))))))))))
 obtain ⟨⟨v50_0,v50_1,v50_2,v50_3,v50_4,v50_5⟩,hc50,hm⟩:=Q6 hm
 try dsimp only at hm
 refine wC [3,4] [0,1,2,5,6,7,8,9,10] rfl fn_20 rfl (Q4X N c21_0 p24_0 c24_2 c24_1 v35_1 v24_3 2 1 _ _ _ _ _ _ hc50) (asK [] rfl) rfl (H':=[_,_,_,_,_,_,_,_,_]) rfl ?_
 rintro _ _ _ ⟨p50_0,c50_1,c50_2,p50_3,c50_4,c50_5,rfl,rfl,rfl⟩
 refine wP rfl (wP rfl (wP rfl (wP rfl (Q2a rfl rfl rfl (Q0 rfl) rfl Q5Q rfl (fun g14=>(wS 0 0 rfl Q11 (all':=[_,_,_,_]) rfl (H':=[_,_,_,_,_,_,_,_,_,_,_,_,_,_]) rfl (wP rfl (wP rfl (Q3 (Q2 (Q5 [16,13,10,9,8,7,6,5,3,2,1] (S':=[_,_,_,_,_,_,_,_,_,_,_]) rfl (Q4 (Q1 (wP rfl ?_))))))))))))))
 refine Q2t rfl rfl rfl (Q0 rfl) rfl Q5Q tP_27 rfl (out:=[_,_,_,_]) rfl (Q2l (.sli 3 QO none 0 ([] : List FactD)) (fun _ _ _=>Q2B) (Q2l (.sli 3 R_V none 0 ([] : List V)) (fun _ _ _=>Q2B) ?_))
 obtain ⟨⟨v56_0,v56_1⟩,hc56,hm⟩:=Q6 hm
 try dsimp only at hm
 refine wC [3,4] [0,1,2,5,6,7,8,9,10,11,12,13] rfl fn_21 rfl (Q6E N c21_0 p24_0 c24_2 c24_1 v35_1 v24_3 1 4 0 0 none 0 ([] : List FactD) none 0 ([] : List V) _ _ hc56) (asK [1,0] rfl) rfl (H':=[_,_,_,_,_,_,_,_,_,_,_,_]) rfl ?_
 rintro _ _ _ ⟨rfl,rfl,rfl⟩
 refine wP rfl (Q3 (Q2 (Q5 [17,16,13,10,9,8,7,6,5,3,2,1] (S':=[_,_,_,_,_,_,_,_,_,_,_,_]) rfl (Q4 (Q1 (wP rfl ?_))))))
 obtain ⟨⟨v58_0,v58_1⟩,hc58,hm⟩:=Q6 hm
 try dsimp only at hm
 refine wC [0,1] [2,3,4,5,6,7,8,9,10,11,12,13] rfl fn_22 rfl (Q7I N c21_0 p24_0 c24_2 c24_1 v56_1 v24_3 1 _ _ hc58) (asK [] rfl) rfl (H':=[_,_,_,_,_,_,_,_,_,_,_,_]) rfl ?_
 rintro _ _ _ ⟨p58_0,c58_1,c58_2,rfl,rfl,rfl⟩
 refine wP rfl (Q3 (Q2 (Q5 [18,17,16,13,10,9,8,7,6,5,3,2,1] (S':=[_,_,_,_,_,_,_,_,_,_,_,_,_]) rfl (Q4 (Q1 (wP rfl ?_))))))
 obtain ⟨⟨v61_0,v61_1,v61_2,v61_3⟩,hc61,hm⟩:=Q6 hm
 try dsimp only at hm
 refine wC [0,1] [2,3,4,5,6,7,8,9,10,11,12,13] rfl fn_19 rfl (Q6G N c21_0 p58_0 c58_2 c58_1 v58_1 v24_3 _ _ _ _ hc61) (asK [] rfl) rfl (H':=[_,_,_,_,_,_,_,_,_,_,_,_]) rfl ?_
 rintro _ _ _ ⟨p61_0,c61_1,c61_2,rfl,rfl,rfl⟩
 refine wP rfl (wP rfl (wP rfl (wP rfl (wP rfl (Q3 (Q2 (Q5 [20,19,18,17,16,13,10,9,8,7,6,5,3,2] (S':=[_,_,_,_,_,_,_,_,_,_,_,_,_,_]) rfl (Q4 ?_))))))))
 obtain ⟨bj_1,hm,hLj_1⟩:=Q6 hm
 unfold Q6k at hm
 refine Q14 (σ:=Bool) (fun j_1_0=>bj_1 = j_1_0) (fun j_1_0=>[(0,.bool j_1_0)]) (fun j_1_0=>[]) (fun j_1_0=>[]) ?_ ?_
 ·
  refine Q1 (wP rfl (wP rfl (wP rfl ?_)))
  refine QA (d:=66) (S':=[_,_,_,_,_,_,_,_,_,_,_,_,_,_,_,_]) rfl rfl (fun hs66=>?_) (fun hs66=>?_)
  ·
   replace hm:=QQ hm hs66
   refine wP rfl (wP rfl (Qr (d:=68) (v':=.bool (v24_1 == 0)) (S':=[_,_,_,_,_,_,_,_,_,_,_,_,_,_,_,_,_,_]) rfl rfl (Q77 (a:=v24_1) (b:=0)) (wP rfl (wP rfl ?_))))
   refine QA (d:=70) (S':=[_,_,_,_,_,_,_,_,_,_,_,_,_,_,_,_,_,_,_,_]) rfl rfl (fun hs70=>?_) (fun hs70=>?_)
   ·
    replace hm:=QQ hm hs70
    refine wP rfl (wP rfl (wP rfl (wP rfl ?_)))
    refine QA (d:=74) (S':=[_,_,_,_,_,_,_,_,_,_,_,_,_,_,_,_,_,_,_,_,_,_,_,_]) rfl rfl (fun hs74=>?_) (fun hs74=>?_)
    ·
     replace hm:=QQ hm hs74
     refine wP rfl (wP rfl (Qr (d:=76) (v':=.bool (v29_5 == 0)) (S':=[_,_,_,_,_,_,_,_,_,_,_,_,_,_,_,_,_,_,_,_,_,_,_,_,_,_]) rfl rfl (Q77 (a:=v29_5) (b:=0)) (wP rfl (wP rfl ?_))))
     refine QA (d:=78) (S':=[_,_,_,_,_,_,_,_,_,_,_,_,_,_,_,_,_,_,_,_,_,_,_,_,_,_,_,_]) rfl rfl (fun hs78=>?_) (fun hs78=>?_)
     ·
      replace hm:=QQ hm hs78
      refine wP rfl (wP rfl (Qr (d:=80) (v':=.bool (v35_0 == 0)) (S':=[_,_,_,_,_,_,_,_,_,_,_,_,_,_,_,_,_,_,_,_,_,_,_,_,_,_,_,_,_,_]) rfl rfl (Q77 (a:=v35_0) (b:=0)) (wP rfl (wP rfl ?_))))
      refine QA (d:=82) (S':=[_,_,_,_,_,_,_,_,_,_,_,_,_,_,_,_,_,_,_,_,_,_,_,_,_,_,_,_,_,_,_,_]) rfl rfl (fun hs82=>?_) (fun hs82=>?_)
      ·
       replace hm:=QQ hm hs82
       refine wF rfl Q86 (wD 8 1 rfl Q1g Q1D rfl (wP rfl (wP rfl (wP rfl ?_))))
       refine QA (d:=87) (S':=[_,_,_,_,_,_,_,_,_,_,_,_,_,_,_,_,_,_,_,_,_,_,_,_,_,_,_,_,_,_,_,_,_,_,_,_,_]) rfl rfl (fun hs87=>?_) (fun hs87=>?_)
       ·
        replace hm:=QQ hm hs87
        refine wP rfl (wP rfl (wP rfl ?_))
        refine QA (d:=90) (S':=[_,_,_,_,_,_,_,_,_,_,_,_,_,_,_,_,_,_,_,_,_,_,_,_,_,_,_,_,_,_,_,_,_,_,_,_,_,_,_,_]) rfl rfl (fun hs90=>?_) (fun hs90=>?_)
        ·
         replace hm:=QQ hm hs90
         refine wP rfl (wP rfl (Qr (d:=92) (v':=.bool (v38_5 == 0)) (S':=[_,_,_,_,_,_,_,_,_,_,_,_,_,_,_,_,_,_,_,_,_,_,_,_,_,_,_,_,_,_,_,_,_,_,_,_,_,_,_,_,_,_]) rfl rfl (Q77 (a:=v38_5) (b:=0)) (wP rfl (wP rfl ?_))))
         refine QA (d:=94) (S':=[_,_,_,_,_,_,_,_,_,_,_,_,_,_,_,_,_,_,_,_,_,_,_,_,_,_,_,_,_,_,_,_,_,_,_,_,_,_,_,_,_,_,_,_]) rfl rfl (fun hs94=>?_) (fun hs94=>?_)
         ·
          replace hm:=QQ hm hs94
          refine wP rfl (wP rfl (Qr (d:=96) (v':=.bool (v44_5 == 304)) (S':=[_,_,_,_,_,_,_,_,_,_,_,_,_,_,_,_,_,_,_,_,_,_,_,_,_,_,_,_,_,_,_,_,_,_,_,_,_,_,_,_,_,_,_,_,_,_]) rfl rfl (Q77 (a:=v44_5) (b:=304)) (wP rfl (wP rfl ?_))))
          refine QA (d:=98) (S':=[_,_,_,_,_,_,_,_,_,_,_,_,_,_,_,_,_,_,_,_,_,_,_,_,_,_,_,_,_,_,_,_,_,_,_,_,_,_,_,_,_,_,_,_,_,_,_,_]) rfl rfl (fun hs98=>?_) (fun hs98=>?_)
          ·
           replace hm:=QQ hm hs98
           refine wP rfl (wP rfl (Qr (d:=100) (v':=.bool (v50_5 == 303)) (S':=[_,_,_,_,_,_,_,_,_,_,_,_,_,_,_,_,_,_,_,_,_,_,_,_,_,_,_,_,_,_,_,_,_,_,_,_,_,_,_,_,_,_,_,_,_,_,_,_,_,_]) rfl rfl (Q77 (a:=v50_5) (b:=303)) (wP rfl (wP rfl ?_))))
           refine QA (d:=102) (S':=[_,_,_,_,_,_,_,_,_,_,_,_,_,_,_,_,_,_,_,_,_,_,_,_,_,_,_,_,_,_,_,_,_,_,_,_,_,_,_,_,_,_,_,_,_,_,_,_,_,_,_,_]) rfl rfl (fun hs102=>?_) (fun hs102=>?_)
           ·
            replace hm:=QQ hm hs102
            refine wP rfl (wP rfl (Qr (d:=104) (v':=.bool (v56_0 == 304)) (S':=[_,_,_,_,_,_,_,_,_,_,_,_,_,_,_,_,_,_,_,_,_,_,_,_,_,_,_,_,_,_,_,_,_,_,_,_,_,_,_,_,_,_,_,_,_,_,_,_,_,_,_,_,_,_]) rfl rfl (Q77 (a:=v56_0) (b:=304)) (wP rfl (wP rfl ?_))))
            refine QA (d:=106) (S':=[_,_,_,_,_,_,_,_,_,_,_,_,_,_,_,_,_,_,_,_,_,_,_,_,_,_,_,_,_,_,_,_,_,_,_,_,_,_,_,_,_,_,_,_,_,_,_,_,_,_,_,_,_,_,_,_]) rfl rfl (fun hs106=>?_) (fun hs106=>?_)
            ·
             replace hm:=QQ hm hs106
             refine wP rfl (wP rfl (Qr (d:=108) (v':=.bool (v58_0 == 0)) (S':=[_,_,_,_,_,_,_,_,_,_,_,_,_,_,_,_,_,_,_,_,_,_,_,_,_,_,_,_,_,_,_,_,_,_,_,_,_,_,_,_,_,_,_,_,_,_,_,_,_,_,_,_,_,_,_,_,_,_]) rfl rfl (Q77 (a:=v58_0) (b:=0)) (wP rfl (wP rfl ?_))))
             refine QA (d:=110) (S':=[_,_,_,_,_,_,_,_,_,_,_,_,_,_,_,_,_,_,_,_,_,_,_,_,_,_,_,_,_,_,_,_,_,_,_,_,_,_,_,_,_,_,_,_,_,_,_,_,_,_,_,_,_,_,_,_,_,_,_,_]) rfl rfl (fun hs110=>?_) (fun hs110=>?_)
             ·
              replace hm:=QQ hm hs110
              refine wP rfl (wP rfl (wP rfl (wP rfl ?_)))
              refine QA (d:=114) (S':=[_,_,_,_,_,_,_,_,_,_,_,_,_,_,_,_,_,_,_,_,_,_,_,_,_,_,_,_,_,_,_,_,_,_,_,_,_,_,_,_,_,_,_,_,_,_,_,_,_,_,_,_,_,_,_,_,_,_,_,_,_,_,_,_]) rfl rfl (fun hs114=>?_) (fun hs114=>?_)
              ·
               replace hm:=QQ hm hs114
               refine wP rfl (wP rfl (Qr (d:=116) (v':=.bool (v61_1 == 0)) (S':=[_,_,_,_,_,_,_,_,_,_,_,_,_,_,_,_,_,_,_,_,_,_,_,_,_,_,_,_,_,_,_,_,_,_,_,_,_,_,_,_,_,_,_,_,_,_,_,_,_,_,_,_,_,_,_,_,_,_,_,_,_,_,_,_,_,_]) rfl rfl (Q77 (a:=v61_1) (b:=0)) (wP rfl (wP rfl (Q3 ?_)))))
               have hE:=(Option.some.inj hm).symm
               refine QE [] rfl (H':=[]) rfl ?_
               refine Ql (v61_1 == 0) hE [0] rfl (asK [] rfl) rfl
              ·
               replace hm:=QP hm hs114
               refine wO rfl (wO rfl (wP rfl (wP rfl (Q3 ?_))))
               have hE:=(Option.some.inj hm).symm
               refine QE [] rfl (H':=[]) rfl ?_
               refine Ql false hE [0] rfl (asK [] rfl) rfl
             ·
              replace hm:=QP hm hs110
              refine wO rfl (wO rfl (wP rfl (wP rfl (wO rfl (wO rfl (wP rfl (wP rfl (Q3 ?_))))))))
              have hE:=(Option.some.inj hm).symm
              refine QE [] rfl (H':=[]) rfl ?_
              refine Ql false hE [0] rfl (asK [] rfl) rfl
            ·
             replace hm:=QP hm hs106
             refine wO rfl (wO rfl (wP rfl (wP rfl (wO rfl (wO rfl (wP rfl (wP rfl (wO rfl (wO rfl (wP rfl (wP rfl (Q3 ?_))))))))))))
             have hE:=(Option.some.inj hm).symm
             refine QE [] rfl (H':=[]) rfl ?_
             refine Ql false hE [0] rfl (asK [] rfl) rfl
           ·
            replace hm:=QP hm hs102
            refine wO rfl (wO rfl (wP rfl (wP rfl (wO rfl (wO rfl (wP rfl (wP rfl (wO rfl (wO rfl (wP rfl (wP rfl (wO rfl (wO rfl ?_)))))))))))))
            refine wP rfl (wP rfl (Q3 ?_))
            have hE:=(Option.some.inj hm).symm
            refine QE [] rfl (H':=[]) rfl ?_
            refine Ql false hE [0] rfl (asK [] rfl) rfl
          ·
           replace hm:=QP hm hs98
           refine wO rfl (wO rfl (wP rfl (wP rfl (wO rfl (wO rfl (wP rfl (wP rfl (wO rfl (wO rfl (wP rfl (wP rfl (wO rfl (wO rfl ?_)))))))))))))
           refine wP rfl (wP rfl (wO rfl (wO rfl (wP rfl (wP rfl (Q3 ?_))))))
           have hE:=(Option.some.inj hm).symm
           refine QE [] rfl (H':=[]) rfl ?_
           refine Ql false hE [0] rfl (asK [] rfl) rfl
         ·
          replace hm:=QP hm hs94
          refine wO rfl (wO rfl (wP rfl (wP rfl (wO rfl (wO rfl (wP rfl (wP rfl (wO rfl (wO rfl (wP rfl (wP rfl (wO rfl (wO rfl ?_)))))))))))))
          refine wP rfl (wP rfl (wO rfl (wO rfl (wP rfl (wP rfl (wO rfl (wO rfl (wP rfl (wP rfl (Q3 ?_))))))))))
          have hE:=(Option.some.inj hm).symm
          refine QE [] rfl (H':=[]) rfl ?_
          refine Ql false hE [0] rfl (asK [] rfl) rfl
        ·
         replace hm:=QP hm hs90
         refine wO rfl (wO rfl (wP rfl (wP rfl (wO rfl (wO rfl (wP rfl (wP rfl (wO rfl (wO rfl (wP rfl (wP rfl (wO rfl (wO rfl ?_)))))))))))))
         refine wP rfl (wP rfl (wO rfl (wO rfl (wP rfl (wP rfl (wO rfl (wO rfl (wP rfl (wP rfl (wO rfl (wO rfl (wP rfl (wP rfl ?_)))))))))))))
         refine Q3 ?_
         have hE:=(Option.some.inj hm).symm
         refine QE [] rfl (H':=[]) rfl ?_
         refine Ql false hE [0] rfl (asK [] rfl) rfl
       ·
        replace hm:=QP hm hs87
        refine wO rfl (wP rfl (wP rfl (wO rfl (wO rfl (wP rfl (wP rfl (wO rfl (wO rfl (wP rfl (wP rfl (wO rfl (wO rfl (wP rfl ?_)))))))))))))
        refine wP rfl (wO rfl (wO rfl (wP rfl (wP rfl (wO rfl (wO rfl (wP rfl (wP rfl (wO rfl (wO rfl (wP rfl (wP rfl (wO rfl ?_)))))))))))))
        refine wO rfl (wP rfl (wP rfl (Q3 ?_)))
        have hE:=(Option.some.inj hm).symm
        refine QE [] rfl (H':=[]) rfl ?_
        refine Ql false hE [0] rfl (asK [] rfl) rfl
      ·
       replace hm:=QP hm hs82
       refine wO rfl (wO rfl (wO rfl (wP rfl (wP rfl (wO rfl (wP rfl (wP rfl (wO rfl (wO rfl (wP rfl (wP rfl (wO rfl (wO rfl ?_)))))))))))))
       refine wP rfl (wP rfl (wO rfl (wO rfl (wP rfl (wP rfl (wO rfl (wO rfl (wP rfl (wP rfl (wO rfl (wO rfl (wP rfl (wP rfl ?_)))))))))))))
       refine wO rfl (wO rfl (wP rfl (wP rfl (wO rfl (wO rfl (wP rfl (wP rfl (Q3 ?_))))))))
       have hE:=(Option.some.inj hm).symm
       refine QE [] rfl (H':=[]) rfl ?_
       refine Ql false hE [0] rfl (asK [] rfl) rfl
     ·
      replace hm:=QP hm hs78
      refine wO rfl (wO rfl (wP rfl (wP rfl (wO rfl (wO rfl (wO rfl (wP rfl (wP rfl (wO rfl (wP rfl (wP rfl (wO rfl (wO rfl ?_)))))))))))))
      refine wP rfl (wP rfl (wO rfl (wO rfl (wP rfl (wP rfl (wO rfl (wO rfl (wP rfl (wP rfl (wO rfl (wO rfl (wP rfl (wP rfl ?_)))))))))))))
      refine wO rfl (wO rfl (wP rfl (wP rfl (wO rfl (wO rfl (wP rfl (wP rfl (wO rfl (wO rfl (wP rfl (wP rfl (Q3 ?_))))))))))))
      have hE:=(Option.some.inj hm).symm
      refine QE [] rfl (H':=[]) rfl ?_
      refine Ql false hE [0] rfl (asK [] rfl) rfl
    ·
     replace hm:=QP hm hs74
     refine wO rfl (wO rfl (wP rfl (wP rfl (wO rfl (wO rfl (wP rfl (wP rfl (wO rfl (wO rfl (wO rfl (wP rfl (wP rfl (wO rfl ?_)))))))))))))
     refine wP rfl (wP rfl (wO rfl (wO rfl (wP rfl (wP rfl (wO rfl (wO rfl (wP rfl (wP rfl (wO rfl (wO rfl (wP rfl (wP rfl ?_)))))))))))))
     refine wO rfl (wO rfl (wP rfl (wP rfl (wO rfl (wO rfl (wP rfl (wP rfl (wO rfl (wO rfl (wP rfl (wP rfl (wO rfl (wO rfl ?_)))))))))))))
     refine wP rfl (wP rfl (Q3 ?_))
     have hE:=(Option.some.inj hm).symm
     refine QE [] rfl (H':=[]) rfl ?_
     refine Ql false hE [0] rfl (asK [] rfl) rfl
   ·
    replace hm:=QP hm hs70
    refine wO rfl (wO rfl (wP rfl (wP rfl (wO rfl (wO rfl (wP rfl (wP rfl (wO rfl (wO rfl (wP rfl (wP rfl (wO rfl (wO rfl ?_)))))))))))))
    refine wO rfl (wP rfl (wP rfl (wO rfl (wP rfl (wP rfl (wO rfl (wO rfl (wP rfl (wP rfl (wO rfl (wO rfl (wP rfl (wP rfl ?_)))))))))))))
    refine wO rfl (wO rfl (wP rfl (wP rfl (wO rfl (wO rfl (wP rfl (wP rfl (wO rfl (wO rfl (wP rfl (wP rfl (wO rfl (wO rfl ?_)))))))))))))
    refine wP rfl (wP rfl (wO rfl (wO rfl (wP rfl (wP rfl (Q3 ?_))))))
    have hE:=(Option.some.inj hm).symm
    refine QE [] rfl (H':=[]) rfl ?_
    refine Ql false hE [0] rfl (asK [] rfl) rfl
  ·
   replace hm:=QP hm hs66
   refine wO rfl (wO rfl (wP rfl (wP rfl (wO rfl (wO rfl (wP rfl (wP rfl (wO rfl (wO rfl (wP rfl (wP rfl (wO rfl (wO rfl ?_)))))))))))))
   refine wP rfl (wP rfl (wO rfl (wO rfl (wO rfl (wP rfl (wP rfl (wO rfl (wP rfl (wP rfl (wO rfl (wO rfl (wP rfl (wP rfl ?_)))))))))))))
   refine wO rfl (wO rfl (wP rfl (wP rfl (wO rfl (wO rfl (wP rfl (wP rfl (wO rfl (wO rfl (wP rfl (wP rfl (wO rfl (wO rfl ?_)))))))))))))
   refine wP rfl (wP rfl (wO rfl (wO rfl (wP rfl (wP rfl (wO rfl (wO rfl (wP rfl (wP rfl (Q3 ?_))))))))))
   have hE:=(Option.some.inj hm).symm
   refine QE [] rfl (H':=[]) rfl ?_
   refine Ql false hE [0] rfl (asK [] rfl) rfl
 ·
  rintro j_1_0 hE
  try dsimp only
  have hm:=hLj_1
  rw [hE] at hm
  refine Qn ?_
  have hE:=(Option.some.inj hm).symm
  replace hE:=hE.symm
  subst hE
  refine Qp (Hr:=[]) [] Tryz.results6 (Qd rfl) ⟨rfl,rfl,rfl⟩ (asK [] rfl) rfl rfl (.inl rfl)
theorem Q8m (N:Nat)   (hm:Q5i N = some ()):Q1v Tryz.prog 9 [] [] [] (fun v Φr Hr=>∃ (o0:Nat),v = .pointer (some ⟨o0,0,none⟩) ∧ Φr = [] ∧ Hr = [.blk o0 [.slice none 0 0,.int .i64 1] 67]):=by
 unfold Q5i at hm
 refine Qx Tryz.func9 rfl Tryz.ntmps9 rfl (S:=[]) rfl (fun C=>(Q4 (Q1 (wP rfl (Q3 (Q2 (Q5 [] (S':=[]) rfl (Q4 (Q1 (Q2t rfl rfl rfl (Q0 rfl) rfl tZ_67 tP_67 rfl (out:=[_,_]) rfl (wB rfl (fun g2=>(wP rfl (Q3 (Q2 ?_)))))))))))))))
 refine Q5 [0] (S':=[_]) rfl (Qn ?_)
 have hE:=(Option.some.inj hm).symm
 refine Qp (Hr:=[_]) [0] Tryz.results9 (Qd rfl) ⟨g2,rfl,rfl,rfl⟩ (asK [] rfl) rfl rfl (.inl rfl)
theorem Q5a (N:Nat) (a0:Int) (a1:Int)  (hm:Q4m N a0 a1 = some ()):Q1v Tryz.prog 48 [.int .i64 a0,.int .i64 a1] [] [] (fun v Φr Hr=>v = .int .i64 (IntKind.wrap .i64 ((IntKind.wrap .i64 (1000003 * (IntKind.wrap .i64 (a0 + 7)))) + a1)) ∧ Φr = [] ∧ Hr = []):=by
 unfold Q4m at hm
 refine Qx Tryz.func48 rfl Tryz.ntmps48 rfl (S:=[_,_]) rfl (fun C=>(Q4 (Q1 (wP rfl (Q3 (Q2 (Q5 [0,1] (S':=[_,_]) rfl (Q4 (Q1 (wP rfl (wP rfl (wP rfl (wP rfl (wP rfl ?_))))))))))))))
 refine wP rfl (Q3 (Q2 (Q5 [4] (S':=[_]) rfl (Qn ?_))))
 have hE:=(Option.some.inj hm).symm
 refine Qp (Hr:=[]) [] Tryz.results48 (Qd rfl) ⟨rfl,rfl,rfl⟩ (asK [] rfl) rfl rfl (.inl rfl)
theorem Q3C (N:Nat) (a0:Int) (a1:Int)  (hm:Q1N N a0 a1 = some ()):Q1v Tryz.prog 97 [.int .i64 a0,.int .i64 a1] [] [] (fun v Φr Hr=>v = .agg #[.int .u8 0,.int .i64 (IntKind.wrap .i64 ((IntKind.wrap .i64 (1000003 * (IntKind.wrap .i64 (a0 + 7)))) + a1)),.string ((⟨#[]⟩ : ByteArray))] ∧ Φr = [] ∧ Hr = []):=by
 unfold Q1N at hm
 refine Qx Tryz.func97 rfl Tryz.ntmps97 rfl (S:=[_,_]) rfl (fun C=>(Q4 (Q1 (Q2a rfl rfl rfl (Q0 rfl) rfl tZ_149 rfl (fun g4=>(Q3 (Q2 (Q4 (Q1 (wP rfl (wP rfl ?_)))))))))))
 obtain ⟨_,hc7,hm⟩:=Q6 hm
 try dsimp only at hm
 refine wC [] [0] rfl fn_48 rfl (Q5a N a0 a1 hc7) (asK [] rfl) rfl (H':=[_]) rfl ?_
 rintro _ _ _ ⟨rfl,rfl,rfl⟩
 refine Q2t rfl rfl rfl (Q0 rfl) rfl tZ_149 tP_149 rfl (out:=[_,_,_]) rfl (wS 0 0 rfl Q25 (all':=[_,_,_]) rfl (H':=[_]) rfl (Q3 (Q2 (Q5 [4] (S':=[_]) rfl (Qn ?_)))))
 have hE:=(Option.some.inj hm).symm
 refine Qp (Hr:=[]) [] Tryz.results97 (Q3y 0 rfl rfl Q25 Q62 rfl rfl) ⟨rfl,rfl,rfl⟩ (asK [] rfl) rfl rfl (.inl rfl)
theorem Q65 (N:Nat) (qp0:Option Addr) (qc1:Nat) (l0:List V) (o2:List V) (hm:Q37 N l0 = some o2):Q1v Tryz.prog 53 [.slice qp0 l0.length qc1] [.sli 3 R_V qp0 qc1 l0] [] (fun v Φr Hr=>∃ (o0:Option Addr) (o1:Nat) (o3:Nat),v = .slice o0 l0.length o1 ∧ Φr = [] ∧ Hr = [.own 149 3 R_V (.slice o0 o3 o1) o2]):=by
 unfold Q37 at hm
 refine Qx Tryz.func53 rfl Tryz.ntmps53 rfl (S:=[_]) rfl (fun C=>(Q4 (Q1 (wP rfl (Q3 (Q2 (Q5 [0] (S':=[_]) rfl (Q4 (Q1 (wP rfl (wN rfl Q1S (wP rfl ?_))))))))))))
 obtain ⟨hg7,hm⟩:=Qq hm
 refine Qr (d:=7) (v':=.int .i64 ((l0.length + 12:Nat):Int)) (S':=[_,_,_]) rfl rfl (Qw (a:=l0.length) (b:=12) hg7) ?_
 obtain ⟨hg8,hm⟩:=Qq hm
 refine wl_makeCap (m:=l0.length + 12) R_V rfl rfl rfl (Q0 rfl) rfl rfl rfl rfl Q1S tR_149 rfl rfl (Nat.le_trans (Nat.mul_le_mul_left _ hg8) (by decide)) (Nat.le_trans hg8 (by decide)) (fun g8=>(wP rfl (Q3 (Q2 (Q5 [3,0] (S':=[_,_]) rfl (Q4 (Q1 (wP rfl (wP rfl ?_)))))))))
 obtain ⟨hg11,hm⟩:=Qq hm
 refine Q7n 0 0 rfl rfl rfl (Q0 rfl) rfl rfl rfl rfl rfl Q1S tR_149 rfl rfl (Nat.le_trans hg11 (by decide)) (Nat.le_trans (Nat.mul_le_mul_right _ hg11) (by decide)) (H2:=fun p11 c11=>[.own 149 3 R_V (.slice p11 (l0).length c11) l0]) (fun _ _=>rfl) (fun p11 c11=>(Qs (S':=[_,_,_,_]) rfl rfl rfl rfl rfl (Q3 (Q2 (Q5 [3,0] (S':=[_,_]) rfl (Q4 ?_))))))
 obtain ⟨bj_1,hm,hLj_1⟩:=Q6 hm
 refine Q14 (σ:=(List V) × (Option Addr) × Nat × Nat) (fun (j_1_3_l,j_1_3_p,j_1_3_c,j_1_3_n)=>bj_1 = j_1_3_l) (fun (j_1_3_l,j_1_3_p,j_1_3_c,j_1_3_n)=>[(3,.slice j_1_3_p j_1_3_n j_1_3_c),(0,.slice qp0 l0.length qc1)]) (fun (j_1_3_l,j_1_3_p,j_1_3_c,j_1_3_n)=>[.sli 3 R_V qp0 qc1 l0]) (fun (j_1_3_l,j_1_3_p,j_1_3_c,j_1_3_n)=>[.own 149 3 R_V (.slice j_1_3_p j_1_3_n j_1_3_c) j_1_3_l]) ?_ ?_
 ·
  refine Q4 (Q1 (wP rfl (Q3 (Q2 (Qc (QI (σ:=Nat × Nat × (List V) × (Option Addr) × Nat × Nat) (fun (nu1,u1_4,u1_3_l,u1_3_p,u1_3_c,u1_3_n)=>Q2s (Q3m N) nu1 (u1_4,u1_3_l) = some bj_1) (fun (nu1,u1_4,u1_3_l,u1_3_p,u1_3_c,u1_3_n)=>nu1) (fun (nu1,u1_4,u1_3_l,u1_3_p,u1_3_c,u1_3_n)=>[(4,.int .i64 ((u1_4:Nat):Int)),(3,.slice u1_3_p u1_3_n u1_3_c),(0,.slice qp0 l0.length qc1)]) (fun (nu1,u1_4,u1_3_l,u1_3_p,u1_3_c,u1_3_n)=>[.sli 3 R_V qp0 qc1 l0]) (fun (nu1,u1_4,u1_3_l,u1_3_p,u1_3_c,u1_3_n)=>[.own 149 3 R_V (.slice u1_3_p u1_3_n u1_3_c) u1_3_l]) (N,0,l0,p11,c11,(l0).length) hm [4,3,0] rfl (asK [0] rfl) rfl (fun s_ hm=>?_)))))))
  obtain ⟨nu1,u1_4,u1_3_l,u1_3_p,u1_3_c,u1_3_n⟩:=s_
  try dsimp only at hm ⊢
  obtain ⟨mu1,bu1,hnu1,hq,hLu1⟩:=Q1m hm
  clear hm
  subst hnu1
  replace hm:=hq
  clear hq
  unfold Q3m at hm
  try dsimp only at hm
  refine Q4 (Q4 (Q1 (wP rfl (wP rfl (Qr (d:=13) (v':=.bool (decide (u1_4 < 12))) (S':=[_,_,_,_]) rfl rfl (Q3a (a:=u1_4) (b:=12)) (Q3 (Q2 (Q5 [13,4,3,0] (S':=[_,_,_,_]) rfl ?_))))))))
  refine Qm rfl (fun hb13=>?_) (fun hb13=>?_)
  ·
   replace hm:=QQ hm hb13
   refine Q5 [4,3,0] (S':=[_,_,_]) rfl (Qj (Q2 (Q4 (Qc (Q1 (wP rfl (wP rfl ?_)))))))
   obtain ⟨_,hc18,hm⟩:=Q6 hm
   try dsimp only at hm
   refine wC [] [0] rfl fn_97 rfl (Q3C N 1 ((u1_4:Nat):Int) hc18) (asK [] rfl) rfl (H':=[_]) rfl ?_
   rintro _ _ _ ⟨rfl,rfl,rfl⟩
   refine QJ rfl rfl rfl (Q0 rfl) rfl Q1S Q25 tZ_149 rfl (zs:=[.int .u8 0,.int .i64 0,.string ((⟨#[]⟩ : ByteArray))]) (by kernel_rfl) rfl (out:=[_,_,_]) rfl (fun g19=>?_)
   obtain ⟨hg20,hm⟩:=Qq hm
   refine Q3c ([(⟨0,(IntKind.wrap .i64 ((IntKind.wrap .i64 (1000003 * (IntKind.wrap .i64 (1 + 7)))) + ((u1_4:Nat):Int))),(⟨#[]⟩ : ByteArray)⟩ : V)]) 1 0 rfl rfl rfl (Q0 rfl) rfl rfl rfl rfl rfl (fun F w hφ=>⟨[.int .u8 0,.int .i64 (IntKind.wrap .i64 ((IntKind.wrap .i64 (1000003 * (IntKind.wrap .i64 (1 + 7)))) + ((u1_4:Nat):Int))),.string ((⟨#[]⟩ : ByteArray))],[],rfl,rfl,⟨(),rfl,Q1f⟩,rfl⟩) Q1S tR_149 rfl rfl (Nat.le_trans hg20 (by decide)) (Nat.le_trans (Nat.mul_le_mul_right _ hg20) (by decide)) (H2:=fun p20 c20=>[_,.own 149 3 R_V (.slice p20 ((u1_3_l ++ ([(⟨0,(IntKind.wrap .i64 ((IntKind.wrap .i64 (1000003 * (IntKind.wrap .i64 (1 + 7)))) + ((u1_4:Nat):Int))),(⟨#[]⟩ : ByteArray)⟩ : V)])).length) c20) (u1_3_l ++ ([(⟨0,(IntKind.wrap .i64 ((IntKind.wrap .i64 (1000003 * (IntKind.wrap .i64 (1 + 7)))) + ((u1_4:Nat):Int))),(⟨#[]⟩ : ByteArray)⟩ : V)]))]) (fun _ _=>rfl) (fun p20 c20=>(Q2k 0 rfl (H':=[_]) rfl (Qs (S':=[_,_,_,_,_,_,_]) rfl rfl rfl rfl rfl (Q3 (Qa (Q2 (Q5 [3,4,0] (S':=[_,_,_]) rfl (Q1 (wP rfl (wP rfl ?_))))))))))
   obtain ⟨hg15,hm⟩:=Qq hm
   refine Qr (d:=15) (v':=.int .i64 ((u1_4 + 1:Nat):Int)) (S':=[_,_,_,_]) rfl rfl (Qw (a:=u1_4) (b:=1) hg15) (Qs (S':=[_,_,_,_]) rfl rfl rfl rfl rfl (Q3 ?_))
   have hE:=(Option.some.inj hm).symm
   replace hE:=QZ hLu1 hE
   refine Q1n (_,u1_4 + 1,(u1_3_l ++ ([(⟨0,(IntKind.wrap .i64 ((IntKind.wrap .i64 (1000003 * (IntKind.wrap .i64 (1 + 7)))) + ((u1_4:Nat):Int))),(⟨#[]⟩ : ByteArray)⟩ : V)])),p20,c20,((u1_3_l ++ ([(⟨0,(IntKind.wrap .i64 ((IntKind.wrap .i64 (1000003 * (IntKind.wrap .i64 (1 + 7)))) + ((u1_4:Nat):Int))),(⟨#[]⟩ : ByteArray)⟩ : V)])).length)) (Nat.lt_succ_self _) hE [4,3,0] rfl (asK [0] rfl) rfl
  ·
   replace hm:=QP hm hb13
   refine Q5 [3,0] (S':=[_,_]) rfl (QH (Q8 (Q8 (Qh ?_))))
   have hE:=(Option.some.inj hm).symm
   replace hE:=Qy hLu1 hE
   refine Ql (u1_3_l,u1_3_p,u1_3_c,u1_3_n) hE [3,0] rfl (asK [0] rfl) rfl
 ·
  rintro ⟨j_1_3_l,j_1_3_p,j_1_3_c,j_1_3_n⟩ hE
  try dsimp only
  have hm:=hLj_1
  rw [hE] at hm
  refine Q4 (Q1 (wP rfl (wP rfl (wN rfl Q1S ?_))))
  obtain ⟨hg24,hm⟩:=Qq hm
  refine Q6s 0 rfl (fun hsp24 hcm24=>(Q4T rfl rfl rfl (Q0 rfl) rfl rfl rfl rfl Q1S Q25 (Nat.le_trans hg24 (by rw [← hcm24.2]; exact hcm24.1)) hsp24 (wP rfl (Q3 (Q2 (Q5 [2] (S':=[_]) rfl (Qn ?_)))))))
  have hE:=(Option.some.inj hm).symm
  replace hE:=hE.symm
  subst hE
  refine Qp (Hr:=[_]) [0] Tryz.results53 (Qd rfl) ⟨j_1_3_p,j_1_3_c,j_1_3_n,rfl,rfl,rfl⟩ (asK [] rfl) rfl rfl (.inl rfl)
theorem Q7N (N:Nat) (a0:Int) (a1:Int) (qp0:Option Addr) (qc1:Nat) (l2:List V) (o2:List V) (hm:Q4a N a0 a1 l2 = some o2):Q1v Tryz.prog 95 [.agg #[.int .i64 a0,.int .i64 a1,.slice qp0 l2.length qc1]] [.sli 3 R_V qp0 qc1 l2] [] (fun v Φr Hr=>∃ (o0:Option Addr) (o1:Nat) (o3:Nat),v = .agg #[.int .i64 a0,.int .i64 a1,.slice o0 l2.length o1] ∧ Φr = [] ∧ Hr = [.own 149 3 R_V (.slice o0 o3 o1) o2]):=by
 unfold Q4a at hm
 refine Qx Tryz.func95 rfl Tryz.ntmps95 rfl (S:=[_]) rfl (fun C=>(Q4 (Q1 (wB rfl (fun g1=>(Q2a rfl rfl rfl (Q0 rfl) rfl tZ_61 rfl (fun g2=>(Q3 (Q2 (Q5 [2,1] (S':=[_,_]) rfl (Q4 (Q1 (wF rfl Q5e (wD 1 2 rfl Q1Z Q41 rfl ?_))))))))))))))
 obtain ⟨v5,hc5,hm⟩:=Q6 hm
 refine wC [] [0,1] rfl fn_53 rfl (Q65 N qp0 qc1 l2 _ hc5) (asK [0] rfl) rfl (H':=[_,_]) rfl ?_
 rintro _ _ _ ⟨p5_0,c5_1,c5_2,rfl,rfl,rfl⟩
 refine wF rfl Q5e (wS 2 2 rfl Q1Z (all':=[_,_,_]) rfl (H':=[_,_,_]) rfl (Q3 (Q2 (Q5 [2,1] (S':=[_,_]) rfl (Q4 (Q1 (Q1e 2 0 rfl rfl rfl (Q0 rfl) rfl rfl rfl (cs:=[_,_,_]) rfl Q1G Q59 rfl rfl (wS 1 0 rfl Q1G (all':=[_,_,_]) rfl (H':=[_,_,_]) rfl (Q3 (Q2 (Q5 [2] (S':=[_]) rfl (Qn ?_))))))))))))
 have hE:=(Option.some.inj hm).symm
 replace hE:=hE.symm
 subst hE
 refine Qp (Hr:=[_]) [0] Tryz.results95 (Q3y 1 rfl rfl Q1G Q59 rfl rfl) ⟨p5_0,c5_1,c5_2,rfl,rfl,rfl⟩ (asK [] rfl) rfl rfl (.inl rfl)
theorem Q3O (N:Nat) (a0:Int) (a1:Int)  (hm:Q1V N a0 a1 = some ()):Q1v Tryz.prog 96 [.int .i64 a0,.int .i64 a1] [] [] (fun v Φr Hr=>v = .agg #[.int .i64 (IntKind.wrap .i64 ((IntKind.wrap .i64 (1000003 * (IntKind.wrap .i64 (a0 + 7)))) + a1)),.int .i64 0,.slice none 0 0] ∧ Φr = [] ∧ Hr = []):=by
 unfold Q1V at hm
 refine Qx Tryz.func96 rfl Tryz.ntmps96 rfl (S:=[_,_]) rfl (fun C=>(Q4 (Q1 (Q2a rfl rfl rfl (Q0 rfl) rfl tZ_61 rfl (fun g4=>(Q3 (Q2 (Q4 (Q1 (wP rfl (wP rfl ?_)))))))))))
 obtain ⟨_,hc7,hm⟩:=Q6 hm
 try dsimp only at hm
 refine wC [] [0] rfl fn_48 rfl (Q5a N a0 a1 hc7) (asK [] rfl) rfl (H':=[_]) rfl ?_
 rintro _ _ _ ⟨rfl,rfl,rfl⟩
 refine Q2t rfl rfl rfl (Q0 rfl) rfl tZ_61 tP_61 rfl (out:=[_,_,_]) rfl (wS 0 0 rfl Q1G (all':=[_,_,_]) rfl (H':=[_]) rfl (Q3 (Q2 (Q5 [4] (S':=[_]) rfl (Qn ?_)))))
 have hE:=(Option.some.inj hm).symm
 refine Qp (Hr:=[]) [] Tryz.results96 (Q3y 0 rfl rfl Q1G Q59 rfl rfl) ⟨rfl,rfl,rfl⟩ (asK [] rfl) rfl rfl (.inl rfl)
theorem Q7A (N:Nat) (qp0:Option Addr) (qc1:Nat) (l0:List FactD) (o2:List FactDS) (hm:Q3U N l0 = some o2):Q1v Tryz.prog 52 [.slice qp0 l0.length qc1] [.sli 3 QO qp0 qc1 l0] [] (fun v Φr Hr=>∃ (o0:Option Addr) (o1:Nat) (o3:Nat),v = .slice o0 l0.length o1 ∧ Φr = [] ∧ Hr = [Qi QL 61 3 (.slice o0 o3 o1) o2]):=by
 unfold Q3U at hm
 refine Qx Tryz.func52 rfl Tryz.ntmps52 rfl (S:=[_]) rfl (fun C=>(Q4 (Q1 (wP rfl (Q3 (Q2 (Q5 [0] (S':=[_]) rfl (Q4 (Q1 (wP rfl (wN rfl Q1s (wP rfl ?_))))))))))))
 obtain ⟨hg9,hm⟩:=Qq hm
 refine Qr (d:=9) (v':=.int .i64 ((l0.length + 12:Nat):Int)) (S':=[_,_,_]) rfl rfl (Qw (a:=l0.length) (b:=12) hg9) ?_
 obtain ⟨hg10,hm⟩:=Qq hm
 refine wl_makeCap (m:=l0.length + 12) Qf.pair rfl rfl rfl (Q0 rfl) rfl rfl rfl rfl Q1s tR_61 rfl rfl (Nat.le_trans (Nat.mul_le_mul_left _ hg10) (by decide)) (Nat.le_trans hg10 (by decide)) (fun g10=>(Qv [QR Qf [] none,_] (fun _ h=>h.bagNil Qf) (Qv [Qi Qf 61 3 (.slice (some ⟨g10,0,none⟩) 0 (l0.length + 12)) []] (fun _ h=>h.treeIn 1 0 rfl rfl rfl rfl) (wP rfl (Q3 (Q2 (Q5 [3,0] (S':=[_,_]) rfl (Q4 ?_))))))))
 obtain ⟨bj_1,hm,hLj_1⟩:=Q6 hm
 refine Q14 (σ:=(List FactDS) × (Option Addr) × Nat × Nat) (fun (j_1_3_l,j_1_3_p,j_1_3_c,j_1_3_n)=>bj_1 = j_1_3_l) (fun (j_1_3_l,j_1_3_p,j_1_3_c,j_1_3_n)=>[(3,.slice j_1_3_p j_1_3_n j_1_3_c),(0,.slice qp0 l0.length qc1)]) (fun (j_1_3_l,j_1_3_p,j_1_3_c,j_1_3_n)=>[.sli 3 QO qp0 qc1 l0]) (fun (j_1_3_l,j_1_3_p,j_1_3_c,j_1_3_n)=>[Qi QL 61 3 (.slice j_1_3_p j_1_3_n j_1_3_c) j_1_3_l]) ?_ ?_
 ·
  refine Q4 (Q1 (wP rfl (Q3 (Q2 (Qc (Q6D [Qi QL 61 3 (.slice (some ⟨g10,0,none⟩) 0 (l0.length + 12)) []] (fun _ h=>h.treeKind QL 0 rfl) (QI (σ:=Nat × Nat × (List FactDS) × (Option Addr) × Nat × Nat) (fun (nu1,u1_4,u1_3_l,u1_3_p,u1_3_c,u1_3_n)=>Q2s (Q3u N l0) nu1 (u1_4,u1_3_l) = some bj_1) (fun (nu1,u1_4,u1_3_l,u1_3_p,u1_3_c,u1_3_n)=>nu1) (fun (nu1,u1_4,u1_3_l,u1_3_p,u1_3_c,u1_3_n)=>[(4,.int .i64 ((u1_4:Nat):Int)),(3,.slice u1_3_p u1_3_n u1_3_c),(0,.slice qp0 l0.length qc1)]) (fun (nu1,u1_4,u1_3_l,u1_3_p,u1_3_c,u1_3_n)=>[.sli 3 QO qp0 qc1 l0]) (fun (nu1,u1_4,u1_3_l,u1_3_p,u1_3_c,u1_3_n)=>[Qi QL 61 3 (.slice u1_3_p u1_3_n u1_3_c) u1_3_l]) (N,0,[],some ⟨g10,0,none⟩,l0.length + 12,0) hm [4,3,0] rfl (asK [0] rfl) rfl (fun s_ hm=>?_))))))))
  obtain ⟨nu1,u1_4,u1_3_l,u1_3_p,u1_3_c,u1_3_n⟩:=s_
  try dsimp only at hm ⊢
  obtain ⟨mu1,bu1,hnu1,hq,hLu1⟩:=Q1m hm
  clear hm
  subst hnu1
  replace hm:=hq
  clear hq
  unfold Q3u at hm
  try dsimp only at hm
  refine Q4 (Q4 (Q1 (wP rfl (wP rfl (wN rfl Q1s (wP rfl (Qr (d:=14) (v':=.bool (decide (u1_4 < l0.length))) (S':=[_,_,_,_,_,_]) rfl rfl (Q3a (a:=u1_4) (b:=l0.length)) (Q3 (Q2 (Q5 [14,4,3,0] (S':=[_,_,_,_]) rfl ?_))))))))))
  refine Qm rfl (fun hb14=>?_) (fun hb14=>?_)
  ·
   replace hm:=QQ hm hb14
   refine Q5 [4,3,0] (S':=[_,_,_]) rfl (Qj (Q2 (Q4 (Qc (Q4 (Q1 (wP rfl (wP rfl ?_))))))))
   obtain ⟨x19,hx19,hm⟩:=Q6 hm
   refine Q3A 0 u1_4 rfl rfl rfl (Q0 rfl) rfl rfl rfl rfl rfl hx19 Q1s Q1G (fun b19 q19 cs19 hlx19=>(Q4L Q4u 1 rfl (fun r19 er19 _=>?_)))
   subst er19
   refine Q4M 1 0 rfl rfl rfl (Q0 rfl) rfl rfl rfl (cs:=[_,_,_]) rfl Q1G Q59 rfl rfl ?_
   obtain ⟨v21,hc21,hm⟩:=Q6 hm
   refine wC [] [0] rfl fn_95 rfl (Q7N N x19.id x19.ty r19.1 r19.2 x19.args _ hc21) (asK [0] rfl) rfl (H':=[_]) rfl ?_
   rintro _ _ _ ⟨p21_0,c21_1,c21_2,rfl,rfl,rfl⟩
   refine Q2a rfl rfl rfl (Q0 rfl) rfl tZ_61 rfl (fun g5=>(wS 0 0 rfl Q1G (all':=[_,_,_]) rfl (H':=[_,_,_]) rfl (Q3 (Q2 (Q5 [5,4,3,0] (S':=[_,_,_,_]) rfl (Q1 (wP rfl (Q1e 0 0 rfl rfl rfl (Q0 rfl) rfl rfl rfl (cs:=[_,_,_]) rfl Q1G Q59 rfl rfl (QJ rfl rfl rfl (Q0 rfl) rfl Q1s Q1G tZ_61 rfl (zs:=[.int .i64 0,.int .i64 0,.slice none 0 0]) (by kernel_rfl) rfl (out:=[_,_,_]) rfl (fun g24=>(QG 3 rfl (fun hzt8 _=>?_))))))))))))
   subst hzt8
   refine Q2n 2 rfl (fun hzc21_2 _=>?_)
   subst hzc21_2
   obtain ⟨hzk23,hm⟩:=Qq hm
   refine Q15 2 (φ':=.own 149 3 R_V (.slice p21_0 ((v21.take x19.args.length ++ v21.drop x19.args.length).length) c21_1) (v21.take x19.args.length ++ v21.drop x19.args.length)) rfl (by rw [List.take_append_drop]) (H':=[_,_,_,_]) rfl (Q4q 1 (v':=.agg #[.int .i64 (x19.id),.int .i64 (x19.ty),.slice p21_0 ((v21.take x19.args.length).length) c21_1]) rfl (by rw [Q3R hzk23]) (Q15 0 (φ':=.blk g24 [.int .i64 (x19.id),.int .i64 (x19.ty),.slice p21_0 ((v21.take x19.args.length).length) c21_1] 61) rfl (by rw [Q3R hzk23]) (H':=[_,_,_,_]) rfl (Q15 1 (φ':=.blk g5 [.int .i64 (x19.id),.int .i64 (x19.ty),.slice p21_0 ((v21.take x19.args.length).length) c21_1] 61) rfl (by rw [Q3R hzk23]) (H':=[_,_,_,_]) rfl (Q1q 3 rfl (fun zz25 hzz25=>?_)))))
   obtain ⟨hg25,hm⟩:=Qq hm
   have hzs24:List.map (fun x:FactDS × (Option Addr × Nat)=>x.1) (zz25 ++ [((⟨x19.id,x19.ty,v21.take x19.args.length,v21.drop x19.args.length⟩ : FactDS),(p21_0,c21_1))]) = u1_3_l ++ [(⟨x19.id,x19.ty,v21.take x19.args.length,v21.drop x19.args.length⟩ : FactDS)]:=Q5I hzz25 (us:=[(⟨x19.id,x19.ty,v21.take x19.args.length,v21.drop x19.args.length⟩ : FactDS)]) rfl
   have hgl25:zz25.length + ([((⟨x19.id,x19.ty,v21.take x19.args.length,v21.drop x19.args.length⟩ : FactDS),(p21_0,c21_1))] : List (FactDS × (Option Addr × Nat))).length ≤ 3518437208883:=by rw [Q12 hzz25]; exact hg25
   refine Q3c (R:=QL.pair) ([((⟨x19.id,x19.ty,v21.take x19.args.length,v21.drop x19.args.length⟩ : FactDS),(p21_0,c21_1))]) 4 1 rfl rfl rfl (Q0 rfl) rfl rfl rfl rfl rfl (fun F w hφ=>⟨[.int .i64 (x19.id),.int .i64 (x19.ty),.slice p21_0 ((v21.take x19.args.length).length) c21_1],[],rfl,rfl,rfl,rfl⟩) Q1s tR_61 rfl rfl (Nat.le_trans hgl25 (by decide)) (Nat.le_trans (Nat.mul_le_mul_right _ hgl25) (by decide)) (H2:=fun p25 c25=>[_,_,_,_,.own 61 3 QL.pair (.slice p25 ((zz25 ++ [((⟨x19.id,x19.ty,v21.take x19.args.length,v21.drop x19.args.length⟩ : FactDS),(p21_0,c21_1))]).length) c25) (zz25 ++ [((⟨x19.id,x19.ty,v21.take x19.args.length,v21.drop x19.args.length⟩ : FactDS),(p21_0,c21_1))])]) (fun _ _=>rfl) (fun p25 c25=>(Q2k 1 rfl (H':=[_,_,_,_]) rfl (Qr (d:=25) (v':=.slice p25 ((u1_3_l ++ [(⟨x19.id,x19.ty,v21.take x19.args.length,v21.drop x19.args.length⟩ : FactDS)]).length) c25) (S':=[_,_,_,_,_,_,_]) rfl rfl (by rw [Q12 hzs24]) (Q15 3 (φ':=.own 61 3 QL.pair (.slice p25 ((u1_3_l ++ [(⟨x19.id,x19.ty,v21.take x19.args.length,v21.drop x19.args.length⟩ : FactDS)]).length) c25) (zz25 ++ [((⟨x19.id,x19.ty,v21.take x19.args.length,v21.drop x19.args.length⟩ : FactDS),(p21_0,c21_1))])) rfl (by rw [Q12 hzs24]) (H':=[_,_,_,_]) rfl (Q13 [2,0,1,3] rfl (H':=[_,_,_,_]) rfl (Qv [QR QL (zz25 ++ [((⟨x19.id,x19.ty,v21.take x19.args.length,v21.drop x19.args.length⟩ : FactDS),(p21_0,c21_1))]) none,_,_] (fun _ h=>Qo.bagPush (T:=QL) (x:=(⟨x19.id,x19.ty,v21.take x19.args.length,v21.drop x19.args.length⟩ : FactDS)) (r:=(p21_0,c21_1)) (zs:=zz25) (H:=[_,_,_]) h 0 rfl) (Qv [_,Qi QL 61 3 (.slice p25 ((u1_3_l ++ [(⟨x19.id,x19.ty,v21.take x19.args.length,v21.drop x19.args.length⟩ : FactDS)]).length) c25) (u1_3_l ++ [(⟨x19.id,x19.ty,v21.take x19.args.length,v21.drop x19.args.length⟩ : FactDS)])] (fun _ h=>h.treeIn 2 0 rfl rfl rfl hzs24) (Qs (S':=[_,_,_,_,_,_,_]) rfl rfl rfl rfl rfl (Q3 (Qa (Q2 (Q5 [3,4,0] (S':=[_,_,_]) rfl (Q1 (wP rfl ?_))))))))))))))
   refine wP rfl ?_
   obtain ⟨hg16,hm⟩:=Qq hm
   refine Qr (d:=16) (v':=.int .i64 ((u1_4 + 1:Nat):Int)) (S':=[_,_,_,_]) rfl rfl (Qw (a:=u1_4) (b:=1) hg16) (Qs (S':=[_,_,_,_]) rfl rfl rfl rfl rfl (Q3 ?_))
   have hE:=(Option.some.inj hm).symm
   replace hE:=QZ hLu1 hE
   refine QE [1] rfl (H':=[_]) rfl ?_
   refine Q1n (_,u1_4 + 1,(u1_3_l ++ [(⟨x19.id,x19.ty,v21.take x19.args.length,v21.drop x19.args.length⟩ : FactDS)]),p25,c25,((u1_3_l ++ [(⟨x19.id,x19.ty,v21.take x19.args.length,v21.drop x19.args.length⟩ : FactDS)]).length)) (Nat.lt_succ_self _) hE [4,3,0] rfl (asK [3] rfl) rfl
  ·
   replace hm:=QP hm hb14
   refine Q5 [3,0] (S':=[_,_]) rfl (QH (Q8 (Q8 (Qh ?_))))
   have hE:=(Option.some.inj hm).symm
   replace hE:=Qy hLu1 hE
   refine Ql (u1_3_l,u1_3_p,u1_3_c,u1_3_n) hE [3,0] rfl (asK [0] rfl) rfl
 ·
  rintro ⟨j_1_3_l,j_1_3_p,j_1_3_c,j_1_3_n⟩ hE
  try dsimp only
  have hm:=hLj_1
  rw [hE] at hm
  refine Q4 ?_
  obtain ⟨bj_2,hm,hLj_2⟩:=Q6 hm
  refine Q14 (σ:=(List FactDS) × (Option Addr) × Nat × Nat) (fun (j_2_3_l,j_2_3_p,j_2_3_c,j_2_3_n)=>bj_2 = j_2_3_l) (fun (j_2_3_l,j_2_3_p,j_2_3_c,j_2_3_n)=>[(3,.slice j_2_3_p j_2_3_n j_2_3_c),(0,.slice qp0 l0.length qc1)]) (fun (j_2_3_l,j_2_3_p,j_2_3_c,j_2_3_n)=>[.sli 3 QO qp0 qc1 l0]) (fun (j_2_3_l,j_2_3_p,j_2_3_c,j_2_3_n)=>[Qi QL 61 3 (.slice j_2_3_p j_2_3_n j_2_3_c) j_2_3_l]) ?_ ?_
  ·
   refine Q4 (Q1 (wP rfl (Q3 (Q2 (Qc (QI (σ:=Nat × Nat × (List FactDS) × (Option Addr) × Nat × Nat) (fun (nu2,u2_6,u2_3_l,u2_3_p,u2_3_c,u2_3_n)=>Q2s (Q3w N) nu2 (u2_6,u2_3_l) = some bj_2) (fun (nu2,u2_6,u2_3_l,u2_3_p,u2_3_c,u2_3_n)=>nu2) (fun (nu2,u2_6,u2_3_l,u2_3_p,u2_3_c,u2_3_n)=>[(6,.int .i64 ((u2_6:Nat):Int)),(3,.slice u2_3_p u2_3_n u2_3_c),(0,.slice qp0 l0.length qc1)]) (fun (nu2,u2_6,u2_3_l,u2_3_p,u2_3_c,u2_3_n)=>[.sli 3 QO qp0 qc1 l0]) (fun (nu2,u2_6,u2_3_l,u2_3_p,u2_3_c,u2_3_n)=>[Qi QL 61 3 (.slice u2_3_p u2_3_n u2_3_c) u2_3_l]) (N,0,j_1_3_l,j_1_3_p,j_1_3_c,j_1_3_n) hm [6,3,0] rfl (asK [0] rfl) rfl (fun s_ hm=>?_)))))))
   obtain ⟨nu2,u2_6,u2_3_l,u2_3_p,u2_3_c,u2_3_n⟩:=s_
   try dsimp only at hm ⊢
   obtain ⟨mu2,bu2,hnu2,hq,hLu2⟩:=Q1m hm
   clear hm
   subst hnu2
   replace hm:=hq
   clear hq
   unfold Q3w at hm
   try dsimp only at hm
   refine Q4 (Q4 (Q1 (wP rfl (wP rfl (Qr (d:=27) (v':=.bool (decide (u2_6 < 12))) (S':=[_,_,_,_]) rfl rfl (Q3a (a:=u2_6) (b:=12)) (Q3 (Q2 (Q5 [27,6,3,0] (S':=[_,_,_,_]) rfl ?_))))))))
   refine Qm rfl (fun hb27=>?_) (fun hb27=>?_)
   ·
    replace hm:=QQ hm hb27
    refine Q5 [6,3,0] (S':=[_,_,_]) rfl (Qj (Q2 (Q4 (Qc (Q1 (wP rfl (wP rfl ?_)))))))
    obtain ⟨_,hc32,hm⟩:=Q6 hm
    try dsimp only at hm
    refine wC [] [0] rfl fn_96 rfl (Q3O N 1 ((u2_6:Nat):Int) hc32) (asK [] rfl) rfl (H':=[_]) rfl ?_
    rintro _ _ _ ⟨rfl,rfl,rfl⟩
    refine QJ rfl rfl rfl (Q0 rfl) rfl Q1s Q1G tZ_61 rfl (zs:=[.int .i64 0,.int .i64 0,.slice none 0 0]) (by kernel_rfl) rfl (out:=[_,_,_]) rfl (fun g33=>(QG 1 rfl (fun hzt20 _=>?_)))
    subst hzt20
    refine QM 149 3 R_V (Q15 0 (φ':=.own 149 3 R_V (.slice none ((([] : List V) ++ []).length) 0) (([] : List V) ++ [])) rfl rfl (H':=[_,_,_]) rfl (Q1q 2 rfl (fun zz34 hzz34=>?_)))
    obtain ⟨hg34,hm⟩:=Qq hm
    have hzs36:List.map (fun x:FactDS × (Option Addr × Nat)=>x.1) (zz34 ++ [((⟨(IntKind.wrap .i64 ((IntKind.wrap .i64 (1000003 * (IntKind.wrap .i64 (1 + 7)))) + ((u2_6:Nat):Int))),0,([] : List V),[]⟩ : FactDS),(none,0))]) = u2_3_l ++ [(⟨(IntKind.wrap .i64 ((IntKind.wrap .i64 (1000003 * (IntKind.wrap .i64 (1 + 7)))) + ((u2_6:Nat):Int))),0,([] : List V),[]⟩ : FactDS)]:=Q5I hzz34 (us:=[(⟨(IntKind.wrap .i64 ((IntKind.wrap .i64 (1000003 * (IntKind.wrap .i64 (1 + 7)))) + ((u2_6:Nat):Int))),0,([] : List V),[]⟩ : FactDS)]) rfl
    have hgl34:zz34.length + ([((⟨(IntKind.wrap .i64 ((IntKind.wrap .i64 (1000003 * (IntKind.wrap .i64 (1 + 7)))) + ((u2_6:Nat):Int))),0,([] : List V),[]⟩ : FactDS),(none,0))] : List (FactDS × (Option Addr × Nat))).length ≤ 3518437208883:=by rw [Q12 hzz34]; exact hg34
    refine Q3c (R:=QL.pair) ([((⟨(IntKind.wrap .i64 ((IntKind.wrap .i64 (1000003 * (IntKind.wrap .i64 (1 + 7)))) + ((u2_6:Nat):Int))),0,([] : List V),[]⟩ : FactDS),(none,0))]) 3 2 rfl rfl rfl (Q0 rfl) rfl rfl rfl rfl rfl (fun F w hφ=>⟨[.int .i64 (IntKind.wrap .i64 ((IntKind.wrap .i64 (1000003 * (IntKind.wrap .i64 (1 + 7)))) + ((u2_6:Nat):Int))),.int .i64 0,.slice none 0 0],[],rfl,rfl,rfl,rfl⟩) Q1s tR_61 rfl rfl (Nat.le_trans hgl34 (by decide)) (Nat.le_trans (Nat.mul_le_mul_right _ hgl34) (by decide)) (H2:=fun p34 c34=>[_,_,_,.own 61 3 QL.pair (.slice p34 ((zz34 ++ [((⟨(IntKind.wrap .i64 ((IntKind.wrap .i64 (1000003 * (IntKind.wrap .i64 (1 + 7)))) + ((u2_6:Nat):Int))),0,([] : List V),[]⟩ : FactDS),(none,0))]).length) c34) (zz34 ++ [((⟨(IntKind.wrap .i64 ((IntKind.wrap .i64 (1000003 * (IntKind.wrap .i64 (1 + 7)))) + ((u2_6:Nat):Int))),0,([] : List V),[]⟩ : FactDS),(none,0))])]) (fun _ _=>rfl) (fun p34 c34=>(Q2k 2 rfl (H':=[_,_,_]) rfl (Qr (d:=34) (v':=.slice p34 ((u2_3_l ++ [(⟨(IntKind.wrap .i64 ((IntKind.wrap .i64 (1000003 * (IntKind.wrap .i64 (1 + 7)))) + ((u2_6:Nat):Int))),0,([] : List V),[]⟩ : FactDS)]).length) c34) (S':=[_,_,_,_,_,_,_]) rfl rfl (by rw [Q12 hzs36]) (Q15 2 (φ':=.own 61 3 QL.pair (.slice p34 ((u2_3_l ++ [(⟨(IntKind.wrap .i64 ((IntKind.wrap .i64 (1000003 * (IntKind.wrap .i64 (1 + 7)))) + ((u2_6:Nat):Int))),0,([] : List V),[]⟩ : FactDS)]).length) c34) (zz34 ++ [((⟨(IntKind.wrap .i64 ((IntKind.wrap .i64 (1000003 * (IntKind.wrap .i64 (1 + 7)))) + ((u2_6:Nat):Int))),0,([] : List V),[]⟩ : FactDS),(none,0))])) rfl (by rw [Q12 hzs36]) (H':=[_,_,_]) rfl (Q13 [1,0,2] rfl (H':=[_,_,_]) rfl (Qv [QR QL (zz34 ++ [((⟨(IntKind.wrap .i64 ((IntKind.wrap .i64 (1000003 * (IntKind.wrap .i64 (1 + 7)))) + ((u2_6:Nat):Int))),0,([] : List V),[]⟩ : FactDS),(none,0))]) none,_] (fun _ h=>Qo.bagPush (T:=QL) (x:=(⟨(IntKind.wrap .i64 ((IntKind.wrap .i64 (1000003 * (IntKind.wrap .i64 (1 + 7)))) + ((u2_6:Nat):Int))),0,([] : List V),[]⟩ : FactDS)) (r:=(none,0)) (zs:=zz34) (H:=[_,_]) h 0 rfl) (Qv [Qi QL 61 3 (.slice p34 ((u2_3_l ++ [(⟨(IntKind.wrap .i64 ((IntKind.wrap .i64 (1000003 * (IntKind.wrap .i64 (1 + 7)))) + ((u2_6:Nat):Int))),0,([] : List V),[]⟩ : FactDS)]).length) c34) (u2_3_l ++ [(⟨(IntKind.wrap .i64 ((IntKind.wrap .i64 (1000003 * (IntKind.wrap .i64 (1 + 7)))) + ((u2_6:Nat):Int))),0,([] : List V),[]⟩ : FactDS)])] (fun _ h=>h.treeIn 1 0 rfl rfl rfl hzs36) (Qs (S':=[_,_,_,_,_,_,_]) rfl rfl rfl rfl rfl (Q3 (Qa (Q2 (Q5 [3,6,0] (S':=[_,_,_]) rfl (Q1 (wP rfl ?_))))))))))))))
    refine wP rfl ?_
    obtain ⟨hg29,hm⟩:=Qq hm
    refine Qr (d:=29) (v':=.int .i64 ((u2_6 + 1:Nat):Int)) (S':=[_,_,_,_]) rfl rfl (Qw (a:=u2_6) (b:=1) hg29) (Qs (S':=[_,_,_,_]) rfl rfl rfl rfl rfl (Q3 ?_))
    have hE:=(Option.some.inj hm).symm
    replace hE:=QZ hLu2 hE
    refine Q1n (_,u2_6 + 1,(u2_3_l ++ [(⟨(IntKind.wrap .i64 ((IntKind.wrap .i64 (1000003 * (IntKind.wrap .i64 (1 + 7)))) + ((u2_6:Nat):Int))),0,([] : List V),[]⟩ : FactDS)]),p34,c34,((u2_3_l ++ [(⟨(IntKind.wrap .i64 ((IntKind.wrap .i64 (1000003 * (IntKind.wrap .i64 (1 + 7)))) + ((u2_6:Nat):Int))),0,([] : List V),[]⟩ : FactDS)]).length)) (Nat.lt_succ_self _) hE [6,3,0] rfl (asK [0] rfl) rfl
   ·
    replace hm:=QP hm hb27
    refine Q5 [3,0] (S':=[_,_]) rfl (QH (Q8 (Q8 (Qh ?_))))
    have hE:=(Option.some.inj hm).symm
    replace hE:=Qy hLu2 hE
    refine Ql (u2_3_l,u2_3_p,u2_3_c,u2_3_n) hE [3,0] rfl (asK [0] rfl) rfl
  ·
   rintro ⟨j_2_3_l,j_2_3_p,j_2_3_c,j_2_3_n⟩ hE
   try dsimp only
   have hm:=hLj_2
   rw [hE] at hm
   refine Q4 (Q1 (wP rfl (wP rfl (wN rfl Q1s ?_))))
   obtain ⟨hg38,hm⟩:=Qq hm
   refine Q1q 0 rfl (fun zz38 hzz38=>?_)
   have hgt38:l0.length ≤ zz38.length:=by rw [Q12 hzz38]; exact hg38
   refine Q6s 1 rfl (fun hsp38 hcm38=>(Q4T rfl rfl rfl (Q0 rfl) rfl rfl rfl rfl Q1s Q1G (Nat.le_trans hgt38 (by rw [← hcm38.2]; exact hcm38.1)) hsp38 (wP rfl (Q3 (Q2 (Q5 [2] (S':=[_]) rfl (Qn ?_)))))))
   have hE:=(Option.some.inj hm).symm
   replace hE:=hE.symm
   subst hE
   refine Q3o [Qi QL 61 3 (.slice j_2_3_p j_2_3_n j_2_3_c) j_2_3_l] (fun _ h=>h.treeIn 1 0 rfl rfl rfl hzz38) ?_
   refine Qp (Hr:=[_]) [0] Tryz.results52 (Qd rfl) ⟨j_2_3_p,j_2_3_c,j_2_3_n,rfl,rfl,rfl⟩ (asK [] rfl) rfl rfl (.inl rfl)
theorem Q6h (N:Nat) (a0:Int) (a1:Int) (qp0:Option Addr) (qc1:Nat) (l2:List FactD) (qp2:Option Addr) (qc3:Nat) (l3:List V) (o2:List FactDS) (o6:List V) (hm:Q24 N a0 a1 l2 l3 = some (o2,o6)):Q1v Tryz.prog 33 [.agg #[.int .i64 a0,.int .i64 a1,.slice qp0 l2.length qc1,.slice qp2 l3.length qc3]] [.sli 3 QO qp0 qc1 l2,.sli 3 R_V qp2 qc3 l3] [] (fun v Φr Hr=>∃ (o0:Option Addr) (o1:Nat) (o3:Nat) (o4:Option Addr) (o5:Nat) (o7:Nat),v = .agg #[.int .i64 a0,.int .i64 a1,.slice o0 l2.length o1,.slice o4 l3.length o5] ∧ Φr = [] ∧ Hr = [Qi QL 61 3 (.slice o0 o3 o1) o2,.own 149 3 R_V (.slice o4 o7 o5) o6]):=by
 unfold Q24 at hm
 refine Qx Tryz.func33 rfl Tryz.ntmps33 rfl (S:=[_]) rfl (fun C=>(Q4 (Q1 (wB rfl (fun g1=>(Q2a rfl rfl rfl (Q0 rfl) rfl Q5Q rfl (fun g2=>(Q3 (Q2 (Q5 [2,1] (S':=[_,_]) rfl (Q4 (Q1 (wF rfl Q4g (wD 1 2 rfl Q31 Q4R rfl ?_))))))))))))))
 obtain ⟨v5,hc5,hm⟩:=Q6 hm
 refine wC [] [0,1] rfl fn_52 rfl (Q7A N qp0 qc1 l2 _ hc5) (asK [0] rfl) rfl (H':=[_,_]) rfl ?_
 rintro _ _ _ ⟨p5_0,c5_1,c5_2,rfl,rfl,rfl⟩
 refine wF rfl Q4g (wS 2 2 rfl Q31 (all':=[_,_,_,_]) rfl (H':=[_,_,_]) rfl (Q3 (Q2 (Q5 [2,1] (S':=[_,_]) rfl (Q4 (Q1 (wF rfl Q5b (wD 2 3 rfl Q1Z Q41 rfl ?_))))))))
 obtain ⟨v9,hc9,hm⟩:=Q6 hm
 refine wC [] [0,1,2] rfl fn_53 rfl (Q65 N qp2 qc3 l3 _ hc9) (asK [1] rfl) rfl (H':=[_,_,_]) rfl ?_
 rintro _ _ _ ⟨p9_0,c9_1,c9_2,rfl,rfl,rfl⟩
 refine wF rfl Q5b (wS 3 3 rfl Q1Z (all':=[_,_,_,_]) rfl (H':=[_,_,_,_]) rfl (Q3 (Q2 (Q5 [2,1] (S':=[_,_]) rfl (Q4 (Q1 (Q1e 3 0 rfl rfl rfl (Q0 rfl) rfl rfl rfl (cs:=[_,_,_,_]) rfl Q11 Q1W rfl rfl (wS 2 0 rfl Q11 (all':=[_,_,_,_]) rfl (H':=[_,_,_,_]) rfl (Q3 (Q2 (Q5 [2] (S':=[_]) rfl (Qn ?_))))))))))))
 have hE:=(Option.some.inj hm).symm
 obtain ⟨hE0,hE1⟩:=Prod.mk.inj hE
 clear hE
 replace hE0:=hE0.symm
 subst hE0
 replace hE1:=hE1.symm
 subst hE1
 refine Qp (Hr:=[_,_]) [1,0] Tryz.results33 (Q3y 2 rfl rfl Q11 Q1W rfl rfl) ⟨p5_0,c5_1,c5_2,p9_0,c9_1,c9_2,rfl,rfl,rfl⟩ (asK [] rfl) rfl rfl (.inl rfl)
theorem Q7g (N:Nat) (a0:Int) (a1:Int) (a2:Int) (a3:Int) (qp0:Option Addr) (qc1:Nat) (l4:List FactD) (qp2:Option Addr) (qc3:Nat) (l5:List V) (o2:List FactDS) (o6:List V) (hm:Q4i N a0 a1 a2 a3 l4 l5 = some (o2,o6)):Q1v Tryz.prog 23 [.agg #[.int .i64 a0,.int .i64 a1,.int .i64 a2,.int .i64 a3,.slice qp0 l4.length qc1,.slice qp2 l5.length qc3]] [.sli 3 QO qp0 qc1 l4,.sli 3 R_V qp2 qc3 l5] [] (fun v Φr Hr=>∃ (o0:Option Addr) (o1:Nat) (o3:Nat) (o4:Option Addr) (o5:Nat) (o7:Nat),v = .agg #[.int .i64 a0,.int .i64 a1,.int .i64 a2,.int .i64 a3,.slice o0 l4.length o1,.slice o4 l5.length o5] ∧ Φr = [] ∧ Hr = [Qi QL 61 3 (.slice o0 o3 o1) o2,.own 149 3 R_V (.slice o4 o7 o5) o6]):=by
 unfold Q4i at hm
 refine Qx Tryz.func23 rfl Tryz.ntmps23 rfl (S:=[_]) rfl (fun C=>(Q4 (Q1 (wB rfl (fun g1=>(Q2a rfl rfl rfl (Q0 rfl) rfl Q4G rfl (fun g2=>(Q3 (Q2 (Q5 [2,1] (S':=[_,_]) rfl (Q4 (Q1 (wF rfl Q4b (Q1e 1 2 rfl rfl rfl (Q0 rfl) rfl rfl rfl (cs:=[_,_,_,_]) rfl Q11 Q1W rfl rfl ?_))))))))))))))
 obtain ⟨⟨v5_0,v5_1⟩,hc5,hm⟩:=Q6 hm
 try dsimp only at hm
 refine wC [] [0,1] rfl fn_33 rfl (Q6h N a2 a3 qp0 qc1 l4 qp2 qc3 l5 _ _ hc5) (asK [0,1] rfl) rfl (H':=[_,_]) rfl ?_
 rintro _ _ _ ⟨p5_0,c5_1,c5_2,p5_3,c5_4,c5_5,rfl,rfl,rfl⟩
 refine wF rfl Q4b (wS 3 2 rfl Q11 (all':=[_,_,_,_,_,_]) rfl (H':=[_,_,_,_]) rfl (Q3 (Q2 (Q5 [2,1] (S':=[_,_]) rfl (Q4 (Q1 (Q1e 3 0 rfl rfl rfl (Q0 rfl) rfl rfl rfl (cs:=[_,_,_,_,_,_]) rfl QN Q4O rfl rfl (wS 2 0 rfl QN (all':=[_,_,_,_,_,_]) rfl (H':=[_,_,_,_]) rfl (Q3 (Q2 (Q5 [2] (S':=[_]) rfl (Qn ?_))))))))))))
 have hE:=(Option.some.inj hm).symm
 obtain ⟨hE0,hE1⟩:=Prod.mk.inj hE
 clear hE
 replace hE0:=hE0.symm
 subst hE0
 replace hE1:=hE1.symm
 subst hE1
 refine Qp (Hr:=[_,_]) [0,1] Tryz.results23 (Q3y 2 rfl rfl QN Q4O rfl rfl) ⟨p5_0,c5_1,c5_2,p5_3,c5_4,c5_5,rfl,rfl,rfl⟩ (asK [] rfl) rfl rfl (.inl rfl)
theorem Q3f (N:Nat) (a0:Int) (a1:Int)  (hm:Q1z N a0 a1 = some ()):Q1v Tryz.prog 24 [.int .i64 a0,.int .i64 a1] [] [] (fun v Φr Hr=>v = .agg #[.int .i64 (IntKind.wrap .i64 ((IntKind.wrap .i64 (1000003 * (IntKind.wrap .i64 (a0 + 7)))) + a1)),.int .i64 0,.int .i64 0,.int .i64 0,.slice none 0 0,.slice none 0 0] ∧ Φr = [] ∧ Hr = []):=by
 unfold Q1z at hm
 refine Qx Tryz.func24 rfl Tryz.ntmps24 rfl (S:=[_,_]) rfl (fun C=>(Q4 (Q1 (Q2a rfl rfl rfl (Q0 rfl) rfl Q4G rfl (fun g4=>(Q3 (Q2 (Q4 (Q1 (wP rfl (wP rfl ?_)))))))))))
 obtain ⟨_,hc7,hm⟩:=Q6 hm
 try dsimp only at hm
 refine wC [] [0] rfl fn_48 rfl (Q5a N a0 a1 hc7) (asK [] rfl) rfl (H':=[_]) rfl ?_
 rintro _ _ _ ⟨rfl,rfl,rfl⟩
 refine Q2t rfl rfl rfl (Q0 rfl) rfl Q4G tP_35 rfl (out:=[_,_,_,_,_,_]) rfl (wS 0 0 rfl QN (all':=[_,_,_,_,_,_]) rfl (H':=[_]) rfl (Q3 (Q2 (Q5 [4] (S':=[_]) rfl (Qn ?_)))))
 have hE:=(Option.some.inj hm).symm
 refine Qp (Hr:=[]) [] Tryz.results24 (Q3y 0 rfl rfl QN Q4O rfl rfl) ⟨rfl,rfl,rfl⟩ (asK [] rfl) rfl rfl (.inl rfl)
end Go.Proofs.YtjfpefddanmliaaGreat
