import Derived.Test.YtjfpefddanmliaaGreatXW1
namespace Go.Proofs.YtjfpefddanmliaaGreat
open Go.RowKit
set_option maxRecDepth 100000
set_option maxHeartbeats 4000000
theorem Q76 (N:Nat) (qp0:Option Addr) (qc1:Nat) (l0:List SessD) (o2:List SessDS) (hm:Q3s N l0 = some o2):Q1v Tryz.prog 10 [.slice qp0 l0.length qc1] [.sli 6 Qt qp0 qc1 l0] [] (fun v Φr Hr=>∃ (o0:Option Addr) (o1:Nat) (o3:Nat),v = .slice o0 l0.length o1 ∧ Φr = [] ∧ Hr = [Qi Q18 35 6 (.slice o0 o3 o1) o2]):=by
 unfold Q3s at hm
 refine Qx Tryz.func10 rfl Tryz.ntmps10 rfl (S:=[_]) rfl (fun C=>(Q4 (Q1 (wP rfl (Q3 (Q2 (Q5 [0] (S':=[_]) rfl (Q4 (Q1 (wP rfl (wN rfl QB (wP rfl ?_))))))))))))
 obtain ⟨hg9,hm⟩:=Qq hm
 refine Qr (d:=9) (v':=.int .i64 ((l0.length + 12:Nat):Int)) (S':=[_,_,_]) rfl rfl (Qw (a:=l0.length) (b:=12) hg9) ?_
 obtain ⟨hg10,hm⟩:=Qq hm
 refine wl_makeCap (m:=l0.length + 12) Qe.pair rfl rfl rfl (Q0 rfl) rfl rfl rfl rfl QB Q6Q rfl rfl (Nat.le_trans (Nat.mul_le_mul_left _ hg10) (by decide)) (Nat.le_trans hg10 (by decide)) (fun g10=>(Qv [QR Qe [] none,_] (fun _ h=>h.bagNil Qe) (Qv [Qi Qe 35 6 (.slice (some ⟨g10,0,none⟩) 0 (l0.length + 12)) []] (fun _ h=>h.treeIn 1 0 rfl rfl rfl rfl) (wP rfl (Q3 (Q2 (Q5 [3,0] (S':=[_,_]) rfl (Q4 ?_))))))))
 obtain ⟨bj_1,hm,hLj_1⟩:=Q6 hm
 refine Q14 (σ:=(List SessDS) × (Option Addr) × Nat × Nat) (fun (j_1_3_l,j_1_3_p,j_1_3_c,j_1_3_n)=>bj_1 = j_1_3_l) (fun (j_1_3_l,j_1_3_p,j_1_3_c,j_1_3_n)=>[(3,.slice j_1_3_p j_1_3_n j_1_3_c),(0,.slice qp0 l0.length qc1)]) (fun (j_1_3_l,j_1_3_p,j_1_3_c,j_1_3_n)=>[.sli 6 Qt qp0 qc1 l0]) (fun (j_1_3_l,j_1_3_p,j_1_3_c,j_1_3_n)=>[Qi Q18 35 6 (.slice j_1_3_p j_1_3_n j_1_3_c) j_1_3_l]) ?_ ?_
 ·
  refine Q4 (Q1 (wP rfl (Q3 (Q2 (Qc (Q6D [Qi Q18 35 6 (.slice (some ⟨g10,0,none⟩) 0 (l0.length + 12)) []] (fun _ h=>h.treeKind Q18 0 rfl) (QI (σ:=Nat × Nat × (List SessDS) × (Option Addr) × Nat × Nat) (fun (nu1,u1_4,u1_3_l,u1_3_p,u1_3_c,u1_3_n)=>Q2s (Q2N N l0) nu1 (u1_4,u1_3_l) = some bj_1) (fun (nu1,u1_4,u1_3_l,u1_3_p,u1_3_c,u1_3_n)=>nu1) (fun (nu1,u1_4,u1_3_l,u1_3_p,u1_3_c,u1_3_n)=>[(4,.int .i64 ((u1_4:Nat):Int)),(3,.slice u1_3_p u1_3_n u1_3_c),(0,.slice qp0 l0.length qc1)]) (fun (nu1,u1_4,u1_3_l,u1_3_p,u1_3_c,u1_3_n)=>[.sli 6 Qt qp0 qc1 l0]) (fun (nu1,u1_4,u1_3_l,u1_3_p,u1_3_c,u1_3_n)=>[Qi Q18 35 6 (.slice u1_3_p u1_3_n u1_3_c) u1_3_l]) (N,0,[],some ⟨g10,0,none⟩,l0.length + 12,0) hm [4,3,0] rfl (asK [0] rfl) rfl (fun s_ hm=>?_))))))))
  obtain ⟨nu1,u1_4,u1_3_l,u1_3_p,u1_3_c,u1_3_n⟩:=s_
  try dsimp only at hm ⊢
  obtain ⟨mu1,bu1,hnu1,hq,hLu1⟩:=Q1m hm
  clear hm
  subst hnu1
  replace hm:=hq
  clear hq
  unfold Q2N at hm
  try dsimp only at hm
  refine Q4 (Q4 (Q1 (wP rfl (wP rfl (wN rfl QB (wP rfl (Qr (d:=14) (v':=.bool (decide (u1_4 < l0.length))) (S':=[_,_,_,_,_,_]) rfl rfl (Q3a (a:=u1_4) (b:=l0.length)) (Q3 (Q2 (Q5 [14,4,3,0] (S':=[_,_,_,_]) rfl ?_))))))))))
  refine Qm rfl (fun hb14=>?_) (fun hb14=>?_)
  ·
   replace hm:=QQ hm hb14
   refine Q5 [4,3,0] (S':=[_,_,_]) rfl (Qj (Q2 (Q4 (Qc (Q4 (Q1 (wP rfl (wP rfl ?_))))))))
   obtain ⟨x19,hx19,hm⟩:=Q6 hm
   refine Q3A 0 u1_4 rfl rfl rfl (Q0 rfl) rfl rfl rfl rfl rfl hx19 QB QN (fun b19 q19 cs19 hlx19=>(Q4L Q17 1 rfl (fun r19 er19 _=>?_)))
   subst er19
   refine Q4M 2 0 rfl rfl rfl (Q0 rfl) rfl rfl rfl (cs:=[_,_,_,_,_,_]) rfl QN Q4O rfl rfl ?_
   obtain ⟨⟨v21_0,v21_1⟩,hc21,hm⟩:=Q6 hm
   try dsimp only at hm
   refine wC [] [0] rfl fn_23 rfl (Q7g N x19.id x19.seq x19.r.err x19.r.num r19.1.1 r19.1.2 x19.r.facts r19.2.1 r19.2.2 x19.r.said _ _ hc21) (asK [0,1] rfl) rfl (H':=[_]) rfl ?_
   rintro _ _ _ ⟨p21_0,c21_1,c21_2,p21_3,c21_4,c21_5,rfl,rfl,rfl⟩
   refine Q2a rfl rfl rfl (Q0 rfl) rfl Q4G rfl (fun g5=>(wS 0 0 rfl QN (all':=[_,_,_,_,_,_]) rfl (H':=[_,_,_,_]) rfl (Q3 (Q2 (Q5 [5,4,3,0] (S':=[_,_,_,_]) rfl (Q1 (wP rfl (Q1e 0 0 rfl rfl rfl (Q0 rfl) rfl rfl rfl (cs:=[_,_,_,_,_,_]) rfl QN Q4O rfl rfl (QJ rfl rfl rfl (Q0 rfl) rfl QB QN Q4G rfl (zs:=[.int .i64 0,.int .i64 0,.int .i64 0,.int .i64 0,.slice none 0 0,.slice none 0 0]) (by kernel_rfl) rfl (out:=[_,_,_,_,_,_]) rfl (fun g24=>(QG 4 rfl (fun hzt19 _=>?_))))))))))))
   subst hzt19
   refine QG 2 rfl (fun hzt20 _=>?_)
   subst hzt20
   obtain ⟨hzk34,hm⟩:=Qq hm
   refine Q15 2 (φ':=Qi QL 61 3 (.slice p21_0 ((v21_0.take x19.r.facts.length ++ v21_0.drop x19.r.facts.length).length) c21_1) (v21_0.take x19.r.facts.length ++ v21_0.drop x19.r.facts.length)) rfl (by rw [List.take_append_drop]) (H':=[_,_,_,_,_]) rfl (Q4q 1 (v':=.agg #[.int .i64 (x19.id),.int .i64 (x19.seq),.int .i64 (x19.r.err),.int .i64 (x19.r.num),.slice p21_0 ((v21_0.take x19.r.facts.length).length) c21_1,.slice p21_3 x19.r.said.length c21_4]) rfl (by rw [Q3R hzk34]) (Q15 0 (φ':=.blk g24 [.int .i64 (x19.id),.int .i64 (x19.seq),.int .i64 (x19.r.err),.int .i64 (x19.r.num),.slice p21_0 ((v21_0.take x19.r.facts.length).length) c21_1,.slice p21_3 x19.r.said.length c21_4] 35) rfl (by rw [Q3R hzk34]) (H':=[_,_,_,_,_]) rfl (Q15 1 (φ':=.blk g5 [.int .i64 (x19.id),.int .i64 (x19.seq),.int .i64 (x19.r.err),.int .i64 (x19.r.num),.slice p21_0 ((v21_0.take x19.r.facts.length).length) c21_1,.slice p21_3 x19.r.said.length c21_4] 35) rfl (by rw [Q3R hzk34]) (H':=[_,_,_,_,_]) rfl (Q2n 3 rfl (fun hzc21_5 _=>?_)))))
   subst hzc21_5
   obtain ⟨hzk35,hm⟩:=Qq hm
   refine Q15 3 (φ':=.own 149 3 R_V (.slice p21_3 ((v21_1.take x19.r.said.length ++ v21_1.drop x19.r.said.length).length) c21_4) (v21_1.take x19.r.said.length ++ v21_1.drop x19.r.said.length)) rfl (by rw [List.take_append_drop]) (H':=[_,_,_,_,_]) rfl (Q4q 1 (v':=.agg #[.int .i64 (x19.id),.int .i64 (x19.seq),.int .i64 (x19.r.err),.int .i64 (x19.r.num),.slice p21_0 ((v21_0.take x19.r.facts.length).length) c21_1,.slice p21_3 ((v21_1.take x19.r.said.length).length) c21_4]) rfl (by rw [Q3R hzk35]) (Q15 0 (φ':=.blk g24 [.int .i64 (x19.id),.int .i64 (x19.seq),.int .i64 (x19.r.err),.int .i64 (x19.r.num),.slice p21_0 ((v21_0.take x19.r.facts.length).length) c21_1,.slice p21_3 ((v21_1.take x19.r.said.length).length) c21_4] 35) rfl (by rw [Q3R hzk35]) (H':=[_,_,_,_,_]) rfl (Q15 1 (φ':=.blk g5 [.int .i64 (x19.id),.int .i64 (x19.seq),.int .i64 (x19.r.err),.int .i64 (x19.r.num),.slice p21_0 ((v21_0.take x19.r.facts.length).length) c21_1,.slice p21_3 ((v21_1.take x19.r.said.length).length) c21_4] 35) rfl (by rw [Q3R hzk35]) (H':=[_,_,_,_,_]) rfl (Q1q 4 rfl (fun zz25 hzz25=>?_)))))
   obtain ⟨hg25,hm⟩:=Qq hm
   have hzs36:List.map (fun x:SessDS × ((Option Addr × Nat) × (Option Addr × Nat))=>x.1) (zz25 ++ [((⟨x19.id,x19.seq,(⟨x19.r.err,x19.r.num,v21_0.take x19.r.facts.length,v21_0.drop x19.r.facts.length,v21_1.take x19.r.said.length,v21_1.drop x19.r.said.length⟩ : ReplyDS)⟩ : SessDS),((p21_0,c21_1),(p21_3,c21_4)))]) = u1_3_l ++ [(⟨x19.id,x19.seq,(⟨x19.r.err,x19.r.num,v21_0.take x19.r.facts.length,v21_0.drop x19.r.facts.length,v21_1.take x19.r.said.length,v21_1.drop x19.r.said.length⟩ : ReplyDS)⟩ : SessDS)]:=Q5I hzz25 (us:=[(⟨x19.id,x19.seq,(⟨x19.r.err,x19.r.num,v21_0.take x19.r.facts.length,v21_0.drop x19.r.facts.length,v21_1.take x19.r.said.length,v21_1.drop x19.r.said.length⟩ : ReplyDS)⟩ : SessDS)]) rfl
   have hgl25:zz25.length + ([((⟨x19.id,x19.seq,(⟨x19.r.err,x19.r.num,v21_0.take x19.r.facts.length,v21_0.drop x19.r.facts.length,v21_1.take x19.r.said.length,v21_1.drop x19.r.said.length⟩ : ReplyDS)⟩ : SessDS),((p21_0,c21_1),(p21_3,c21_4)))] : List (SessDS × ((Option Addr × Nat) × (Option Addr × Nat)))).length ≤ 1759218604441:=by rw [Q12 hzz25]; exact hg25
   refine Q3c (R:=Q18.pair) ([((⟨x19.id,x19.seq,(⟨x19.r.err,x19.r.num,v21_0.take x19.r.facts.length,v21_0.drop x19.r.facts.length,v21_1.take x19.r.said.length,v21_1.drop x19.r.said.length⟩ : ReplyDS)⟩ : SessDS),((p21_0,c21_1),(p21_3,c21_4)))]) 5 1 rfl rfl rfl (Q0 rfl) rfl rfl rfl rfl rfl (fun F w hφ=>⟨[.int .i64 (x19.id),.int .i64 (x19.seq),.int .i64 (x19.r.err),.int .i64 (x19.r.num),.slice p21_0 ((v21_0.take x19.r.facts.length).length) c21_1,.slice p21_3 ((v21_1.take x19.r.said.length).length) c21_4],[],rfl,rfl,rfl,rfl⟩) QB Q6Q rfl rfl (Nat.le_trans hgl25 (by decide)) (Nat.le_trans (Nat.mul_le_mul_right _ hgl25) (by decide)) (H2:=fun p25 c25=>[_,_,_,_,_,.own 35 6 Q18.pair (.slice p25 ((zz25 ++ [((⟨x19.id,x19.seq,(⟨x19.r.err,x19.r.num,v21_0.take x19.r.facts.length,v21_0.drop x19.r.facts.length,v21_1.take x19.r.said.length,v21_1.drop x19.r.said.length⟩ : ReplyDS)⟩ : SessDS),((p21_0,c21_1),(p21_3,c21_4)))]).length) c25) (zz25 ++ [((⟨x19.id,x19.seq,(⟨x19.r.err,x19.r.num,v21_0.take x19.r.facts.length,v21_0.drop x19.r.facts.length,v21_1.take x19.r.said.length,v21_1.drop x19.r.said.length⟩ : ReplyDS)⟩ : SessDS),((p21_0,c21_1),(p21_3,c21_4)))])]) (fun _ _=>rfl) (fun p25 c25=>(Q2k 1 rfl (H':=[_,_,_,_,_]) rfl (Qr (d:=25) (v':=.slice p25 ((u1_3_l ++ [(⟨x19.id,x19.seq,(⟨x19.r.err,x19.r.num,v21_0.take x19.r.facts.length,v21_0.drop x19.r.facts.length,v21_1.take x19.r.said.length,v21_1.drop x19.r.said.length⟩ : ReplyDS)⟩ : SessDS)]).length) c25) (S':=[_,_,_,_,_,_,_]) rfl rfl (by rw [Q12 hzs36]) (Q15 4 (φ':=.own 35 6 Q18.pair (.slice p25 ((u1_3_l ++ [(⟨x19.id,x19.seq,(⟨x19.r.err,x19.r.num,v21_0.take x19.r.facts.length,v21_0.drop x19.r.facts.length,v21_1.take x19.r.said.length,v21_1.drop x19.r.said.length⟩ : ReplyDS)⟩ : SessDS)]).length) c25) (zz25 ++ [((⟨x19.id,x19.seq,(⟨x19.r.err,x19.r.num,v21_0.take x19.r.facts.length,v21_0.drop x19.r.facts.length,v21_1.take x19.r.said.length,v21_1.drop x19.r.said.length⟩ : ReplyDS)⟩ : SessDS),((p21_0,c21_1),(p21_3,c21_4)))])) rfl (by rw [Q12 hzs36]) (H':=[_,_,_,_,_]) rfl (Q13 [3,2,0,1,4] rfl (H':=[_,_,_,_,_]) rfl (Qv [QR Q18 (zz25 ++ [((⟨x19.id,x19.seq,(⟨x19.r.err,x19.r.num,v21_0.take x19.r.facts.length,v21_0.drop x19.r.facts.length,v21_1.take x19.r.said.length,v21_1.drop x19.r.said.length⟩ : ReplyDS)⟩ : SessDS),((p21_0,c21_1),(p21_3,c21_4)))]) none,_,_] (fun _ h=>Qo.bagPush (T:=Q18) (x:=(⟨x19.id,x19.seq,(⟨x19.r.err,x19.r.num,v21_0.take x19.r.facts.length,v21_0.drop x19.r.facts.length,v21_1.take x19.r.said.length,v21_1.drop x19.r.said.length⟩ : ReplyDS)⟩ : SessDS)) (r:=((p21_0,c21_1),(p21_3,c21_4))) (zs:=zz25) (H:=[_,_,_]) h 0 rfl) (Qv [_,Qi Q18 35 6 (.slice p25 ((u1_3_l ++ [(⟨x19.id,x19.seq,(⟨x19.r.err,x19.r.num,v21_0.take x19.r.facts.length,v21_0.drop x19.r.facts.length,v21_1.take x19.r.said.length,v21_1.drop x19.r.said.length⟩ : ReplyDS)⟩ : SessDS)]).length) c25) (u1_3_l ++ [(⟨x19.id,x19.seq,(⟨x19.r.err,x19.r.num,v21_0.take x19.r.facts.length,v21_0.drop x19.r.facts.length,v21_1.take x19.r.said.length,v21_1.drop x19.r.said.length⟩ : ReplyDS)⟩ : SessDS)])] (fun _ h=>h.treeIn 2 0 rfl rfl rfl hzs36) (Qs (S':=[_,_,_,_,_,_,_]) rfl rfl rfl rfl rfl (Q3 (Qa (Q2 (Q5 [3,4,0] (S':=[_,_,_]) rfl (Q1 (wP rfl ?_))))))))))))))
   refine wP rfl ?_
   obtain ⟨hg16,hm⟩:=Qq hm
   refine Qr (d:=16) (v':=.int .i64 ((u1_4 + 1:Nat):Int)) (S':=[_,_,_,_]) rfl rfl (Qw (a:=u1_4) (b:=1) hg16) (Qs (S':=[_,_,_,_]) rfl rfl rfl rfl rfl (Q3 ?_))
   have hE:=(Option.some.inj hm).symm
   replace hE:=QZ hLu1 hE
   refine QE [1] rfl (H':=[_]) rfl ?_
   refine Q1n (_,u1_4 + 1,(u1_3_l ++ [(⟨x19.id,x19.seq,(⟨x19.r.err,x19.r.num,v21_0.take x19.r.facts.length,v21_0.drop x19.r.facts.length,v21_1.take x19.r.said.length,v21_1.drop x19.r.said.length⟩ : ReplyDS)⟩ : SessDS)]),p25,c25,((u1_3_l ++ [(⟨x19.id,x19.seq,(⟨x19.r.err,x19.r.num,v21_0.take x19.r.facts.length,v21_0.drop x19.r.facts.length,v21_1.take x19.r.said.length,v21_1.drop x19.r.said.length⟩ : ReplyDS)⟩ : SessDS)]).length)) (Nat.lt_succ_self _) hE [4,3,0] rfl (asK [4] rfl) rfl
  ·
   replace hm:=QP hm hb14
   refine Q5 [3,0] (S':=[_,_]) rfl (QH (Q8 (Q8 (Qh ?_))))
   have hE:=(Option.some.inj hm).symm
   replace hE:=Qy hLu1 hE
   refine Ql (u1_3_l,u1_3_p,u1_3_c,u1_3_n) hE [3,0] rfl (asK [0] rfl) rfl
 ·
  rintro ⟨j_1_3_l,j_1_3_p,j_1_3_c,j_1_3_n⟩ hE
  try dsimp only
  have hm:=hLj_1
  rw [hE] at hm
  refine Q4 ?_
  obtain ⟨bj_2,hm,hLj_2⟩:=Q6 hm
  refine Q14 (σ:=(List SessDS) × (Option Addr) × Nat × Nat) (fun (j_2_3_l,j_2_3_p,j_2_3_c,j_2_3_n)=>bj_2 = j_2_3_l) (fun (j_2_3_l,j_2_3_p,j_2_3_c,j_2_3_n)=>[(3,.slice j_2_3_p j_2_3_n j_2_3_c),(0,.slice qp0 l0.length qc1)]) (fun (j_2_3_l,j_2_3_p,j_2_3_c,j_2_3_n)=>[.sli 6 Qt qp0 qc1 l0]) (fun (j_2_3_l,j_2_3_p,j_2_3_c,j_2_3_n)=>[Qi Q18 35 6 (.slice j_2_3_p j_2_3_n j_2_3_c) j_2_3_l]) ?_ ?_
  ·
   refine Q4 (Q1 (wP rfl (Q3 (Q2 (Qc (QI (σ:=Nat × Nat × (List SessDS) × (Option Addr) × Nat × Nat) (fun (nu2,u2_6,u2_3_l,u2_3_p,u2_3_c,u2_3_n)=>Q2s (Q2M N) nu2 (u2_6,u2_3_l) = some bj_2) (fun (nu2,u2_6,u2_3_l,u2_3_p,u2_3_c,u2_3_n)=>nu2) (fun (nu2,u2_6,u2_3_l,u2_3_p,u2_3_c,u2_3_n)=>[(6,.int .i64 ((u2_6:Nat):Int)),(3,.slice u2_3_p u2_3_n u2_3_c),(0,.slice qp0 l0.length qc1)]) (fun (nu2,u2_6,u2_3_l,u2_3_p,u2_3_c,u2_3_n)=>[.sli 6 Qt qp0 qc1 l0]) (fun (nu2,u2_6,u2_3_l,u2_3_p,u2_3_c,u2_3_n)=>[Qi Q18 35 6 (.slice u2_3_p u2_3_n u2_3_c) u2_3_l]) (N,0,j_1_3_l,j_1_3_p,j_1_3_c,j_1_3_n) hm [6,3,0] rfl (asK [0] rfl) rfl (fun s_ hm=>?_)))))))
   obtain ⟨nu2,u2_6,u2_3_l,u2_3_p,u2_3_c,u2_3_n⟩:=s_
   try dsimp only at hm ⊢
   obtain ⟨mu2,bu2,hnu2,hq,hLu2⟩:=Q1m hm
   clear hm
   subst hnu2
   replace hm:=hq
   clear hq
   unfold Q2M at hm
   try dsimp only at hm
   refine Q4 (Q4 (Q1 (wP rfl (wP rfl (Qr (d:=27) (v':=.bool (decide (u2_6 < 12))) (S':=[_,_,_,_]) rfl rfl (Q3a (a:=u2_6) (b:=12)) (Q3 (Q2 (Q5 [27,6,3,0] (S':=[_,_,_,_]) rfl ?_))))))))
   refine Qm rfl (fun hb27=>?_) (fun hb27=>?_)
   ·
    replace hm:=QQ hm hb27
    refine Q5 [6,3,0] (S':=[_,_,_]) rfl (Qj (Q2 (Q4 (Qc (Q1 (wP rfl (wP rfl ?_)))))))
    obtain ⟨_,hc32,hm⟩:=Q6 hm
    try dsimp only at hm
    refine wC [] [0] rfl fn_24 rfl (Q3f N 1 ((u2_6:Nat):Int) hc32) (asK [] rfl) rfl (H':=[_]) rfl ?_
    rintro _ _ _ ⟨rfl,rfl,rfl⟩
    refine QJ rfl rfl rfl (Q0 rfl) rfl QB QN Q4G rfl (zs:=[.int .i64 0,.int .i64 0,.int .i64 0,.int .i64 0,.slice none 0 0,.slice none 0 0]) (by kernel_rfl) rfl (out:=[_,_,_,_,_,_]) rfl (fun g33=>(QG 1 rfl (fun hzt32 _=>?_)))
    subst hzt32
    refine Qv [Qi QL 61 3 (.slice none 0 0) [],_,_] (fun _ h=>h.treeNil QL 61 3) (QM 149 3 R_V (Q15 1 (φ':=Qi QL 61 3 (.slice none ((([] : List FactDS) ++ []).length) 0) (([] : List FactDS) ++ [])) rfl rfl (H':=[_,_,_,_]) rfl (Q15 0 (φ':=.own 149 3 R_V (.slice none ((([] : List V) ++ []).length) 0) (([] : List V) ++ [])) rfl rfl (H':=[_,_,_,_]) rfl (Q1q 3 rfl (fun zz34 hzz34=>?_)))))
    obtain ⟨hg34,hm⟩:=Qq hm
    have hzs48:List.map (fun x:SessDS × ((Option Addr × Nat) × (Option Addr × Nat))=>x.1) (zz34 ++ [((⟨(IntKind.wrap .i64 ((IntKind.wrap .i64 (1000003 * (IntKind.wrap .i64 (1 + 7)))) + ((u2_6:Nat):Int))),0,(⟨0,0,([] : List FactDS),[],([] : List V),[]⟩ : ReplyDS)⟩ : SessDS),((none,0),(none,0)))]) = u2_3_l ++ [(⟨(IntKind.wrap .i64 ((IntKind.wrap .i64 (1000003 * (IntKind.wrap .i64 (1 + 7)))) + ((u2_6:Nat):Int))),0,(⟨0,0,([] : List FactDS),[],([] : List V),[]⟩ : ReplyDS)⟩ : SessDS)]:=Q5I hzz34 (us:=[(⟨(IntKind.wrap .i64 ((IntKind.wrap .i64 (1000003 * (IntKind.wrap .i64 (1 + 7)))) + ((u2_6:Nat):Int))),0,(⟨0,0,([] : List FactDS),[],([] : List V),[]⟩ : ReplyDS)⟩ : SessDS)]) rfl
    have hgl34:zz34.length + ([((⟨(IntKind.wrap .i64 ((IntKind.wrap .i64 (1000003 * (IntKind.wrap .i64 (1 + 7)))) + ((u2_6:Nat):Int))),0,(⟨0,0,([] : List FactDS),[],([] : List V),[]⟩ : ReplyDS)⟩ : SessDS),((none,0),(none,0)))] : List (SessDS × ((Option Addr × Nat) × (Option Addr × Nat)))).length ≤ 1759218604441:=by rw [Q12 hzz34]; exact hg34
    refine Q3c (R:=Q18.pair) ([((⟨(IntKind.wrap .i64 ((IntKind.wrap .i64 (1000003 * (IntKind.wrap .i64 (1 + 7)))) + ((u2_6:Nat):Int))),0,(⟨0,0,([] : List FactDS),[],([] : List V),[]⟩ : ReplyDS)⟩ : SessDS),((none,0),(none,0)))]) 4 3 rfl rfl rfl (Q0 rfl) rfl rfl rfl rfl rfl (fun F w hφ=>⟨[.int .i64 (IntKind.wrap .i64 ((IntKind.wrap .i64 (1000003 * (IntKind.wrap .i64 (1 + 7)))) + ((u2_6:Nat):Int))),.int .i64 0,.int .i64 0,.int .i64 0,.slice none 0 0,.slice none 0 0],[],rfl,rfl,rfl,rfl⟩) QB Q6Q rfl rfl (Nat.le_trans hgl34 (by decide)) (Nat.le_trans (Nat.mul_le_mul_right _ hgl34) (by decide)) (H2:=fun p34 c34=>[_,_,_,_,.own 35 6 Q18.pair (.slice p34 ((zz34 ++ [((⟨(IntKind.wrap .i64 ((IntKind.wrap .i64 (1000003 * (IntKind.wrap .i64 (1 + 7)))) + ((u2_6:Nat):Int))),0,(⟨0,0,([] : List FactDS),[],([] : List V),[]⟩ : ReplyDS)⟩ : SessDS),((none,0),(none,0)))]).length) c34) (zz34 ++ [((⟨(IntKind.wrap .i64 ((IntKind.wrap .i64 (1000003 * (IntKind.wrap .i64 (1 + 7)))) + ((u2_6:Nat):Int))),0,(⟨0,0,([] : List FactDS),[],([] : List V),[]⟩ : ReplyDS)⟩ : SessDS),((none,0),(none,0)))])]) (fun _ _=>rfl) (fun p34 c34=>(Q2k 3 rfl (H':=[_,_,_,_]) rfl (Qr (d:=34) (v':=.slice p34 ((u2_3_l ++ [(⟨(IntKind.wrap .i64 ((IntKind.wrap .i64 (1000003 * (IntKind.wrap .i64 (1 + 7)))) + ((u2_6:Nat):Int))),0,(⟨0,0,([] : List FactDS),[],([] : List V),[]⟩ : ReplyDS)⟩ : SessDS)]).length) c34) (S':=[_,_,_,_,_,_,_]) rfl rfl (by rw [Q12 hzs48]) (Q15 3 (φ':=.own 35 6 Q18.pair (.slice p34 ((u2_3_l ++ [(⟨(IntKind.wrap .i64 ((IntKind.wrap .i64 (1000003 * (IntKind.wrap .i64 (1 + 7)))) + ((u2_6:Nat):Int))),0,(⟨0,0,([] : List FactDS),[],([] : List V),[]⟩ : ReplyDS)⟩ : SessDS)]).length) c34) (zz34 ++ [((⟨(IntKind.wrap .i64 ((IntKind.wrap .i64 (1000003 * (IntKind.wrap .i64 (1 + 7)))) + ((u2_6:Nat):Int))),0,(⟨0,0,([] : List FactDS),[],([] : List V),[]⟩ : ReplyDS)⟩ : SessDS),((none,0),(none,0)))])) rfl (by rw [Q12 hzs48]) (H':=[_,_,_,_]) rfl (Q13 [1,2,0,3] rfl (H':=[_,_,_,_]) rfl (Qv [QR Q18 (zz34 ++ [((⟨(IntKind.wrap .i64 ((IntKind.wrap .i64 (1000003 * (IntKind.wrap .i64 (1 + 7)))) + ((u2_6:Nat):Int))),0,(⟨0,0,([] : List FactDS),[],([] : List V),[]⟩ : ReplyDS)⟩ : SessDS),((none,0),(none,0)))]) none,_] (fun _ h=>Qo.bagPush (T:=Q18) (x:=(⟨(IntKind.wrap .i64 ((IntKind.wrap .i64 (1000003 * (IntKind.wrap .i64 (1 + 7)))) + ((u2_6:Nat):Int))),0,(⟨0,0,([] : List FactDS),[],([] : List V),[]⟩ : ReplyDS)⟩ : SessDS)) (r:=((none,0),(none,0))) (zs:=zz34) (H:=[_,_]) h 0 rfl) (Qv [Qi Q18 35 6 (.slice p34 ((u2_3_l ++ [(⟨(IntKind.wrap .i64 ((IntKind.wrap .i64 (1000003 * (IntKind.wrap .i64 (1 + 7)))) + ((u2_6:Nat):Int))),0,(⟨0,0,([] : List FactDS),[],([] : List V),[]⟩ : ReplyDS)⟩ : SessDS)]).length) c34) (u2_3_l ++ [(⟨(IntKind.wrap .i64 ((IntKind.wrap .i64 (1000003 * (IntKind.wrap .i64 (1 + 7)))) + ((u2_6:Nat):Int))),0,(⟨0,0,([] : List FactDS),[],([] : List V),[]⟩ : ReplyDS)⟩ : SessDS)])] (fun _ h=>h.treeIn 1 0 rfl rfl rfl hzs48) (Qs (S':=[_,_,_,_,_,_,_]) rfl rfl rfl rfl rfl (Q3 (Qa (Q2 (Q5 [3,6,0] (S':=[_,_,_]) rfl (Q1 (wP rfl ?_))))))))))))))
    refine wP rfl ?_
    obtain ⟨hg29,hm⟩:=Qq hm
    refine Qr (d:=29) (v':=.int .i64 ((u2_6 + 1:Nat):Int)) (S':=[_,_,_,_]) rfl rfl (Qw (a:=u2_6) (b:=1) hg29) (Qs (S':=[_,_,_,_]) rfl rfl rfl rfl rfl (Q3 ?_))
    have hE:=(Option.some.inj hm).symm
    replace hE:=QZ hLu2 hE
    refine Q1n (_,u2_6 + 1,(u2_3_l ++ [(⟨(IntKind.wrap .i64 ((IntKind.wrap .i64 (1000003 * (IntKind.wrap .i64 (1 + 7)))) + ((u2_6:Nat):Int))),0,(⟨0,0,([] : List FactDS),[],([] : List V),[]⟩ : ReplyDS)⟩ : SessDS)]),p34,c34,((u2_3_l ++ [(⟨(IntKind.wrap .i64 ((IntKind.wrap .i64 (1000003 * (IntKind.wrap .i64 (1 + 7)))) + ((u2_6:Nat):Int))),0,(⟨0,0,([] : List FactDS),[],([] : List V),[]⟩ : ReplyDS)⟩ : SessDS)]).length)) (Nat.lt_succ_self _) hE [6,3,0] rfl (asK [0] rfl) rfl
   ·
    replace hm:=QP hm hb27
    refine Q5 [3,0] (S':=[_,_]) rfl (QH (Q8 (Q8 (Qh ?_))))
    have hE:=(Option.some.inj hm).symm
    replace hE:=Qy hLu2 hE
    refine Ql (u2_3_l,u2_3_p,u2_3_c,u2_3_n) hE [3,0] rfl (asK [0] rfl) rfl
  ·
   rintro ⟨j_2_3_l,j_2_3_p,j_2_3_c,j_2_3_n⟩ hE
   try dsimp only
   have hm:=hLj_2
   rw [hE] at hm
   refine Q4 (Q1 (wP rfl (wP rfl (wN rfl QB ?_))))
   obtain ⟨hg38,hm⟩:=Qq hm
   refine Q1q 0 rfl (fun zz38 hzz38=>?_)
   have hgt38:l0.length ≤ zz38.length:=by rw [Q12 hzz38]; exact hg38
   refine Q6s 1 rfl (fun hsp38 hcm38=>(Q4T rfl rfl rfl (Q0 rfl) rfl rfl rfl rfl QB QN (Nat.le_trans hgt38 (by rw [← hcm38.2]; exact hcm38.1)) hsp38 (wP rfl (Q3 (Q2 (Q5 [2] (S':=[_]) rfl (Qn ?_)))))))
   have hE:=(Option.some.inj hm).symm
   replace hE:=hE.symm
   subst hE
   refine Q3o [Qi Q18 35 6 (.slice j_2_3_p j_2_3_n j_2_3_c) j_2_3_l] (fun _ h=>h.treeIn 1 0 rfl rfl rfl hzz38) ?_
   refine Qp (Hr:=[_]) [0] Tryz.results10 (Qd rfl) ⟨j_2_3_p,j_2_3_c,j_2_3_n,rfl,rfl,rfl⟩ (asK [] rfl) rfl rfl (.inl rfl)
theorem Clone49f_s (p:Option Addr) (c:Nat) (l:List SessD) (hb:l.length ≤ 1759218604441):Q1v Tryz.prog 49 [.slice p l.length c] [.sli 6 Qt p c l] [] (fun v Φr Hr=>∃ p' c',v = .slice p' l.length c' ∧ Φr = [] ∧ Hr = [.own 35 6 Qt v l]):=by
 refine Qx Tryz.func49 rfl Tryz.ntmps49 rfl (S:=[_]) rfl (fun C=>(wc_know (fun F w h=>sli_nil (h _ (QS (k:=0) rfl))) (fun isnil=>(Q4 (Q1 (wP rfl (Q3 (Q2 (Q4 (Q4 (Q1 (wP rfl (wl_eqlNil rfl rfl rfl (Q0 rfl) rfl rfl rfl QB (Q3 (Q2 ?_)))))))))))))))
 refine Q5 [4,2,0] (S':=[_,_,_]) rfl ?_
 refine Qm rfl (fun h4=>?_) (fun h4=>?_)
 ·
  replace h4:=Q8s h4
  obtain rfl:=isnil h4
  subst h4
  refine Q5q 35 6 Qt (Q4 (Q1 (Qs (S':=[_,_]) rfl rfl rfl rfl rfl (Q3 (Q2 (Qn (Qb (Qp (Hr:=[.own 35 6 Qt (.slice none 0 0) []]) [0] Tryz.results49 (Qd rfl) ?_ (asK [] rfl) rfl rfl (.inl rfl)))))))))
  exact ⟨none,0,rfl,rfl,rfl⟩
 ·
  replace h4:=Q8c h4
  refine Qj (Q2 (Q4 (Q1 (QJ rfl rfl rfl (Q0 rfl) rfl QB QN Q4G rfl (zs:=[]) (by kernel_rfl) rfl (out:=[]) rfl (fun g5=>(wP rfl (Q6t (sz:=6) (m:=0) Qt [] 0 rfl (fun F w hφ=>rfl) rfl (by decide) (H':=[_]) rfl (Q7n 0 0 rfl rfl rfl (Q0 rfl) rfl rfl rfl rfl rfl QB Q6Q rfl rfl (by simp; omega) (by simp; omega) (H2:=fun p7 c7=>[.own 35 6 Qt (.slice p7 (l).length c7) l]) (fun _ _=>rfl) (fun p7 c7=>(Qs (S':=[_,_,_,_,_]) rfl rfl rfl rfl rfl (Q3 (Q2 (Q5 [2,4,0] (S':=[_,_,_]) rfl (Qn (Qp (Hr:=[.own 35 6 Qt (.slice p7 (l).length c7) l]) [0] Tryz.results49 (Qd rfl) ?_ (asK [] rfl) rfl rfl (.inl rfl))))))))))))))))
  exact ⟨_,_,rfl,rfl,rfl⟩
theorem Q74 (N:Nat) (qp0:Option Addr) (qc1:Nat) (l0:List SessD) (o2:List SessD) (hm:Q5K N l0 = some o2):Q1v Tryz.prog 25 [.slice qp0 l0.length qc1] [.sli 6 Qt qp0 qc1 l0] [] (fun v Φr Hr=>∃ (o0:Option Addr) (o1:Nat),v = .slice o0 l0.length o1 ∧ Φr = [] ∧ Hr = [Qi Qe 35 6 (.slice o0 l0.length o1) o2]):=by
 unfold Q5K at hm
 refine Qx Tryz.func25 rfl Tryz.ntmps25 rfl (S:=[_]) rfl (fun C=>(Q4 (Q1 (wP rfl (Q3 (Q2 (Q5 [0] (S':=[_]) rfl (Q4 (Q1 (wP rfl ?_))))))))))
 obtain ⟨hg6,hm⟩:=Qq hm
 refine wC [] [] rfl fn_49 rfl (Clone49f_s qp0 qc1 l0 hg6) (asK [0] rfl) rfl (H':=[]) rfl ?_
 rintro _ _ _ ⟨p6,c6,rfl,rfl,rfl⟩
 refine wP rfl (Q3 (Q2 (Q5 [3] (S':=[_]) rfl (Q4 ?_))))
 obtain ⟨bj_1,hm,hLj_1⟩:=Q6 hm
 refine Q14 (σ:=(List SessD) × Nat) (fun (j_1_3_l,j_1_sh0)=>bj_1 = (j_1_3_l,j_1_sh0)) (fun (j_1_3_l,j_1_sh0)=>[(3,.slice p6 l0.length c6)]) (fun (j_1_3_l,j_1_sh0)=>[]) (fun (j_1_3_l,j_1_sh0)=>[Q6H Qe Qt 35 6 (.slice p6 l0.length c6) j_1_3_l j_1_sh0]) ?_ ?_
 ·
  refine Q4 (Q1 (wP rfl (wN rfl QB (wP rfl (Q3 (Q2 (Q5 [9,8,3] (S':=[_,_,_]) rfl (Qc (Q6D [Q6H Qe Qt 35 6 (.slice p6 l0.length c6) l0 0] (fun _ h=>h.toShell T_SessD_cells 0 rfl) (QI (σ:=Nat × Nat × (List SessD)) (fun (nu1,u1_9,u1_3_l)=>Q2s (Q5t N l0) nu1 (u1_9,u1_3_l) = some bj_1) (fun (nu1,u1_9,u1_3_l)=>nu1) (fun (nu1,u1_9,u1_3_l)=>[(9,.int .i64 ((u1_9:Nat):Int)),(8,.int .i64 ((l0.length:Nat):Int)),(3,.slice p6 l0.length c6)]) (fun (nu1,u1_9,u1_3_l)=>[]) (fun (nu1,u1_9,u1_3_l)=>[Q6H Qe Qt 35 6 (.slice p6 l0.length c6) u1_3_l u1_9]) (N,0,l0) hm [9,8,3] rfl (asK [] rfl) rfl (fun s_ hm=>?_)))))))))))
  obtain ⟨nu1,u1_9,u1_3_l⟩:=s_
  try dsimp only at hm ⊢
  obtain ⟨mu1,bu1,hnu1,hq,hLu1⟩:=Q1m hm
  clear hm
  subst hnu1
  replace hm:=hq
  clear hq
  unfold Q5t at hm
  try dsimp only at hm
  refine Q4 (Q1 (wP rfl (Qr (d:=10) (v':=.bool (decide (u1_9 < l0.length))) (S':=[_,_,_]) rfl rfl (Q3a (a:=u1_9) (b:=l0.length)) (Q3 (Q2 (Q4 ?_))))))
  refine Qm rfl (fun hb10=>?_) (fun hb10=>?_)
  ·
   replace hm:=QQ hm hb10
   refine Q5 [9,8,3] (S':=[_,_,_]) rfl (Qj (Q2 (Q4 (Qc (Q4 (Q1 (wP rfl (wP rfl (Q3 (Q2 (Q5 [4,9,8,3] (S':=[_,_,_,_]) rfl (Q1 (wP rfl ?_)))))))))))))
   refine wP rfl (wP rfl (wP rfl (wl_shellOut 0 rfl (fun zz16 hzz16=>?_))))
   obtain ⟨x16,hx16,hm⟩:=Q6 hm
   obtain ⟨rr16,hrr16⟩:=Q5x hzz16 hx16
   refine Q1r 1 u1_9 rfl rfl rfl (Q0 rfl) rfl rfl rfl rfl rfl (Q1X hrr16) QB QN (fun g16 eg16=>?_)
   subst eg16
   refine wF rfl Q4b ?_
   obtain ⟨x18,hx18,hm⟩:=Q6 hm
   obtain ⟨rr18,hrr18⟩:=Q5x hzz16 hx18
   refine Q2l (.sli 3 QO rr18.1.1 rr18.1.2 x18.r.facts) (fun F w hφ=>T_SessD_read _ _ F w ((hφ _ (QS (k:=0) rfl)) u1_9 _ hrr18 (Nat.le_refl _)) _ (QS (k:=0) rfl)) (Q2l (.sli 3 R_V rr18.2.1 rr18.2.2 x18.r.said) (fun F w hφ=>T_SessD_read _ _ F w ((hφ _ (QS (k:=1) rfl)) u1_9 _ hrr18 (Nat.le_refl _)) _ (QS (k:=1) rfl)) (QU Q4W 1 u1_9 2 rfl rfl rfl (Q0 rfl) rfl rfl rfl hrr18 Q11 Q1W (v:=fun _=>.agg #[.int .i64 (x18.r.err),.int .i64 (x18.r.num),.slice rr18.1.1 x18.r.facts.length rr18.1.2,.slice rr18.2.1 x18.r.said.length rr18.2.2]) (fun _=>rfl) (fun _=>rfl) (fun _ _=>?_)))
   obtain ⟨v19,hc19,hm⟩:=Q6 hm
   refine wC [] [0,1] rfl fn_46 rfl (Q5F N x18.r.err x18.r.num rr18.1.1 rr18.1.2 x18.r.facts rr18.2.1 rr18.2.2 x18.r.said _ hc19) (asK [1,0] rfl) rfl (H':=[_,_]) rfl ?_
   rintro _ _ _ ⟨p19_0,c19_1,p19_2,c19_3,rfl,rfl,rfl⟩
   obtain ⟨x20,hx20,hm⟩:=Q6 hm
   obtain ⟨rr20,hrr20⟩:=Q5x hzz16 hx20
   refine Q2c 3 u1_9 rfl rfl rfl (Q0 rfl) rfl rfl rfl rfl rfl (Q1X hrr20) QB QN (wF rfl Q4b ?_)
   obtain ⟨x1031,hx1031,hm⟩:=Q6 hm
   obtain ⟨rr1031,hrr1031⟩:=Q5x hzz16 hx1031
   refine QG 0 rfl (fun hzt12 _=>(Q4q 2 (v':=.agg #[.int .i64 (x18.r.err),.int .i64 (x18.r.num),.slice p19_0 v19.length c19_1,.slice p19_2 x18.r.said.length c19_3]) rfl (by rw [hzt12]) (Q15 0 (φ':=Qi Qf 61 3 (.slice p19_0 v19.length c19_1) v19) rfl (by rw [hzt12]) (H':=[_,_,_,_]) rfl (Q55 (u:=((⟨x1031.id,x1031.seq,(⟨x18.r.err,x18.r.num,v19,x18.r.said⟩ : ReplyD)⟩ : SessD),((p19_0,c19_1),(p19_2,c19_3)))) 3 u1_9 2 rfl rfl rfl rfl rfl hrr1031 rfl rfl Q11 rfl rfl (fun F w hφ ds hd=>by cases hd; rfl) rfl (H':=[_,_,_,_]) rfl (Q2l (Q89 Qe Qt (zz16.set u1_9 ((⟨x1031.id,x1031.seq,(⟨x18.r.err,x18.r.num,v19,x18.r.said⟩ : ReplyD)⟩ : SessD),((p19_0,c19_1),(p19_2,c19_3)))) (u1_9 + 1)) (fun F w hφ=>later_set (hφ _ (QS (k:=2) rfl))) (Q13 [1,0,2,3] rfl (H':=[_,_,_,_]) rfl (Qv [QR Qe ((zz16.take u1_9) ++ [((⟨x1031.id,x1031.seq,(⟨x18.r.err,x18.r.num,v19,x18.r.said⟩ : ReplyD)⟩ : SessD),((p19_0,c19_1),(p19_2,c19_3)))]) none,_] (fun _ h=>Qo.bagPush (T:=Qe) (x:=(⟨x1031.id,x1031.seq,(⟨x18.r.err,x18.r.num,v19,x18.r.said⟩ : ReplyD)⟩ : SessD)) (r:=((p19_0,c19_1),(p19_2,c19_3))) (zs:=zz16.take u1_9) (H:=[_,_]) h 0 rfl) (Q15 0 (φ':=QR Qe ((zz16.set u1_9 ((⟨x1031.id,x1031.seq,(⟨x18.r.err,x18.r.num,v19,x18.r.said⟩ : ReplyD)⟩ : SessD),((p19_0,c19_1),(p19_2,c19_3)))).take (u1_9 + 1)) none) rfl (by rw [take_setZ hrr1031]) (H':=[_,_]) rfl ?_))))))))
   have hzs12:List.map (fun x:SessD × ((Option Addr × Nat) × (Option Addr × Nat))=>x.1) (zz16.set u1_9 ((⟨x1031.id,x1031.seq,(⟨x18.r.err,x18.r.num,v19,x18.r.said⟩ : ReplyD)⟩ : SessD),((p19_0,c19_1),(p19_2,c19_3)))) = u1_3_l.set u1_9 (⟨x1031.id,x1031.seq,(⟨x18.r.err,x18.r.num,v19,x18.r.said⟩ : ReplyD)⟩ : SessD):=Q54 hzz16
   refine Q3 (Qa (Q2 (Q5 [9,8,3] (S':=[_,_,_]) rfl (Q1 (wP rfl ?_)))))
   obtain ⟨hg22,hm⟩:=Qq hm
   refine Qr (d:=22) (v':=.int .i64 ((u1_9 + 1:Nat):Int)) (S':=[_,_,_]) rfl rfl (Qw (a:=u1_9) (b:=1) hg22) (Qs (S':=[_,_,_]) rfl rfl rfl rfl rfl (Q3 ?_))
   have hE:=(Option.some.inj hm).symm
   replace hE:=QZ hLu1 hE
   refine Q3o [Q6H Qe Qt 35 6 (.slice (some ⟨g16,0,none⟩) l0.length c6) (u1_3_l.set u1_9 (⟨x1031.id,x1031.seq,(⟨x18.r.err,x18.r.num,v19,x18.r.said⟩ : ReplyD)⟩ : SessD)) (u1_9 + 1)] (fun _ h=>h.shellIn 1 0 0 rfl rfl rfl rfl hzs12) ?_
   refine Q1n (_,u1_9 + 1,(u1_3_l.set u1_9 (⟨x1031.id,x1031.seq,(⟨x18.r.err,x18.r.num,v19,x18.r.said⟩ : ReplyD)⟩ : SessD))) (Nat.lt_succ_self _) hE [9,8,3] rfl (asK [] rfl) rfl
  ·
   replace hm:=QP hm hb10
   refine Q5 [3] (S':=[_]) rfl (QH (Q8 (Q8 (Qh ?_))))
   have hE:=(Option.some.inj hm).symm
   replace hE:=Qy hLu1 hE
   refine Ql (u1_3_l,u1_9) hE [3] rfl (asK [] rfl) rfl
 ·
  rintro ⟨j_1_3_l,j_1_sh0⟩ hE
  try dsimp only
  have hm:=hLj_1
  rw [hE] at hm
  try dsimp only at hm
  refine Q4 (Q1 (wP rfl (wP rfl (Q3 (Q2 (Q5 [2] (S':=[_]) rfl (Qn ?_)))))))
  obtain ⟨hgs13,hm⟩:=Qq hm
  refine Q3o [Qi Qe 35 6 (.slice p6 l0.length c6) j_1_3_l] (fun _ h=>h.shellDone 0 rfl hgs13) ?_
  have hE:=(Option.some.inj hm).symm
  replace hE:=hE.symm
  subst hE
  refine Qp (Hr:=[_]) [0] Tryz.results25 (Qd rfl) ⟨p6,c6,rfl,rfl,rfl⟩ (asK [] rfl) rfl rfl (.inl rfl)
theorem w_session_Of_s0 (N:Nat) (a0:Int) (qp0:Option Addr) (qc1:Nat) (l1:List SessD)  (hm:Q5A N a0 l1 = some (.inl ())):Q1v Tryz.prog 11 [.int .i64 a0,.slice qp0 l1.length qc1] [.sli 6 Qt qp0 qc1 l1] [] (fun v Φr Hr=>v = .tuple #[.pointer none,.int .i64 4] ∧ Φr = [] ∧ Hr = []):=by
 unfold Q5A at hm
 refine Qx Tryz.func11 rfl Tryz.ntmps11 rfl (S:=[_,_]) rfl (fun C=>(Q4 (Q1 (wP rfl (wP rfl (Q3 (Q2 (Q5 [0,1] (S':=[_,_]) rfl (Q4 (Q4 ?_))))))))))
 obtain ⟨bj_1,hm,hLj_1⟩:=Q6 hm
 refine Q14 (σ:=Bool) (fun j_1_19=>bj_1 = j_1_19) (fun j_1_19=>[(0,.int .i64 a0),(1,.slice qp0 l1.length qc1),(19,.bool j_1_19)]) (fun j_1_19=>[.sli 6 Qt qp0 qc1 l1]) (fun j_1_19=>[]) ?_ ?_
 ·
  refine Q1 (wP rfl (wP rfl (wP rfl ?_)))
  refine QA (d:=11) (S':=[_,_,_,_]) rfl rfl (fun hs11=>?_) (fun hs11=>?_)
  ·
   replace hm:=QQ hm hs11
   refine wO rfl (wO rfl (wP rfl (wP rfl (wO rfl (wO rfl (wO rfl (wP rfl (Q3 ?_))))))))
   have hE:=(Option.some.inj hm).symm
   refine Ql true hE [0,1,19] rfl (asK [0] rfl) rfl
  ·
   replace hm:=QP hm hs11
   refine wP rfl (wP rfl (wP rfl (wP rfl ?_)))
   refine QA (d:=15) (S':=[_,_,_,_,_,_,_,_]) rfl rfl (fun hs15=>?_) (fun hs15=>?_)
   ·
    replace hm:=QQ hm hs15
    refine wO rfl (wO rfl (wO rfl (wP rfl (Q3 ?_))))
    have hE:=(Option.some.inj hm).symm
    refine Ql true hE [0,1,19] rfl (asK [0] rfl) rfl
   ·
    replace hm:=QP hm hs15
    refine wP rfl (wN rfl QB (wP rfl (Qr (d:=18) (v':=.bool (decide (32 < l1.length))) (S':=[_,_,_,_,_,_,_,_,_,_,_]) rfl rfl (natgt (a:=l1.length) (b:=32)) (wP rfl (Q3 ?_)))))
    have hE:=(Option.some.inj hm).symm
    refine Ql (decide (32 < l1.length)) hE [0,1,19] rfl (asK [0] rfl) rfl
 ·
  rintro j_1_19 hE
  try dsimp only
  have hm:=hLj_1
  rw [hE] at hm
  refine Qm rfl (fun hb19=>?_) (fun hb19=>?_)
  ·
   replace hm:=QQ hm hb19
   refine Q5 [] (S':=[]) rfl (Q4 (Q1 (wP rfl (wP rfl (Q3 (Q2 (Qn (Qb ?_))))))))
   have hE:=(Option.some.inj hm).symm
   replace hE:=Sum.inl.inj hE
   refine Q4z (Hr:=[]) [] Tryz.results11 (Qd rfl) (Qd rfl) ⟨rfl,rfl,rfl⟩ (asK [] rfl) rfl rfl (.inl rfl)
  ·
   replace hm:=QP hm hb19
   refine Q5 [0,1] (S':=[_,_]) rfl (Qj (Q2 (Q4 (Q1 (wP rfl (Q3 (Q2 (Q4 ?_))))))))
   obtain ⟨bj_2,hm,hLj_2⟩:=Q2F hm
   refine Q14 (σ:=Unit) (fun _=>bj_2 = .inl ()) (fun _=>[(0,.int .i64 a0),(1,.slice qp0 l1.length qc1)]) (fun _=>[.sli 6 Qt qp0 qc1 l1]) (fun _=>[]) ?_ ?_
   ·
    refine Q4 (Q1 (wP rfl (wN rfl QB (wP rfl (Q3 (Q2 (Qc (QI (σ:=Nat × Nat × Int) (fun (nu1,u1_22,u1_6)=>Q2s (Q3P N l1 a0) nu1 (u1_22,u1_6) = some bj_2) (fun (nu1,u1_22,u1_6)=>nu1) (fun (nu1,u1_22,u1_6)=>[(22,.int .i64 ((u1_22:Nat):Int)),(21,.int .i64 ((l1.length:Nat):Int)),(20,.slice qp0 l1.length qc1),(6,.int .i64 u1_6),(0,.int .i64 a0),(1,.slice qp0 l1.length qc1)]) (fun (nu1,u1_22,u1_6)=>[.sli 6 Qt qp0 qc1 l1]) (fun (nu1,u1_22,u1_6)=>[]) (N,0,0) hm [22,21,20,6,0,1] rfl (asK [0] rfl) rfl (fun s_ hm=>?_)))))))))
    obtain ⟨nu1,u1_22,u1_6⟩:=s_
    try dsimp only at hm ⊢
    obtain ⟨mu1,bu1,hnu1,hq,hLu1⟩:=Q1m hm
    clear hm
    subst hnu1
    replace hm:=hq
    clear hq
    unfold Q3P at hm
    try dsimp only at hm
    refine Q4 (Q1 (wP rfl (Qr (d:=23) (v':=.bool (decide (u1_22 < l1.length))) (S':=[_,_,_,_,_,_]) rfl rfl (Q3a (a:=u1_22) (b:=l1.length)) (Q3 (Q2 (Q4 ?_))))))
    refine Qm rfl (fun hb23=>?_) (fun hb23=>?_)
    ·
     replace hm:=QQ hm hb23
     refine Q5 [22,21,20,6,0,1] (S':=[_,_,_,_,_,_]) rfl (Qj (Q2 (Q4 (Qc (Q4 (Q1 ?_))))))
     obtain ⟨x24,hx24,hm⟩:=Q6 hm
     refine Q3A 0 u1_22 rfl rfl rfl (Q0 rfl) rfl rfl rfl rfl rfl hx24 QB QN (fun b24 q24 cs24 hlx24=>(Q4L Q17 1 rfl (fun r24 er24 _=>?_)))
     subst er24
     refine Q4M 2 0 rfl rfl rfl (Q0 rfl) rfl rfl rfl (cs:=[_,_,_,_,_,_]) rfl QN Q4O rfl rfl (Q2a rfl rfl rfl (Q0 rfl) rfl Q4G rfl (fun g8=>(wS 0 0 rfl QN (all':=[_,_,_,_,_,_]) rfl (H':=[_]) rfl (Q3 (Q2 (Q5 [8,22,21,20,6,0,1] (S':=[_,_,_,_,_,_,_]) rfl (Q4 (Q4 ?_))))))))
     obtain ⟨bj_3,hm,hLj_3⟩:=Q6 hm
     refine Q14 (σ:=Bool) (fun j_3_40=>bj_3 = j_3_40) (fun j_3_40=>[(8,.pointer (some ⟨g8,0,none⟩)),(22,.int .i64 ((u1_22:Nat):Int)),(21,.int .i64 ((l1.length:Nat):Int)),(20,.slice qp0 l1.length qc1),(0,.int .i64 a0),(1,.slice qp0 l1.length qc1),(40,.bool j_3_40)]) (fun j_3_40=>[.sli 3 QO r24.1.1 r24.1.2 x24.r.facts,.sli 3 R_V r24.2.1 r24.2.2 x24.r.said,.sli 6 Qt qp0 qc1 l1]) (fun j_3_40=>[.blk g8 [.int .i64 (x24.id),.int .i64 (x24.seq),.int .i64 (x24.r.err),.int .i64 (x24.r.num),.slice r24.1.1 x24.r.facts.length r24.1.2,.slice r24.2.1 x24.r.said.length r24.2.2] 35]) ?_ ?_
     ·
      refine Q1 (wF rfl Q4A (wD 0 0 rfl Q1g Q1D rfl (wP rfl (wP rfl (wP rfl ?_)))))
      refine QA (d:=30) (S':=[_,_,_,_,_,_,_,_,_,_,_]) rfl rfl (fun hs30=>?_) (fun hs30=>?_)
      ·
       replace hm:=QQ hm hs30
       refine wO rfl (wO rfl (wO rfl (wO rfl (wP rfl (wP rfl (wO rfl (wO rfl (wO rfl (wP rfl (Q3 ?_))))))))))
       have hE:=(Option.some.inj hm).symm
       refine Ql true hE [8,22,21,20,0,1,40] rfl (asK [0,1,4] rfl) rfl
      ·
       replace hm:=QP hm hs30
       refine wF rfl Q4A (wD 0 0 rfl Q1g Q1D rfl (wP rfl (wP rfl (wP rfl (wP rfl ?_)))))
       refine QA (d:=36) (S':=[_,_,_,_,_,_,_,_,_,_,_,_,_,_,_,_,_]) rfl rfl (fun hs36=>?_) (fun hs36=>?_)
       ·
        replace hm:=QQ hm hs36
        refine wO rfl (wO rfl (wO rfl (wP rfl (Q3 ?_))))
        have hE:=(Option.some.inj hm).symm
        refine Ql true hE [8,22,21,20,0,1,40] rfl (asK [0,1,4] rfl) rfl
       ·
        replace hm:=QP hm hs36
        refine wF rfl Q4h (wD 0 1 rfl Q1g Q1D rfl (wP rfl (wP rfl (Q3 ?_))))
        have hE:=(Option.some.inj hm).symm
        refine Ql (decide (x24.seq < 0)) hE [8,22,21,20,0,1,40] rfl (asK [0,1,4] rfl) rfl
     ·
      rintro j_3_40 hE
      try dsimp only
      have hm:=hLj_3
      rw [hE] at hm
      refine Qm rfl (fun hb40=>?_) (fun hb40=>?_)
      ·
       replace hm:=QQ hm hb40
       refine Q5 [] (S':=[]) rfl (Q4 (Q1 (wP rfl (wP rfl (Q3 (Q2 (Qn (Qb (Qu (Qb (Qb (Qu (Qb ?_)))))))))))))
       have hE:=(Option.some.inj hm).symm
       replace hE:=Qy hLu1 hE
       replace hE:=Qy hLj_2 hE
       replace hE:=Sum.inl.inj hE
       refine Q4z (Hr:=[]) [] Tryz.results11 (Qd rfl) (Qd rfl) ⟨rfl,rfl,rfl⟩ (asK [] rfl) rfl rfl (.inl rfl)
      ·
       replace hm:=QP hm hb40
       refine Q5 [8,22,21,20,0,1] (S':=[_,_,_,_,_,_]) rfl (Qj (Q2 (Q1 (wF rfl Q4A (wD 0 0 rfl Q1g Q1D rfl (wP rfl (Q3 (Qa (Q2 (Q5 [6,22,21,20,0,1] (S':=[_,_,_,_,_,_]) rfl (Q1 (wP rfl ?_))))))))))))
       obtain ⟨hg43,hm⟩:=Qq hm
       refine Qr (d:=43) (v':=.int .i64 ((u1_22 + 1:Nat):Int)) (S':=[_,_,_,_,_,_]) rfl rfl (Qw (a:=u1_22) (b:=1) hg43) (Qs (S':=[_,_,_,_,_,_]) rfl rfl rfl rfl rfl (Q3 ?_))
       have hE:=(Option.some.inj hm).symm
       replace hE:=QZ hLu1 hE
       refine QE [] rfl (H':=[]) rfl ?_
       refine Q1n (_,u1_22 + 1,x24.id) (Nat.lt_succ_self _) hE [22,21,20,6,0,1] rfl (asK [2] rfl) rfl
    ·
     replace hm:=QP hm hb23
     refine Q5 [0,1] (S':=[_,_]) rfl (QH (Q8 (Q8 (Qh ?_))))
     have hE:=(Option.some.inj hm).symm
     replace hE:=Qy hLu1 hE
     refine Ql () hE [0,1] rfl (asK [0] rfl) rfl
   ·
    rintro _ hE
    try dsimp only
    have hm:=QZ hLj_2 hE
    try dsimp only at hm
    refine Q4 (Q1 (wP rfl ?_))
    obtain ⟨v45,hc45,hm⟩:=Q6 hm
    refine wC [] [] rfl fn_25 rfl (Q74 N qp0 qc1 l1 _ hc45) (asK [0] rfl) rfl (H':=[]) rfl ?_
    rintro _ _ _ ⟨p45_0,c45_1,rfl,rfl,rfl⟩
    refine Q2t rfl rfl rfl (Q0 rfl) rfl tZ_63 tP_63 rfl (out:=[_]) rfl (wP rfl (Q2t rfl rfl rfl (Q0 rfl) rfl tZ_65 tP_65 rfl (out:=[_,_]) rfl (wB rfl (fun g49=>(wP rfl (wP rfl (Q3 (Q2 (Q5 [5,4] (S':=[_,_]) rfl (Qn ?_))))))))))
    have hE:=(Option.some.inj hm).symm
    cases hE
theorem w_session_Of_s1 (N:Nat) (a0:Int) (qp0:Option Addr) (qc1:Nat) (l1:List SessD) (o3:List SessD) (hm:Q5A N a0 l1 = some (.inr o3)):Q1v Tryz.prog 11 [.int .i64 a0,.slice qp0 l1.length qc1] [.sli 6 Qt qp0 qc1 l1] [] (fun v Φr Hr=>∃ (o0:Nat) (o1:Option Addr) (o2:Nat),v = .tuple #[.pointer (some ⟨o0,0,none⟩),.int .i64 0] ∧ Φr = [] ∧ Hr = [.blk o0 [.slice o1 l1.length o2,.int .i64 a0] 65,Qi Qe 35 6 (.slice o1 l1.length o2) o3]):=by
 unfold Q5A at hm
 refine Qx Tryz.func11 rfl Tryz.ntmps11 rfl (S:=[_,_]) rfl (fun C=>(Q4 (Q1 (wP rfl (wP rfl (Q3 (Q2 (Q5 [0,1] (S':=[_,_]) rfl (Q4 (Q4 ?_))))))))))
 obtain ⟨bj_1,hm,hLj_1⟩:=Q6 hm
 refine Q14 (σ:=Bool) (fun j_1_19=>bj_1 = j_1_19) (fun j_1_19=>[(0,.int .i64 a0),(1,.slice qp0 l1.length qc1),(19,.bool j_1_19)]) (fun j_1_19=>[.sli 6 Qt qp0 qc1 l1]) (fun j_1_19=>[]) ?_ ?_
 ·
  refine Q1 (wP rfl (wP rfl (wP rfl ?_)))
  refine QA (d:=11) (S':=[_,_,_,_]) rfl rfl (fun hs11=>?_) (fun hs11=>?_)
  ·
   replace hm:=QQ hm hs11
   refine wO rfl (wO rfl (wP rfl (wP rfl (wO rfl (wO rfl (wO rfl (wP rfl (Q3 ?_))))))))
   have hE:=(Option.some.inj hm).symm
   refine Ql true hE [0,1,19] rfl (asK [0] rfl) rfl
  ·
   replace hm:=QP hm hs11
   refine wP rfl (wP rfl (wP rfl (wP rfl ?_)))
   refine QA (d:=15) (S':=[_,_,_,_,_,_,_,_]) rfl rfl (fun hs15=>?_) (fun hs15=>?_)
   ·
    replace hm:=QQ hm hs15
    refine wO rfl (wO rfl (wO rfl (wP rfl (Q3 ?_))))
    have hE:=(Option.some.inj hm).symm
    refine Ql true hE [0,1,19] rfl (asK [0] rfl) rfl
   ·
    replace hm:=QP hm hs15
    refine wP rfl (wN rfl QB (wP rfl (Qr (d:=18) (v':=.bool (decide (32 < l1.length))) (S':=[_,_,_,_,_,_,_,_,_,_,_]) rfl rfl (natgt (a:=l1.length) (b:=32)) (wP rfl (Q3 ?_)))))
    have hE:=(Option.some.inj hm).symm
    refine Ql (decide (32 < l1.length)) hE [0,1,19] rfl (asK [0] rfl) rfl
 ·
  rintro j_1_19 hE
  try dsimp only
  have hm:=hLj_1
  rw [hE] at hm
  refine Qm rfl (fun hb19=>?_) (fun hb19=>?_)
  ·
   replace hm:=QQ hm hb19
   refine Q5 [] (S':=[]) rfl (Q4 (Q1 (wP rfl (wP rfl (Q3 (Q2 (Qn (Qb ?_))))))))
   have hE:=(Option.some.inj hm).symm
   cases hE
  ·
   replace hm:=QP hm hb19
   refine Q5 [0,1] (S':=[_,_]) rfl (Qj (Q2 (Q4 (Q1 (wP rfl (Q3 (Q2 (Q4 ?_))))))))
   obtain ⟨bj_2,hm,hLj_2⟩:=Q2F hm
   refine Q14 (σ:=Unit) (fun _=>bj_2 = .inl ()) (fun _=>[(0,.int .i64 a0),(1,.slice qp0 l1.length qc1)]) (fun _=>[.sli 6 Qt qp0 qc1 l1]) (fun _=>[]) ?_ ?_
   ·
    refine Q4 (Q1 (wP rfl (wN rfl QB (wP rfl (Q3 (Q2 (Qc (QI (σ:=Nat × Nat × Int) (fun (nu1,u1_22,u1_6)=>Q2s (Q3P N l1 a0) nu1 (u1_22,u1_6) = some bj_2) (fun (nu1,u1_22,u1_6)=>nu1) (fun (nu1,u1_22,u1_6)=>[(22,.int .i64 ((u1_22:Nat):Int)),(21,.int .i64 ((l1.length:Nat):Int)),(20,.slice qp0 l1.length qc1),(6,.int .i64 u1_6),(0,.int .i64 a0),(1,.slice qp0 l1.length qc1)]) (fun (nu1,u1_22,u1_6)=>[.sli 6 Qt qp0 qc1 l1]) (fun (nu1,u1_22,u1_6)=>[]) (N,0,0) hm [22,21,20,6,0,1] rfl (asK [0] rfl) rfl (fun s_ hm=>?_)))))))))
    obtain ⟨nu1,u1_22,u1_6⟩:=s_
    try dsimp only at hm ⊢
    obtain ⟨mu1,bu1,hnu1,hq,hLu1⟩:=Q1m hm
    clear hm
    subst hnu1
    replace hm:=hq
    clear hq
    unfold Q3P at hm
    try dsimp only at hm
    refine Q4 (Q1 (wP rfl (Qr (d:=23) (v':=.bool (decide (u1_22 < l1.length))) (S':=[_,_,_,_,_,_]) rfl rfl (Q3a (a:=u1_22) (b:=l1.length)) (Q3 (Q2 (Q4 ?_))))))
    refine Qm rfl (fun hb23=>?_) (fun hb23=>?_)
    ·
     replace hm:=QQ hm hb23
     refine Q5 [22,21,20,6,0,1] (S':=[_,_,_,_,_,_]) rfl (Qj (Q2 (Q4 (Qc (Q4 (Q1 ?_))))))
     obtain ⟨x24,hx24,hm⟩:=Q6 hm
     refine Q3A 0 u1_22 rfl rfl rfl (Q0 rfl) rfl rfl rfl rfl rfl hx24 QB QN (fun b24 q24 cs24 hlx24=>(Q4L Q17 1 rfl (fun r24 er24 _=>?_)))
     subst er24
     refine Q4M 2 0 rfl rfl rfl (Q0 rfl) rfl rfl rfl (cs:=[_,_,_,_,_,_]) rfl QN Q4O rfl rfl (Q2a rfl rfl rfl (Q0 rfl) rfl Q4G rfl (fun g8=>(wS 0 0 rfl QN (all':=[_,_,_,_,_,_]) rfl (H':=[_]) rfl (Q3 (Q2 (Q5 [8,22,21,20,6,0,1] (S':=[_,_,_,_,_,_,_]) rfl (Q4 (Q4 ?_))))))))
     obtain ⟨bj_3,hm,hLj_3⟩:=Q6 hm
     refine Q14 (σ:=Bool) (fun j_3_40=>bj_3 = j_3_40) (fun j_3_40=>[(8,.pointer (some ⟨g8,0,none⟩)),(22,.int .i64 ((u1_22:Nat):Int)),(21,.int .i64 ((l1.length:Nat):Int)),(20,.slice qp0 l1.length qc1),(0,.int .i64 a0),(1,.slice qp0 l1.length qc1),(40,.bool j_3_40)]) (fun j_3_40=>[.sli 3 QO r24.1.1 r24.1.2 x24.r.facts,.sli 3 R_V r24.2.1 r24.2.2 x24.r.said,.sli 6 Qt qp0 qc1 l1]) (fun j_3_40=>[.blk g8 [.int .i64 (x24.id),.int .i64 (x24.seq),.int .i64 (x24.r.err),.int .i64 (x24.r.num),.slice r24.1.1 x24.r.facts.length r24.1.2,.slice r24.2.1 x24.r.said.length r24.2.2] 35]) ?_ ?_
     ·
      refine Q1 (wF rfl Q4A (wD 0 0 rfl Q1g Q1D rfl (wP rfl (wP rfl (wP rfl ?_)))))
      refine QA (d:=30) (S':=[_,_,_,_,_,_,_,_,_,_,_]) rfl rfl (fun hs30=>?_) (fun hs30=>?_)
      ·
       replace hm:=QQ hm hs30
       refine wO rfl (wO rfl (wO rfl (wO rfl (wP rfl (wP rfl (wO rfl (wO rfl (wO rfl (wP rfl (Q3 ?_))))))))))
       have hE:=(Option.some.inj hm).symm
       refine Ql true hE [8,22,21,20,0,1,40] rfl (asK [0,1,4] rfl) rfl
      ·
       replace hm:=QP hm hs30
       refine wF rfl Q4A (wD 0 0 rfl Q1g Q1D rfl (wP rfl (wP rfl (wP rfl (wP rfl ?_)))))
       refine QA (d:=36) (S':=[_,_,_,_,_,_,_,_,_,_,_,_,_,_,_,_,_]) rfl rfl (fun hs36=>?_) (fun hs36=>?_)
       ·
        replace hm:=QQ hm hs36
        refine wO rfl (wO rfl (wO rfl (wP rfl (Q3 ?_))))
        have hE:=(Option.some.inj hm).symm
        refine Ql true hE [8,22,21,20,0,1,40] rfl (asK [0,1,4] rfl) rfl
       ·
        replace hm:=QP hm hs36
        refine wF rfl Q4h (wD 0 1 rfl Q1g Q1D rfl (wP rfl (wP rfl (Q3 ?_))))
        have hE:=(Option.some.inj hm).symm
        refine Ql (decide (x24.seq < 0)) hE [8,22,21,20,0,1,40] rfl (asK [0,1,4] rfl) rfl
     ·
      rintro j_3_40 hE
      try dsimp only
      have hm:=hLj_3
      rw [hE] at hm
      refine Qm rfl (fun hb40=>?_) (fun hb40=>?_)
      ·
       replace hm:=QQ hm hb40
       refine Q5 [] (S':=[]) rfl (Q4 (Q1 (wP rfl (wP rfl (Q3 (Q2 (Qn (Qb (Qu (Qb (Qb (Qu (Qb ?_)))))))))))))
       have hE:=(Option.some.inj hm).symm
       replace hE:=Qy hLu1 hE
       replace hE:=Qy hLj_2 hE
       cases hE
      ·
       replace hm:=QP hm hb40
       refine Q5 [8,22,21,20,0,1] (S':=[_,_,_,_,_,_]) rfl (Qj (Q2 (Q1 (wF rfl Q4A (wD 0 0 rfl Q1g Q1D rfl (wP rfl (Q3 (Qa (Q2 (Q5 [6,22,21,20,0,1] (S':=[_,_,_,_,_,_]) rfl (Q1 (wP rfl ?_))))))))))))
       obtain ⟨hg43,hm⟩:=Qq hm
       refine Qr (d:=43) (v':=.int .i64 ((u1_22 + 1:Nat):Int)) (S':=[_,_,_,_,_,_]) rfl rfl (Qw (a:=u1_22) (b:=1) hg43) (Qs (S':=[_,_,_,_,_,_]) rfl rfl rfl rfl rfl (Q3 ?_))
       have hE:=(Option.some.inj hm).symm
       replace hE:=QZ hLu1 hE
       refine QE [] rfl (H':=[]) rfl ?_
       refine Q1n (_,u1_22 + 1,x24.id) (Nat.lt_succ_self _) hE [22,21,20,6,0,1] rfl (asK [2] rfl) rfl
    ·
     replace hm:=QP hm hb23
     refine Q5 [0,1] (S':=[_,_]) rfl (QH (Q8 (Q8 (Qh ?_))))
     have hE:=(Option.some.inj hm).symm
     replace hE:=Qy hLu1 hE
     refine Ql () hE [0,1] rfl (asK [0] rfl) rfl
   ·
    rintro _ hE
    try dsimp only
    have hm:=QZ hLj_2 hE
    try dsimp only at hm
    refine Q4 (Q1 (wP rfl ?_))
    obtain ⟨v45,hc45,hm⟩:=Q6 hm
    refine wC [] [] rfl fn_25 rfl (Q74 N qp0 qc1 l1 _ hc45) (asK [0] rfl) rfl (H':=[]) rfl ?_
    rintro _ _ _ ⟨p45_0,c45_1,rfl,rfl,rfl⟩
    refine Q2t rfl rfl rfl (Q0 rfl) rfl tZ_63 tP_63 rfl (out:=[_]) rfl (wP rfl (Q2t rfl rfl rfl (Q0 rfl) rfl tZ_65 tP_65 rfl (out:=[_,_]) rfl (wB rfl (fun g49=>(wP rfl (wP rfl (Q3 (Q2 (Q5 [5,4] (S':=[_,_]) rfl (Qn ?_))))))))))
    have hE:=(Option.some.inj hm).symm
    replace hE:=Sum.inr.inj hE
    replace hE:=hE.symm
    subst hE
    refine Q4z (Hr:=[_,_]) [0,1] Tryz.results11 (Qd rfl) (Qd rfl) ⟨g49,p45_0,c45_1,rfl,rfl,rfl⟩ (asK [] rfl) rfl rfl (.inl rfl)
theorem Q64 (N:Nat) (qp0:Option Addr) (qc1:Nat) (l0:List V)  (hm:Q38 N l0 = some ()):Q1v Tryz.prog 99 [.slice qp0 l0.length qc1] [.sli 3 R_V qp0 qc1 l0] [] (fun v Φr Hr=>∃ (o0:Option Addr) (o1:Nat),v = .slice o0 (l0).length o1 ∧ Φr = [] ∧ Hr = [.own 149 3 R_V (.slice o0 (l0).length o1) l0]):=by
 unfold Q38 at hm
 refine Qx Tryz.func99 rfl Tryz.ntmps99 rfl (S:=[_]) rfl (fun C=>(Q4 (Q1 (wP rfl (Q3 (Q2 (Q5 [0] (S':=[_]) rfl (Q4 (Q1 (wP rfl (Q3 (Q2 (Q4 (Q1 ?_))))))))))))))
 refine wP rfl (wP rfl (QM 149 3 R_V ?_))
 obtain ⟨hg6,hm⟩:=Qq hm
 refine Q7n 0 0 rfl rfl rfl (Q0 rfl) rfl rfl rfl rfl rfl Q1S tR_149 rfl rfl (Nat.le_trans hg6 (by decide)) (Nat.le_trans (Nat.mul_le_mul_right _ hg6) (by decide)) (H2:=fun p6 c6=>[.own 149 3 R_V (.slice p6 (l0).length c6) l0]) (fun _ _=>rfl) (fun p6 c6=>(wP rfl (Q3 (Q2 (Q5 [2] (S':=[_]) rfl (Qn ?_))))))
 have hE:=(Option.some.inj hm).symm
 refine Qp (Hr:=[_]) [0] Tryz.results99 (Qd rfl) ⟨p6,c6,rfl,rfl,rfl⟩ (asK [] rfl) rfl rfl (.inl rfl)
theorem Q7K (N:Nat) (a0:Int) (a1:Int) (qp0:Option Addr) (qc1:Nat) (l2:List V)  (hm:Q4K N a0 a1 l2 = some ()):Q1v Tryz.prog 144 [.agg #[.int .i64 a0,.int .i64 a1,.slice qp0 l2.length qc1]] [.sli 3 R_V qp0 qc1 l2] [] (fun v Φr Hr=>∃ (o0:Option Addr) (o1:Nat),v = .agg #[.int .i64 a0,.int .i64 a1,.slice o0 (l2).length o1] ∧ Φr = [] ∧ Hr = [.own 149 3 R_V (.slice o0 (l2).length o1) l2]):=by
 unfold Q4K at hm
 refine Qx Tryz.func144 rfl Tryz.ntmps144 rfl (S:=[_]) rfl (fun C=>(Q4 (Q1 (wB rfl (fun g1=>(Q2a rfl rfl rfl (Q0 rfl) rfl tZ_61 rfl (fun g2=>(Q3 (Q2 (Q5 [2,1] (S':=[_,_]) rfl (Q4 (Q1 (wF rfl Q5e (wD 1 2 rfl Q1Z Q41 rfl ?_))))))))))))))
 obtain ⟨_,hc5,hm⟩:=Q6 hm
 try dsimp only at hm
 refine wC [] [0,1] rfl fn_99 rfl (Q64 N qp0 qc1 l2 hc5) (asK [0] rfl) rfl (H':=[_,_]) rfl ?_
 rintro _ _ _ ⟨p5_0,c5_1,rfl,rfl,rfl⟩
 refine wF rfl Q5e (wS 2 2 rfl Q1Z (all':=[_,_,_]) rfl (H':=[_,_,_]) rfl (Q3 (Q2 (Q5 [2,1] (S':=[_,_]) rfl (Q4 (Q1 (Q1e 2 0 rfl rfl rfl (Q0 rfl) rfl rfl rfl (cs:=[_,_,_]) rfl Q1G Q59 rfl rfl (wS 1 0 rfl Q1G (all':=[_,_,_]) rfl (H':=[_,_,_]) rfl (Q3 (Q2 (Q5 [2] (S':=[_]) rfl (Qn ?_))))))))))))
 have hE:=(Option.some.inj hm).symm
 refine Qp (Hr:=[_]) [0] Tryz.results144 (Q3y 1 rfl rfl Q1G Q59 rfl rfl) ⟨p5_0,c5_1,rfl,rfl,rfl⟩ (asK [] rfl) rfl rfl (.inl rfl)
theorem Q7y (N:Nat) (qp0:Option Addr) (qc1:Nat) (l0:List FactD) (o2:List FactD) (hm:Q3S N l0 = some o2):Q1v Tryz.prog 98 [.slice qp0 l0.length qc1] [.sli 3 QO qp0 qc1 l0] [] (fun v Φr Hr=>∃ (o0:Option Addr) (o1:Nat) (o3:Nat),v = .slice o0 o3 o1 ∧ Φr = [] ∧ Hr = [Qi Qf 61 3 (.slice o0 o3 o1) o2]):=by
 unfold Q3S at hm
 refine Qx Tryz.func98 rfl Tryz.ntmps98 rfl (S:=[_]) rfl (fun C=>(Q4 (Q1 (wP rfl (Q3 (Q2 (Q5 [0] (S':=[_]) rfl (Q4 (Q1 (wP rfl (Q3 (Q2 (Q4 ?_)))))))))))))
 obtain ⟨bj_1,hm,hLj_1⟩:=Q6 hm
 refine Q14 (σ:=(List FactD) × (Option Addr) × Nat × Nat) (fun (j_1_3_l,j_1_3_p,j_1_3_c,j_1_3_n)=>bj_1 = j_1_3_l) (fun (j_1_3_l,j_1_3_p,j_1_3_c,j_1_3_n)=>[(3,.slice j_1_3_p j_1_3_n j_1_3_c)]) (fun (j_1_3_l,j_1_3_p,j_1_3_c,j_1_3_n)=>[]) (fun (j_1_3_l,j_1_3_p,j_1_3_c,j_1_3_n)=>[Qi Qf 61 3 (.slice j_1_3_p j_1_3_n j_1_3_c) j_1_3_l]) ?_ ?_
 ·
  refine Q4 (Q1 (wP rfl (Q3 (Q2 (Qc (Q6D [Qi Qf 61 3 (.slice none 0 0) []] (fun _ h=>h.treeNil Qf 61 3) (QI (σ:=Nat × Nat × (List FactD) × (Option Addr) × Nat × Nat) (fun (nu1,u1_4,u1_3_l,u1_3_p,u1_3_c,u1_3_n)=>Q2s (Q3t N l0) nu1 (u1_4,u1_3_l) = some bj_1) (fun (nu1,u1_4,u1_3_l,u1_3_p,u1_3_c,u1_3_n)=>nu1) (fun (nu1,u1_4,u1_3_l,u1_3_p,u1_3_c,u1_3_n)=>[(4,.int .i64 ((u1_4:Nat):Int)),(3,.slice u1_3_p u1_3_n u1_3_c),(0,.slice qp0 l0.length qc1)]) (fun (nu1,u1_4,u1_3_l,u1_3_p,u1_3_c,u1_3_n)=>[.sli 3 QO qp0 qc1 l0]) (fun (nu1,u1_4,u1_3_l,u1_3_p,u1_3_c,u1_3_n)=>[Qi Qf 61 3 (.slice u1_3_p u1_3_n u1_3_c) u1_3_l]) (N,0,[],none,0,0) hm [4,3,0] rfl (asK [0] rfl) rfl (fun s_ hm=>?_))))))))
  obtain ⟨nu1,u1_4,u1_3_l,u1_3_p,u1_3_c,u1_3_n⟩:=s_
  try dsimp only at hm ⊢
  obtain ⟨mu1,bu1,hnu1,hq,hLu1⟩:=Q1m hm
  clear hm
  subst hnu1
  replace hm:=hq
  clear hq
  unfold Q3t at hm
  try dsimp only at hm
  refine Q4 (Q4 (Q1 (wP rfl (wP rfl (wN rfl Q1s (wP rfl (Qr (d:=9) (v':=.bool (decide (u1_4 < l0.length))) (S':=[_,_,_,_,_,_]) rfl rfl (Q3a (a:=u1_4) (b:=l0.length)) (Q3 (Q2 (Q5 [9,4,3,0] (S':=[_,_,_,_]) rfl ?_))))))))))
  refine Qm rfl (fun hb9=>?_) (fun hb9=>?_)
  ·
   replace hm:=QQ hm hb9
   refine Q5 [4,3,0] (S':=[_,_,_]) rfl (Qj (Q2 (Q4 (Qc (Q4 (Q1 (wP rfl (wP rfl ?_))))))))
   obtain ⟨x14,hx14,hm⟩:=Q6 hm
   refine Q3A 0 u1_4 rfl rfl rfl (Q0 rfl) rfl rfl rfl rfl rfl hx14 Q1s Q1G (fun b14 q14 cs14 hlx14=>(Q4L Q4u 1 rfl (fun r14 er14 _=>?_)))
   subst er14
   refine Q4M 1 0 rfl rfl rfl (Q0 rfl) rfl rfl rfl (cs:=[_,_,_]) rfl Q1G Q59 rfl rfl ?_
   obtain ⟨_,hc16,hm⟩:=Q6 hm
   try dsimp only at hm
   refine wC [] [0] rfl fn_144 rfl (Q7K N x14.id x14.ty r14.1 r14.2 x14.args hc16) (asK [0] rfl) rfl (H':=[_]) rfl ?_
   rintro _ _ _ ⟨p16_0,c16_1,rfl,rfl,rfl⟩
   refine Q2a rfl rfl rfl (Q0 rfl) rfl tZ_61 rfl (fun g5=>(wS 0 0 rfl Q1G (all':=[_,_,_]) rfl (H':=[_,_,_]) rfl (Q3 (Q2 (Q5 [5,4,3,0] (S':=[_,_,_,_]) rfl (Q1 (wP rfl (Q1e 0 0 rfl rfl rfl (Q0 rfl) rfl rfl rfl (cs:=[_,_,_]) rfl Q1G Q59 rfl rfl (QJ rfl rfl rfl (Q0 rfl) rfl Q1s Q1G tZ_61 rfl (zs:=[.int .i64 0,.int .i64 0,.slice none 0 0]) (by kernel_rfl) rfl (out:=[_,_,_]) rfl (fun g19=>(QG 3 rfl (fun hzt19 _=>?_))))))))))))
   subst hzt19
   refine Q2n 2 rfl (fun hz20 _=>(Q4q 1 (v':=.agg #[.int .i64 (x14.id),.int .i64 (x14.ty),.slice p16_0 x14.args.length c16_1]) rfl (by rw [hz20]) (Q15 0 (φ':=.blk g19 [.int .i64 (x14.id),.int .i64 (x14.ty),.slice p16_0 x14.args.length c16_1] 61) rfl (by rw [hz20]) (H':=[_,_,_,_]) rfl (Q15 1 (φ':=.blk g5 [.int .i64 (x14.id),.int .i64 (x14.ty),.slice p16_0 x14.args.length c16_1] 61) rfl (by rw [hz20]) (H':=[_,_,_,_]) rfl (Q15 2 (φ':=.own 149 3 R_V (.slice p16_0 x14.args.length c16_1) x14.args) rfl (by rw [hz20]) (H':=[_,_,_,_]) rfl (Q1q 3 rfl (fun zz20 hzz20=>?_)))))))
   obtain ⟨hg20,hm⟩:=Qq hm
   have hzs12:List.map (fun x:FactD × (Option Addr × Nat)=>x.1) (zz20 ++ [(x14,(p16_0,c16_1))]) = u1_3_l ++ [x14]:=Q5I hzz20 (us:=[x14]) rfl
   have hgl20:zz20.length + ([(x14,(p16_0,c16_1))] : List (FactD × (Option Addr × Nat))).length ≤ 3518437208883:=by rw [Q12 hzz20]; exact hg20
   refine Q3c (R:=Qf.pair) ([(x14,(p16_0,c16_1))]) 4 1 rfl rfl rfl (Q0 rfl) rfl rfl rfl rfl rfl (fun F w hφ=>⟨[.int .i64 (x14.id),.int .i64 (x14.ty),.slice p16_0 x14.args.length c16_1],[],rfl,rfl,rfl,rfl⟩) Q1s tR_61 rfl rfl (Nat.le_trans hgl20 (by decide)) (Nat.le_trans (Nat.mul_le_mul_right _ hgl20) (by decide)) (H2:=fun p20 c20=>[_,_,_,_,.own 61 3 Qf.pair (.slice p20 ((zz20 ++ [(x14,(p16_0,c16_1))]).length) c20) (zz20 ++ [(x14,(p16_0,c16_1))])]) (fun _ _=>rfl) (fun p20 c20=>(Q2k 1 rfl (H':=[_,_,_,_]) rfl (Qr (d:=20) (v':=.slice p20 ((u1_3_l ++ [x14]).length) c20) (S':=[_,_,_,_,_,_,_]) rfl rfl (by rw [Q12 hzs12]) (Q15 3 (φ':=.own 61 3 Qf.pair (.slice p20 ((u1_3_l ++ [x14]).length) c20) (zz20 ++ [(x14,(p16_0,c16_1))])) rfl (by rw [Q12 hzs12]) (H':=[_,_,_,_]) rfl (Q13 [2,0,1,3] rfl (H':=[_,_,_,_]) rfl (Qv [QR Qf (zz20 ++ [(x14,(p16_0,c16_1))]) none,_,_] (fun _ h=>Qo.bagPush (T:=Qf) (x:=x14) (r:=(p16_0,c16_1)) (zs:=zz20) (H:=[_,_,_]) h 0 rfl) (Qv [_,Qi Qf 61 3 (.slice p20 ((u1_3_l ++ [x14]).length) c20) (u1_3_l ++ [x14])] (fun _ h=>h.treeIn 2 0 rfl rfl rfl hzs12) (Qs (S':=[_,_,_,_,_,_,_]) rfl rfl rfl rfl rfl (Q3 (Qa (Q2 (Q5 [3,4,0] (S':=[_,_,_]) rfl (Q1 (wP rfl ?_))))))))))))))
   refine wP rfl ?_
   obtain ⟨hg11,hm⟩:=Qq hm
   refine Qr (d:=11) (v':=.int .i64 ((u1_4 + 1:Nat):Int)) (S':=[_,_,_,_]) rfl rfl (Qw (a:=u1_4) (b:=1) hg11) (Qs (S':=[_,_,_,_]) rfl rfl rfl rfl rfl (Q3 ?_))
   have hE:=(Option.some.inj hm).symm
   replace hE:=QZ hLu1 hE
   refine QE [1] rfl (H':=[_]) rfl ?_
   refine Q1n (_,u1_4 + 1,u1_3_l ++ [x14],p20,c20,(u1_3_l ++ [x14]).length) (Nat.lt_succ_self _) hE [4,3,0] rfl (asK [3] rfl) rfl
  ·
   replace hm:=QP hm hb9
   refine Q5 [3] (S':=[_]) rfl (QH (Q8 (Q8 (Qh ?_))))
   have hE:=(Option.some.inj hm).symm
   replace hE:=Qy hLu1 hE
   refine Ql (u1_3_l,u1_3_p,u1_3_c,u1_3_n) hE [3] rfl (asK [] rfl) rfl
 ·
  rintro ⟨j_1_3_l,j_1_3_p,j_1_3_c,j_1_3_n⟩ hE
  try dsimp only
  have hm:=hLj_1
  rw [hE] at hm
  refine Q4 (Q1 (wP rfl (wP rfl (Q3 (Q2 (Q5 [2] (S':=[_]) rfl (Qn ?_)))))))
  have hE:=(Option.some.inj hm).symm
  replace hE:=hE.symm
  subst hE
  refine Qp (Hr:=[_]) [0] Tryz.results98 (Qd rfl) ⟨j_1_3_p,j_1_3_c,j_1_3_n,rfl,rfl,rfl⟩ (asK [] rfl) rfl rfl (.inl rfl)
theorem Q4Y (N:Nat) (a0:Int) (a1:Int) (qp0:Option Addr) (qc1:Nat) (l2:List FactD) (qp2:Option Addr) (qc3:Nat) (l3:List V) (o2:List FactD) (hm:Q2A N a0 a1 l2 l3 = some o2):Q1v Tryz.prog 54 [.agg #[.int .i64 a0,.int .i64 a1,.slice qp0 l2.length qc1,.slice qp2 l3.length qc3]] [.sli 3 QO qp0 qc1 l2,.sli 3 R_V qp2 qc3 l3] [] (fun v Φr Hr=>∃ (o0:Option Addr) (o1:Nat) (o3:Nat) (o4:Option Addr) (o5:Nat),v = .agg #[.int .i64 a0,.int .i64 a1,.slice o0 o3 o1,.slice o4 (l3).length o5] ∧ Φr = [] ∧ Hr = [Qi Qf 61 3 (.slice o0 o3 o1) o2,.own 149 3 R_V (.slice o4 (l3).length o5) l3]):=by
 unfold Q2A at hm
 refine Qx Tryz.func54 rfl Tryz.ntmps54 rfl (S:=[_]) rfl (fun C=>(Q4 (Q1 (wB rfl (fun g1=>(Q2a rfl rfl rfl (Q0 rfl) rfl Q5Q rfl (fun g2=>(Q3 (Q2 (Q5 [2,1] (S':=[_,_]) rfl (Q4 (Q1 (wF rfl Q4g (wD 1 2 rfl Q31 Q4R rfl ?_))))))))))))))
 obtain ⟨v5,hc5,hm⟩:=Q6 hm
 refine wC [] [0,1] rfl fn_98 rfl (Q7y N qp0 qc1 l2 _ hc5) (asK [0] rfl) rfl (H':=[_,_]) rfl ?_
 rintro _ _ _ ⟨p5_0,c5_1,c5_2,rfl,rfl,rfl⟩
 refine wF rfl Q4g (wS 2 2 rfl Q31 (all':=[_,_,_,_]) rfl (H':=[_,_,_]) rfl (Q3 (Q2 (Q5 [2,1] (S':=[_,_]) rfl (Q4 (Q1 (wF rfl Q5b (wD 2 3 rfl Q1Z Q41 rfl ?_))))))))
 obtain ⟨_,hc9,hm⟩:=Q6 hm
 try dsimp only at hm
 refine wC [] [0,1,2] rfl fn_99 rfl (Q64 N qp2 qc3 l3 hc9) (asK [1] rfl) rfl (H':=[_,_,_]) rfl ?_
 rintro _ _ _ ⟨p9_0,c9_1,rfl,rfl,rfl⟩
 refine wF rfl Q5b (wS 3 3 rfl Q1Z (all':=[_,_,_,_]) rfl (H':=[_,_,_,_]) rfl (Q3 (Q2 (Q5 [2,1] (S':=[_,_]) rfl (Q4 (Q1 (Q1e 3 0 rfl rfl rfl (Q0 rfl) rfl rfl rfl (cs:=[_,_,_,_]) rfl Q11 Q1W rfl rfl (wS 2 0 rfl Q11 (all':=[_,_,_,_]) rfl (H':=[_,_,_,_]) rfl (Q3 (Q2 (Q5 [2] (S':=[_]) rfl (Qn ?_))))))))))))
 have hE:=(Option.some.inj hm).symm
 replace hE:=hE.symm
 subst hE
 refine Qp (Hr:=[_,_]) [1,0] Tryz.results54 (Q3y 2 rfl rfl Q11 Q1W rfl rfl) ⟨p5_0,c5_1,c5_2,p9_0,c9_1,rfl,rfl,rfl⟩ (asK [] rfl) rfl rfl (.inl rfl)
theorem Q7j (N:Nat) (a0:Int) (a1:Int) (a2:Int) (a3:Int) (qp0:Option Addr) (qc1:Nat) (l4:List FactD) (qp2:Option Addr) (qc3:Nat) (l5:List V) (o2:List FactD) (hm:Q4j N a0 a1 a2 a3 l4 l5 = some o2):Q1v Tryz.prog 50 [.agg #[.int .i64 a0,.int .i64 a1,.int .i64 a2,.int .i64 a3,.slice qp0 l4.length qc1,.slice qp2 l5.length qc3]] [.sli 3 QO qp0 qc1 l4,.sli 3 R_V qp2 qc3 l5] [] (fun v Φr Hr=>∃ (o0:Option Addr) (o1:Nat) (o3:Nat) (o4:Option Addr) (o5:Nat),v = .agg #[.int .i64 a0,.int .i64 a1,.int .i64 a2,.int .i64 a3,.slice o0 o3 o1,.slice o4 (l5).length o5] ∧ Φr = [] ∧ Hr = [Qi Qf 61 3 (.slice o0 o3 o1) o2,.own 149 3 R_V (.slice o4 (l5).length o5) l5]):=by
 unfold Q4j at hm
 refine Qx Tryz.func50 rfl Tryz.ntmps50 rfl (S:=[_]) rfl (fun C=>(Q4 (Q1 (wB rfl (fun g1=>(Q2a rfl rfl rfl (Q0 rfl) rfl Q4G rfl (fun g2=>(Q3 (Q2 (Q5 [2,1] (S':=[_,_]) rfl (Q4 (Q1 (wF rfl Q4b (Q1e 1 2 rfl rfl rfl (Q0 rfl) rfl rfl rfl (cs:=[_,_,_,_]) rfl Q11 Q1W rfl rfl ?_))))))))))))))
 obtain ⟨v5,hc5,hm⟩:=Q6 hm
 refine wC [] [0,1] rfl fn_54 rfl (Q4Y N a2 a3 qp0 qc1 l4 qp2 qc3 l5 _ hc5) (asK [0,1] rfl) rfl (H':=[_,_]) rfl ?_
 rintro _ _ _ ⟨p5_0,c5_1,c5_2,p5_3,c5_4,rfl,rfl,rfl⟩
 refine wF rfl Q4b (wS 3 2 rfl Q11 (all':=[_,_,_,_,_,_]) rfl (H':=[_,_,_,_]) rfl (Q3 (Q2 (Q5 [2,1] (S':=[_,_]) rfl (Q4 (Q1 (Q1e 3 0 rfl rfl rfl (Q0 rfl) rfl rfl rfl (cs:=[_,_,_,_,_,_]) rfl QN Q4O rfl rfl (wS 2 0 rfl QN (all':=[_,_,_,_,_,_]) rfl (H':=[_,_,_,_]) rfl (Q3 (Q2 (Q5 [2] (S':=[_]) rfl (Qn ?_))))))))))))
 have hE:=(Option.some.inj hm).symm
 replace hE:=hE.symm
 subst hE
 refine Qp (Hr:=[_,_]) [0,1] Tryz.results50 (Q3y 2 rfl rfl QN Q4O rfl rfl) ⟨p5_0,c5_1,c5_2,p5_3,c5_4,rfl,rfl,rfl⟩ (asK [] rfl) rfl rfl (.inl rfl)
theorem Q2d (N:Nat) (qp0:Option Addr) (qc1:Nat) (l0:List SessD) (o2:List SessD) (hm:Q1J N l0 = some o2):Q1v Tryz.prog 26 [.slice qp0 l0.length qc1] [.sli 6 Qt qp0 qc1 l0] [] (fun v Φr Hr=>∃ (o0:Option Addr) (o1:Nat) (o3:Nat),v = .slice o0 o3 o1 ∧ Φr = [] ∧ Hr = [Qi Qe 35 6 (.slice o0 o3 o1) o2]):=by
 unfold Q1J at hm
 refine Qx Tryz.func26 rfl Tryz.ntmps26 rfl (S:=[_]) rfl (fun C=>(Q4 (Q1 (wP rfl (Q3 (Q2 (Q5 [0] (S':=[_]) rfl (Q4 (Q1 (wP rfl (Q3 (Q2 (Q4 ?_)))))))))))))
 obtain ⟨bj_1,hm,hLj_1⟩:=Q6 hm
 refine Q14 (σ:=(List SessD) × (Option Addr) × Nat × Nat) (fun (j_1_3_l,j_1_3_p,j_1_3_c,j_1_3_n)=>bj_1 = j_1_3_l) (fun (j_1_3_l,j_1_3_p,j_1_3_c,j_1_3_n)=>[(3,.slice j_1_3_p j_1_3_n j_1_3_c)]) (fun (j_1_3_l,j_1_3_p,j_1_3_c,j_1_3_n)=>[]) (fun (j_1_3_l,j_1_3_p,j_1_3_c,j_1_3_n)=>[Qi Qe 35 6 (.slice j_1_3_p j_1_3_n j_1_3_c) j_1_3_l]) ?_ ?_
 ·
  refine Q4 (Q1 (wP rfl (Q3 (Q2 (Qc (Q6D [Qi Qe 35 6 (.slice none 0 0) []] (fun _ h=>h.treeNil Qe 35 6) (QI (σ:=Nat × Nat × (List SessD) × (Option Addr) × Nat × Nat) (fun (nu1,u1_4,u1_3_l,u1_3_p,u1_3_c,u1_3_n)=>Q2s (Q2O N l0) nu1 (u1_4,u1_3_l) = some bj_1) (fun (nu1,u1_4,u1_3_l,u1_3_p,u1_3_c,u1_3_n)=>nu1) (fun (nu1,u1_4,u1_3_l,u1_3_p,u1_3_c,u1_3_n)=>[(4,.int .i64 ((u1_4:Nat):Int)),(3,.slice u1_3_p u1_3_n u1_3_c),(0,.slice qp0 l0.length qc1)]) (fun (nu1,u1_4,u1_3_l,u1_3_p,u1_3_c,u1_3_n)=>[.sli 6 Qt qp0 qc1 l0]) (fun (nu1,u1_4,u1_3_l,u1_3_p,u1_3_c,u1_3_n)=>[Qi Qe 35 6 (.slice u1_3_p u1_3_n u1_3_c) u1_3_l]) (N,0,[],none,0,0) hm [4,3,0] rfl (asK [0] rfl) rfl (fun s_ hm=>?_))))))))
  obtain ⟨nu1,u1_4,u1_3_l,u1_3_p,u1_3_c,u1_3_n⟩:=s_
  try dsimp only at hm ⊢
  obtain ⟨mu1,bu1,hnu1,hq,hLu1⟩:=Q1m hm
  clear hm
  subst hnu1
  replace hm:=hq
  clear hq
  unfold Q2O at hm
  try dsimp only at hm
  refine Q4 (Q4 (Q1 (wP rfl (wP rfl (wN rfl QB (wP rfl (Qr (d:=9) (v':=.bool (decide (u1_4 < l0.length))) (S':=[_,_,_,_,_,_]) rfl rfl (Q3a (a:=u1_4) (b:=l0.length)) (Q3 (Q2 (Q5 [9,4,3,0] (S':=[_,_,_,_]) rfl ?_))))))))))
  refine Qm rfl (fun hb9=>?_) (fun hb9=>?_)
  ·
   replace hm:=QQ hm hb9
   refine Q5 [4,3,0] (S':=[_,_,_]) rfl (Qj (Q2 (Q4 (Qc (Q4 (Q1 (wP rfl (wP rfl ?_))))))))
   obtain ⟨x14,hx14,hm⟩:=Q6 hm
   refine Q3A 0 u1_4 rfl rfl rfl (Q0 rfl) rfl rfl rfl rfl rfl hx14 QB QN (fun b14 q14 cs14 hlx14=>(Q4L Q17 1 rfl (fun r14 er14 _=>?_)))
   subst er14
   refine Q4M 2 0 rfl rfl rfl (Q0 rfl) rfl rfl rfl (cs:=[_,_,_,_,_,_]) rfl QN Q4O rfl rfl ?_
   obtain ⟨v16,hc16,hm⟩:=Q6 hm
   refine wC [] [0] rfl fn_50 rfl (Q7j N x14.id x14.seq x14.r.err x14.r.num r14.1.1 r14.1.2 x14.r.facts r14.2.1 r14.2.2 x14.r.said _ hc16) (asK [0,1] rfl) rfl (H':=[_]) rfl ?_
   rintro _ _ _ ⟨p16_0,c16_1,c16_2,p16_3,c16_4,rfl,rfl,rfl⟩
   refine Q2a rfl rfl rfl (Q0 rfl) rfl Q4G rfl (fun g5=>(wS 0 0 rfl QN (all':=[_,_,_,_,_,_]) rfl (H':=[_,_,_,_]) rfl (Q3 (Q2 (Q5 [5,4,3,0] (S':=[_,_,_,_]) rfl (Q1 (wP rfl (Q1e 0 0 rfl rfl rfl (Q0 rfl) rfl rfl rfl (cs:=[_,_,_,_,_,_]) rfl QN Q4O rfl rfl (QJ rfl rfl rfl (Q0 rfl) rfl QB QN Q4G rfl (zs:=[.int .i64 0,.int .i64 0,.int .i64 0,.int .i64 0,.slice none 0 0,.slice none 0 0]) (by kernel_rfl) rfl (out:=[_,_,_,_,_,_]) rfl (fun g19=>(QG 4 rfl (fun hzt30 _=>?_))))))))))))
   subst hzt30
   refine QG 2 rfl (fun hzt31 _=>?_)
   subst hzt31
   refine Q2n 3 rfl (fun hz32 _=>(Q4q 1 (v':=.agg #[.int .i64 (x14.id),.int .i64 (x14.seq),.int .i64 (x14.r.err),.int .i64 (x14.r.num),.slice p16_0 v16.length c16_1,.slice p16_3 x14.r.said.length c16_4]) rfl (by rw [hz32]) (Q15 0 (φ':=.blk g19 [.int .i64 (x14.id),.int .i64 (x14.seq),.int .i64 (x14.r.err),.int .i64 (x14.r.num),.slice p16_0 v16.length c16_1,.slice p16_3 x14.r.said.length c16_4] 35) rfl (by rw [hz32]) (H':=[_,_,_,_,_]) rfl (Q15 1 (φ':=.blk g5 [.int .i64 (x14.id),.int .i64 (x14.seq),.int .i64 (x14.r.err),.int .i64 (x14.r.num),.slice p16_0 v16.length c16_1,.slice p16_3 x14.r.said.length c16_4] 35) rfl (by rw [hz32]) (H':=[_,_,_,_,_]) rfl (Q15 3 (φ':=.own 149 3 R_V (.slice p16_3 x14.r.said.length c16_4) x14.r.said) rfl (by rw [hz32]) (H':=[_,_,_,_,_]) rfl (Q1q 4 rfl (fun zz20 hzz20=>?_)))))))
   obtain ⟨hg20,hm⟩:=Qq hm
   have hzs12:List.map (fun x:SessD × ((Option Addr × Nat) × (Option Addr × Nat))=>x.1) (zz20 ++ [((⟨x14.id,x14.seq,(⟨x14.r.err,x14.r.num,v16,x14.r.said⟩ : ReplyD)⟩ : SessD),((p16_0,c16_1),(p16_3,c16_4)))]) = u1_3_l ++ [(⟨x14.id,x14.seq,(⟨x14.r.err,x14.r.num,v16,x14.r.said⟩ : ReplyD)⟩ : SessD)]:=Q5I hzz20 (us:=[(⟨x14.id,x14.seq,(⟨x14.r.err,x14.r.num,v16,x14.r.said⟩ : ReplyD)⟩ : SessD)]) rfl
   have hgl20:zz20.length + ([((⟨x14.id,x14.seq,(⟨x14.r.err,x14.r.num,v16,x14.r.said⟩ : ReplyD)⟩ : SessD),((p16_0,c16_1),(p16_3,c16_4)))] : List (SessD × ((Option Addr × Nat) × (Option Addr × Nat)))).length ≤ 1759218604441:=by rw [Q12 hzz20]; exact hg20
   refine Q3c (R:=Qe.pair) ([((⟨x14.id,x14.seq,(⟨x14.r.err,x14.r.num,v16,x14.r.said⟩ : ReplyD)⟩ : SessD),((p16_0,c16_1),(p16_3,c16_4)))]) 5 1 rfl rfl rfl (Q0 rfl) rfl rfl rfl rfl rfl (fun F w hφ=>⟨[.int .i64 (x14.id),.int .i64 (x14.seq),.int .i64 (x14.r.err),.int .i64 (x14.r.num),.slice p16_0 v16.length c16_1,.slice p16_3 x14.r.said.length c16_4],[],rfl,rfl,rfl,rfl⟩) QB Q6Q rfl rfl (Nat.le_trans hgl20 (by decide)) (Nat.le_trans (Nat.mul_le_mul_right _ hgl20) (by decide)) (H2:=fun p20 c20=>[_,_,_,_,_,.own 35 6 Qe.pair (.slice p20 ((zz20 ++ [((⟨x14.id,x14.seq,(⟨x14.r.err,x14.r.num,v16,x14.r.said⟩ : ReplyD)⟩ : SessD),((p16_0,c16_1),(p16_3,c16_4)))]).length) c20) (zz20 ++ [((⟨x14.id,x14.seq,(⟨x14.r.err,x14.r.num,v16,x14.r.said⟩ : ReplyD)⟩ : SessD),((p16_0,c16_1),(p16_3,c16_4)))])]) (fun _ _=>rfl) (fun p20 c20=>(Q2k 1 rfl (H':=[_,_,_,_,_]) rfl (Qr (d:=20) (v':=.slice p20 ((u1_3_l ++ [(⟨x14.id,x14.seq,(⟨x14.r.err,x14.r.num,v16,x14.r.said⟩ : ReplyD)⟩ : SessD)]).length) c20) (S':=[_,_,_,_,_,_,_]) rfl rfl (by rw [Q12 hzs12]) (Q15 4 (φ':=.own 35 6 Qe.pair (.slice p20 ((u1_3_l ++ [(⟨x14.id,x14.seq,(⟨x14.r.err,x14.r.num,v16,x14.r.said⟩ : ReplyD)⟩ : SessD)]).length) c20) (zz20 ++ [((⟨x14.id,x14.seq,(⟨x14.r.err,x14.r.num,v16,x14.r.said⟩ : ReplyD)⟩ : SessD),((p16_0,c16_1),(p16_3,c16_4)))])) rfl (by rw [Q12 hzs12]) (H':=[_,_,_,_,_]) rfl (Q13 [3,2,0,1,4] rfl (H':=[_,_,_,_,_]) rfl (Qv [QR Qe (zz20 ++ [((⟨x14.id,x14.seq,(⟨x14.r.err,x14.r.num,v16,x14.r.said⟩ : ReplyD)⟩ : SessD),((p16_0,c16_1),(p16_3,c16_4)))]) none,_,_] (fun _ h=>Qo.bagPush (T:=Qe) (x:=(⟨x14.id,x14.seq,(⟨x14.r.err,x14.r.num,v16,x14.r.said⟩ : ReplyD)⟩ : SessD)) (r:=((p16_0,c16_1),(p16_3,c16_4))) (zs:=zz20) (H:=[_,_,_]) h 0 rfl) (Qv [_,Qi Qe 35 6 (.slice p20 ((u1_3_l ++ [(⟨x14.id,x14.seq,(⟨x14.r.err,x14.r.num,v16,x14.r.said⟩ : ReplyD)⟩ : SessD)]).length) c20) (u1_3_l ++ [(⟨x14.id,x14.seq,(⟨x14.r.err,x14.r.num,v16,x14.r.said⟩ : ReplyD)⟩ : SessD)])] (fun _ h=>h.treeIn 2 0 rfl rfl rfl hzs12) (Qs (S':=[_,_,_,_,_,_,_]) rfl rfl rfl rfl rfl (Q3 (Qa (Q2 (Q5 [3,4,0] (S':=[_,_,_]) rfl (Q1 (wP rfl ?_))))))))))))))
   refine wP rfl ?_
   obtain ⟨hg11,hm⟩:=Qq hm
   refine Qr (d:=11) (v':=.int .i64 ((u1_4 + 1:Nat):Int)) (S':=[_,_,_,_]) rfl rfl (Qw (a:=u1_4) (b:=1) hg11) (Qs (S':=[_,_,_,_]) rfl rfl rfl rfl rfl (Q3 ?_))
   have hE:=(Option.some.inj hm).symm
   replace hE:=QZ hLu1 hE
   refine QE [1] rfl (H':=[_]) rfl ?_
   refine Q1n (_,u1_4 + 1,(u1_3_l ++ [(⟨x14.id,x14.seq,(⟨x14.r.err,x14.r.num,v16,x14.r.said⟩ : ReplyD)⟩ : SessD)]),p20,c20,((u1_3_l ++ [(⟨x14.id,x14.seq,(⟨x14.r.err,x14.r.num,v16,x14.r.said⟩ : ReplyD)⟩ : SessD)]).length)) (Nat.lt_succ_self _) hE [4,3,0] rfl (asK [4] rfl) rfl
  ·
   replace hm:=QP hm hb9
   refine Q5 [3] (S':=[_]) rfl (QH (Q8 (Q8 (Qh ?_))))
   have hE:=(Option.some.inj hm).symm
   replace hE:=Qy hLu1 hE
   refine Ql (u1_3_l,u1_3_p,u1_3_c,u1_3_n) hE [3] rfl (asK [] rfl) rfl
 ·
  rintro ⟨j_1_3_l,j_1_3_p,j_1_3_c,j_1_3_n⟩ hE
  try dsimp only
  have hm:=hLj_1
  rw [hE] at hm
  refine Q4 (Q1 (wP rfl (wP rfl (Q3 (Q2 (Q5 [2] (S':=[_]) rfl (Qn ?_)))))))
  have hE:=(Option.some.inj hm).symm
  replace hE:=hE.symm
  subst hE
  refine Qp (Hr:=[_]) [0] Tryz.results26 (Qd rfl) ⟨j_1_3_p,j_1_3_c,j_1_3_n,rfl,rfl,rfl⟩ (asK [] rfl) rfl rfl (.inl rfl)
theorem Q6P (N:Nat) (a0:Int) (qp0:Option Addr) (qc1:Nat) (l1:List SessD)  (hm:Q3p N a0 l1 = some (.inl ())):Q1v Tryz.prog 12 [.int .i64 a0,.slice qp0 l1.length qc1] [.sli 6 Qt qp0 qc1 l1] [] (fun v Φr Hr=>v = .tuple #[.pointer none,.int .i64 4] ∧ Φr = [] ∧ Hr = []):=by
 unfold Q3p at hm
 refine Qx Tryz.func12 rfl Tryz.ntmps12 rfl (S:=[_,_]) rfl (fun C=>(Q4 (Q1 (wP rfl (wP rfl (Q3 (Q2 (Q5 [0,1] (S':=[_,_]) rfl (Q4 (Q4 ?_))))))))))
 obtain ⟨bj_1,hm,hLj_1⟩:=Q6 hm
 refine Q14 (σ:=Bool) (fun j_1_18=>bj_1 = j_1_18) (fun j_1_18=>[(0,.int .i64 a0),(1,.slice qp0 l1.length qc1),(18,.bool j_1_18)]) (fun j_1_18=>[.sli 6 Qt qp0 qc1 l1]) (fun j_1_18=>[]) ?_ ?_
 ·
  refine Q1 (wP rfl (wP rfl (wP rfl ?_)))
  refine QA (d:=10) (S':=[_,_,_,_]) rfl rfl (fun hs10=>?_) (fun hs10=>?_)
  ·
   replace hm:=QQ hm hs10
   refine wO rfl (wO rfl (wP rfl (wP rfl (wO rfl (wO rfl (wO rfl (wP rfl (Q3 ?_))))))))
   have hE:=(Option.some.inj hm).symm
   refine Ql true hE [0,1,18] rfl (asK [0] rfl) rfl
  ·
   replace hm:=QP hm hs10
   refine wP rfl (wP rfl (wP rfl (wP rfl ?_)))
   refine QA (d:=14) (S':=[_,_,_,_,_,_,_,_]) rfl rfl (fun hs14=>?_) (fun hs14=>?_)
   ·
    replace hm:=QQ hm hs14
    refine wO rfl (wO rfl (wO rfl (wP rfl (Q3 ?_))))
    have hE:=(Option.some.inj hm).symm
    refine Ql true hE [0,1,18] rfl (asK [0] rfl) rfl
   ·
    replace hm:=QP hm hs14
    refine wP rfl (wN rfl QB (wP rfl (Qr (d:=17) (v':=.bool (decide (32 < l1.length))) (S':=[_,_,_,_,_,_,_,_,_,_,_]) rfl rfl (natgt (a:=l1.length) (b:=32)) (wP rfl (Q3 ?_)))))
    have hE:=(Option.some.inj hm).symm
    refine Ql (decide (32 < l1.length)) hE [0,1,18] rfl (asK [0] rfl) rfl
 ·
  rintro j_1_18 hE
  try dsimp only
  have hm:=hLj_1
  rw [hE] at hm
  refine Qm rfl (fun hb18=>?_) (fun hb18=>?_)
  ·
   replace hm:=QQ hm hb18
   refine Q5 [] (S':=[]) rfl (Q4 (Q1 (wP rfl (wP rfl (Q3 (Q2 (Qn (Qb ?_))))))))
   have hE:=(Option.some.inj hm).symm
   replace hE:=Sum.inl.inj hE
   refine Q4z (Hr:=[]) [] Tryz.results12 (Qd rfl) (Qd rfl) ⟨rfl,rfl,rfl⟩ (asK [] rfl) rfl rfl (.inl rfl)
  ·
   replace hm:=QP hm hb18
   refine Q5 [0,1] (S':=[_,_]) rfl (Qj (Q2 (Q4 (Q1 (wP rfl (Q3 (Q2 (Q4 ?_))))))))
   obtain ⟨bj_2,hm,hLj_2⟩:=Q2F hm
   refine Q14 (σ:=Unit) (fun _=>bj_2 = .inl ()) (fun _=>[(0,.int .i64 a0),(1,.slice qp0 l1.length qc1)]) (fun _=>[.sli 6 Qt qp0 qc1 l1]) (fun _=>[]) ?_ ?_
   ·
    refine Q4 (Q1 (wP rfl (Q3 (Q2 (Qc (QI (σ:=Nat × Nat × Int) (fun (nu1,u1_7,u1_6)=>Q2s (Q3d N l1 a0) nu1 (u1_7,u1_6) = some bj_2) (fun (nu1,u1_7,u1_6)=>nu1) (fun (nu1,u1_7,u1_6)=>[(7,.int .i64 ((u1_7:Nat):Int)),(6,.int .i64 u1_6),(0,.int .i64 a0),(1,.slice qp0 l1.length qc1)]) (fun (nu1,u1_7,u1_6)=>[.sli 6 Qt qp0 qc1 l1]) (fun (nu1,u1_7,u1_6)=>[]) (N,0,0) hm [7,6,0,1] rfl (asK [0] rfl) rfl (fun s_ hm=>?_)))))))
    obtain ⟨nu1,u1_7,u1_6⟩:=s_
    try dsimp only at hm ⊢
    obtain ⟨mu1,bu1,hnu1,hq,hLu1⟩:=Q1m hm
    clear hm
    subst hnu1
    replace hm:=hq
    clear hq
    unfold Q3d at hm
    try dsimp only at hm
    refine Q4 (Q4 (Q1 (wP rfl (wP rfl (wN rfl QB (wP rfl (Qr (d:=22) (v':=.bool (decide (u1_7 < l1.length))) (S':=[_,_,_,_,_,_,_]) rfl rfl (Q3a (a:=u1_7) (b:=l1.length)) (Q3 (Q2 (Q5 [22,7,6,0,1] (S':=[_,_,_,_,_]) rfl ?_))))))))))
    refine Qm rfl (fun hb22=>?_) (fun hb22=>?_)
    ·
     replace hm:=QQ hm hb22
     refine Q5 [7,6,0,1] (S':=[_,_,_,_]) rfl (Qj (Q2 (Q4 (Qc (Q4 (Q4 ?_))))))
     obtain ⟨bj_3,hm,hLj_3⟩:=Q6 hm
     unfold Q5N at hm
     refine Q14 (σ:=Bool) (fun j_3_48=>bj_3 = j_3_48) (fun j_3_48=>[(7,.int .i64 ((u1_7:Nat):Int)),(0,.int .i64 a0),(1,.slice qp0 l1.length qc1),(48,.bool j_3_48)]) (fun j_3_48=>[.sli 6 Qt qp0 qc1 l1]) (fun j_3_48=>[]) ?_ ?_
     ·
      refine Q1 (wP rfl (wP rfl ?_))
      obtain ⟨x27,hx27,hm⟩:=Q6 hm
      refine Q3A 0 u1_7 rfl rfl rfl (Q0 rfl) rfl rfl rfl rfl rfl hx27 QB QN (fun b27 q27 cs27 hlx27=>(Q4L Q17 1 rfl (fun r27 er27 _=>?_)))
      subst er27
      refine wF rfl Q4A (Q4M 2 0 rfl rfl rfl (Q0 rfl) rfl rfl rfl (cs:=[_]) rfl Q1g Q1D rfl rfl (wP rfl (wP rfl (wP rfl ?_))))
      refine QA (d:=32) (S':=[_,_,_,_,_,_,_,_,_,_,_]) rfl rfl (fun hs32=>?_) (fun hs32=>?_)
      ·
       replace hm:=QQ hm hs32
       refine wO rfl (wO rfl (wO rfl (wO rfl (wO rfl (wO rfl (wO rfl (wP rfl (wP rfl (wO rfl (wO rfl (wO rfl (wO rfl (wO rfl ?_)))))))))))))
       refine wO rfl (wP rfl (Q3 ?_))
       have hE:=(Option.some.inj hm).symm
       refine Ql true hE [7,0,1,48] rfl (asK [4] rfl) rfl
      ·
       replace hm:=QP hm hs32
       refine wP rfl (wP rfl ?_)
       obtain ⟨x35,hx35,hm⟩:=Q6 hm
       refine Q3A 4 u1_7 rfl rfl rfl (Q0 rfl) rfl rfl rfl rfl rfl hx35 QB QN (fun b35 q35 cs35 hlx35=>(Q4L Q17 1 rfl (fun r35 er35 _=>?_)))
       subst er35
       refine wF rfl Q4A (Q4M 2 0 rfl rfl rfl (Q0 rfl) rfl rfl rfl (cs:=[_]) rfl Q1g Q1D rfl rfl (wP rfl (wP rfl (wP rfl (wP rfl ?_)))))
       refine QA (d:=41) (S':=[_,_,_,_,_,_,_,_,_,_,_,_,_,_,_,_,_,_,_,_]) rfl rfl (fun hs41=>?_) (fun hs41=>?_)
       ·
        replace hm:=QQ hm hs41
        refine wO rfl (wO rfl (wO rfl (wO rfl (wO rfl (wO rfl (wP rfl (Q3 ?_)))))))
        have hE:=(Option.some.inj hm).symm
        refine Ql true hE [7,0,1,48] rfl (asK [8] rfl) rfl
       ·
        replace hm:=QP hm hs41
        refine wP rfl (wP rfl ?_)
        obtain ⟨x44,hx44,hm⟩:=Q6 hm
        refine Q3A 8 u1_7 rfl rfl rfl (Q0 rfl) rfl rfl rfl rfl rfl hx44 QB QN (fun b44 q44 cs44 hlx44=>(Q4L Q17 1 rfl (fun r44 er44 _=>?_)))
        subst er44
        refine wF rfl Q4h (Q4M 2 1 rfl rfl rfl (Q0 rfl) rfl rfl rfl (cs:=[_]) rfl Q1g Q1D rfl rfl (wP rfl (wP rfl (Q3 ?_))))
        have hE:=(Option.some.inj hm).symm
        refine Ql (decide (x44.seq < 0)) hE [7,0,1,48] rfl (asK [12] rfl) rfl
     ·
      rintro j_3_48 hE
      try dsimp only
      have hm:=hLj_3
      rw [hE] at hm
      refine Qm rfl (fun hb48=>?_) (fun hb48=>?_)
      ·
       replace hm:=QQ hm hb48
       refine Q5 [] (S':=[]) rfl (Q4 (Q1 (wP rfl (wP rfl (Q3 (Q2 (Qn (Qb (Qu (Qb (Qb (Qu (Qb ?_)))))))))))))
       have hE:=(Option.some.inj hm).symm
       replace hE:=Qy hLu1 hE
       replace hE:=Qy hLj_2 hE
       replace hE:=Sum.inl.inj hE
       refine Q4z (Hr:=[]) [] Tryz.results12 (Qd rfl) (Qd rfl) ⟨rfl,rfl,rfl⟩ (asK [] rfl) rfl rfl (.inl rfl)
      ·
       replace hm:=QP hm hb48
       refine Q5 [7,0,1] (S':=[_,_,_]) rfl (Qj (Q2 (Q1 (wP rfl (wP rfl ?_)))))
       obtain ⟨x51,hx51,hm⟩:=Q6 hm
       refine Q3A 0 u1_7 rfl rfl rfl (Q0 rfl) rfl rfl rfl rfl rfl hx51 QB QN (fun b51 q51 cs51 hlx51=>(Q4L Q17 1 rfl (fun r51 er51 _=>?_)))
       subst er51
       refine wF rfl Q4A (Q4M 2 0 rfl rfl rfl (Q0 rfl) rfl rfl rfl (cs:=[_]) rfl Q1g Q1D rfl rfl (wP rfl (Q3 (Qa (Q2 (Q5 [6,7,0,1] (S':=[_,_,_,_]) rfl (Q1 (wP rfl (wP rfl ?_)))))))))
       obtain ⟨hg24,hm⟩:=Qq hm
       refine Qr (d:=24) (v':=.int .i64 ((u1_7 + 1:Nat):Int)) (S':=[_,_,_,_,_]) rfl rfl (Qw (a:=u1_7) (b:=1) hg24) (Qs (S':=[_,_,_,_,_]) rfl rfl rfl rfl rfl (Q3 ?_))
       have hE:=(Option.some.inj hm).symm
       replace hE:=QZ hLu1 hE
       refine Q1n (_,u1_7 + 1,x51.id) (Nat.lt_succ_self _) hE [7,6,0,1] rfl (asK [4] rfl) rfl
    ·
     replace hm:=QP hm hb22
     refine Q5 [0,1] (S':=[_,_]) rfl (QH (Q8 (Q8 (Qh ?_))))
     have hE:=(Option.some.inj hm).symm
     replace hE:=Qy hLu1 hE
     refine Ql () hE [0,1] rfl (asK [0] rfl) rfl
   ·
    rintro _ hE
    try dsimp only
    have hm:=QZ hLj_2 hE
    try dsimp only at hm
    refine Q4 (Q1 (wP rfl ?_))
    obtain ⟨v55,hc55,hm⟩:=Q6 hm
    refine wC [] [] rfl fn_26 rfl (Q2d N qp0 qc1 l1 _ hc55) (asK [0] rfl) rfl (H':=[]) rfl ?_
    rintro _ _ _ ⟨p55_0,c55_1,c55_2,rfl,rfl,rfl⟩
    refine wP rfl (Q2t rfl rfl rfl (Q0 rfl) rfl tZ_67 tP_67 rfl (out:=[_,_]) rfl (wB rfl (fun g58=>(wP rfl (wP rfl (Q3 (Q2 (Q5 [5,4] (S':=[_,_]) rfl (Qn ?_)))))))))
    have hE:=(Option.some.inj hm).symm
    cases hE
theorem Q6O (N:Nat) (a0:Int) (qp0:Option Addr) (qc1:Nat) (l1:List SessD) (o3:List SessD) (hm:Q3p N a0 l1 = some (.inr o3)):Q1v Tryz.prog 12 [.int .i64 a0,.slice qp0 l1.length qc1] [.sli 6 Qt qp0 qc1 l1] [] (fun v Φr Hr=>∃ (o0:Nat) (o1:Option Addr) (o2:Nat) (o4:Nat),v = .tuple #[.pointer (some ⟨o0,0,none⟩),.int .i64 0] ∧ Φr = [] ∧ Hr = [.blk o0 [.slice o1 o4 o2,.int .i64 a0] 67,Qi Qe 35 6 (.slice o1 o4 o2) o3]):=by
 unfold Q3p at hm
 refine Qx Tryz.func12 rfl Tryz.ntmps12 rfl (S:=[_,_]) rfl (fun C=>(Q4 (Q1 (wP rfl (wP rfl (Q3 (Q2 (Q5 [0,1] (S':=[_,_]) rfl (Q4 (Q4 ?_))))))))))
 obtain ⟨bj_1,hm,hLj_1⟩:=Q6 hm
 refine Q14 (σ:=Bool) (fun j_1_18=>bj_1 = j_1_18) (fun j_1_18=>[(0,.int .i64 a0),(1,.slice qp0 l1.length qc1),(18,.bool j_1_18)]) (fun j_1_18=>[.sli 6 Qt qp0 qc1 l1]) (fun j_1_18=>[]) ?_ ?_
 ·
  refine Q1 (wP rfl (wP rfl (wP rfl ?_)))
  refine QA (d:=10) (S':=[_,_,_,_]) rfl rfl (fun hs10=>?_) (fun hs10=>?_)
  ·
   replace hm:=QQ hm hs10
   refine wO rfl (wO rfl (wP rfl (wP rfl (wO rfl (wO rfl (wO rfl (wP rfl (Q3 ?_))))))))
   have hE:=(Option.some.inj hm).symm
   refine Ql true hE [0,1,18] rfl (asK [0] rfl) rfl
  ·
   replace hm:=QP hm hs10
   refine wP rfl (wP rfl (wP rfl (wP rfl ?_)))
   refine QA (d:=14) (S':=[_,_,_,_,_,_,_,_]) rfl rfl (fun hs14=>?_) (fun hs14=>?_)
   ·
    replace hm:=QQ hm hs14
    refine wO rfl (wO rfl (wO rfl (wP rfl (Q3 ?_))))
    have hE:=(Option.some.inj hm).symm
    refine Ql true hE [0,1,18] rfl (asK [0] rfl) rfl
   ·
    replace hm:=QP hm hs14
    refine wP rfl (wN rfl QB (wP rfl (Qr (d:=17) (v':=.bool (decide (32 < l1.length))) (S':=[_,_,_,_,_,_,_,_,_,_,_]) rfl rfl (natgt (a:=l1.length) (b:=32)) (wP rfl (Q3 ?_)))))
    have hE:=(Option.some.inj hm).symm
    refine Ql (decide (32 < l1.length)) hE [0,1,18] rfl (asK [0] rfl) rfl
 ·
  rintro j_1_18 hE
  try dsimp only
  have hm:=hLj_1
  rw [hE] at hm
  refine Qm rfl (fun hb18=>?_) (fun hb18=>?_)
  ·
   replace hm:=QQ hm hb18
   refine Q5 [] (S':=[]) rfl (Q4 (Q1 (wP rfl (wP rfl (Q3 (Q2 (Qn (Qb ?_))))))))
   have hE:=(Option.some.inj hm).symm
   cases hE
  ·
   replace hm:=QP hm hb18
   refine Q5 [0,1] (S':=[_,_]) rfl (Qj (Q2 (Q4 (Q1 (wP rfl (Q3 (Q2 (Q4 ?_))))))))
   obtain ⟨bj_2,hm,hLj_2⟩:=Q2F hm
   refine Q14 (σ:=Unit) (fun _=>bj_2 = .inl ()) (fun _=>[(0,.int .i64 a0),(1,.slice qp0 l1.length qc1)]) (fun _=>[.sli 6 Qt qp0 qc1 l1]) (fun _=>[]) ?_ ?_
   ·
    refine Q4 (Q1 (wP rfl (Q3 (Q2 (Qc (QI (σ:=Nat × Nat × Int) (fun (nu1,u1_7,u1_6)=>Q2s (Q3d N l1 a0) nu1 (u1_7,u1_6) = some bj_2) (fun (nu1,u1_7,u1_6)=>nu1) (fun (nu1,u1_7,u1_6)=>[(7,.int .i64 ((u1_7:Nat):Int)),(6,.int .i64 u1_6),(0,.int .i64 a0),(1,.slice qp0 l1.length qc1)]) (fun (nu1,u1_7,u1_6)=>[.sli 6 Qt qp0 qc1 l1]) (fun (nu1,u1_7,u1_6)=>[]) (N,0,0) hm [7,6,0,1] rfl (asK [0] rfl) rfl (fun s_ hm=>?_)))))))
    obtain ⟨nu1,u1_7,u1_6⟩:=s_
    try dsimp only at hm ⊢
    obtain ⟨mu1,bu1,hnu1,hq,hLu1⟩:=Q1m hm
    clear hm
    subst hnu1
    replace hm:=hq
    clear hq
    unfold Q3d at hm
    try dsimp only at hm
    refine Q4 (Q4 (Q1 (wP rfl (wP rfl (wN rfl QB (wP rfl (Qr (d:=22) (v':=.bool (decide (u1_7 < l1.length))) (S':=[_,_,_,_,_,_,_]) rfl rfl (Q3a (a:=u1_7) (b:=l1.length)) (Q3 (Q2 (Q5 [22,7,6,0,1] (S':=[_,_,_,_,_]) rfl ?_))))))))))
    refine Qm rfl (fun hb22=>?_) (fun hb22=>?_)
    ·
     replace hm:=QQ hm hb22
     refine Q5 [7,6,0,1] (S':=[_,_,_,_]) rfl (Qj (Q2 (Q4 (Qc (Q4 (Q4 ?_))))))
     obtain ⟨bj_3,hm,hLj_3⟩:=Q6 hm
     refine Q14 (σ:=Bool) (fun j_3_48=>bj_3 = j_3_48) (fun j_3_48=>[(7,.int .i64 ((u1_7:Nat):Int)),(0,.int .i64 a0),(1,.slice qp0 l1.length qc1),(48,.bool j_3_48)]) (fun j_3_48=>[.sli 6 Qt qp0 qc1 l1]) (fun j_3_48=>[]) ?_ ?_
     ·
      refine Q1 (wP rfl (wP rfl ?_))
      obtain ⟨x27,hx27,hm⟩:=Q6 hm
      refine Q3A 0 u1_7 rfl rfl rfl (Q0 rfl) rfl rfl rfl rfl rfl hx27 QB QN (fun b27 q27 cs27 hlx27=>(Q4L Q17 1 rfl (fun r27 er27 _=>?_)))
      subst er27
      refine wF rfl Q4A (Q4M 2 0 rfl rfl rfl (Q0 rfl) rfl rfl rfl (cs:=[_]) rfl Q1g Q1D rfl rfl (wP rfl (wP rfl (wP rfl ?_))))
      refine QA (d:=32) (S':=[_,_,_,_,_,_,_,_,_,_,_]) rfl rfl (fun hs32=>?_) (fun hs32=>?_)
      ·
       replace hm:=QQ hm hs32
       refine wO rfl (wO rfl (wO rfl (wO rfl (wO rfl (wO rfl (wO rfl (wP rfl (wP rfl (wO rfl (wO rfl (wO rfl (wO rfl (wO rfl ?_)))))))))))))
       refine wO rfl (wP rfl (Q3 ?_))
       have hE:=(Option.some.inj hm).symm
       refine Ql true hE [7,0,1,48] rfl (asK [4] rfl) rfl
      ·
       replace hm:=QP hm hs32
       refine wP rfl (wP rfl ?_)
       obtain ⟨x35,hx35,hm⟩:=Q6 hm
       refine Q3A 4 u1_7 rfl rfl rfl (Q0 rfl) rfl rfl rfl rfl rfl hx35 QB QN (fun b35 q35 cs35 hlx35=>(Q4L Q17 1 rfl (fun r35 er35 _=>?_)))
       subst er35
       refine wF rfl Q4A (Q4M 2 0 rfl rfl rfl (Q0 rfl) rfl rfl rfl (cs:=[_]) rfl Q1g Q1D rfl rfl (wP rfl (wP rfl (wP rfl (wP rfl ?_)))))
       refine QA (d:=41) (S':=[_,_,_,_,_,_,_,_,_,_,_,_,_,_,_,_,_,_,_,_]) rfl rfl (fun hs41=>?_) (fun hs41=>?_)
       ·
        replace hm:=QQ hm hs41
        refine wO rfl (wO rfl (wO rfl (wO rfl (wO rfl (wO rfl (wP rfl (Q3 ?_)))))))
        have hE:=(Option.some.inj hm).symm
        refine Ql true hE [7,0,1,48] rfl (asK [8] rfl) rfl
       ·
        replace hm:=QP hm hs41
        refine wP rfl (wP rfl ?_)
        obtain ⟨x44,hx44,hm⟩:=Q6 hm
        refine Q3A 8 u1_7 rfl rfl rfl (Q0 rfl) rfl rfl rfl rfl rfl hx44 QB QN (fun b44 q44 cs44 hlx44=>(Q4L Q17 1 rfl (fun r44 er44 _=>?_)))
        subst er44
        refine wF rfl Q4h (Q4M 2 1 rfl rfl rfl (Q0 rfl) rfl rfl rfl (cs:=[_]) rfl Q1g Q1D rfl rfl (wP rfl (wP rfl (Q3 ?_))))
        have hE:=(Option.some.inj hm).symm
        refine Ql (decide (x44.seq < 0)) hE [7,0,1,48] rfl (asK [12] rfl) rfl
     ·
      rintro j_3_48 hE
      try dsimp only
      have hm:=hLj_3
      rw [hE] at hm
      refine Qm rfl (fun hb48=>?_) (fun hb48=>?_)
      ·
       replace hm:=QQ hm hb48
       refine Q5 [] (S':=[]) rfl (Q4 (Q1 (wP rfl (wP rfl (Q3 (Q2 (Qn (Qb (Qu (Qb (Qb (Qu (Qb ?_)))))))))))))
       have hE:=(Option.some.inj hm).symm
       replace hE:=Qy hLu1 hE
       replace hE:=Qy hLj_2 hE
       cases hE
      ·
       replace hm:=QP hm hb48
       refine Q5 [7,0,1] (S':=[_,_,_]) rfl (Qj (Q2 (Q1 (wP rfl (wP rfl ?_)))))
       obtain ⟨x51,hx51,hm⟩:=Q6 hm
       refine Q3A 0 u1_7 rfl rfl rfl (Q0 rfl) rfl rfl rfl rfl rfl hx51 QB QN (fun b51 q51 cs51 hlx51=>(Q4L Q17 1 rfl (fun r51 er51 _=>?_)))
       subst er51
       refine wF rfl Q4A (Q4M 2 0 rfl rfl rfl (Q0 rfl) rfl rfl rfl (cs:=[_]) rfl Q1g Q1D rfl rfl (wP rfl (Q3 (Qa (Q2 (Q5 [6,7,0,1] (S':=[_,_,_,_]) rfl (Q1 (wP rfl (wP rfl ?_)))))))))
       obtain ⟨hg24,hm⟩:=Qq hm
       refine Qr (d:=24) (v':=.int .i64 ((u1_7 + 1:Nat):Int)) (S':=[_,_,_,_,_]) rfl rfl (Qw (a:=u1_7) (b:=1) hg24) (Qs (S':=[_,_,_,_,_]) rfl rfl rfl rfl rfl (Q3 ?_))
       have hE:=(Option.some.inj hm).symm
       replace hE:=QZ hLu1 hE
       refine Q1n (_,u1_7 + 1,x51.id) (Nat.lt_succ_self _) hE [7,6,0,1] rfl (asK [4] rfl) rfl
    ·
     replace hm:=QP hm hb22
     refine Q5 [0,1] (S':=[_,_]) rfl (QH (Q8 (Q8 (Qh ?_))))
     have hE:=(Option.some.inj hm).symm
     replace hE:=Qy hLu1 hE
     refine Ql () hE [0,1] rfl (asK [0] rfl) rfl
   ·
    rintro _ hE
    try dsimp only
    have hm:=QZ hLj_2 hE
    try dsimp only at hm
    refine Q4 (Q1 (wP rfl ?_))
    obtain ⟨v55,hc55,hm⟩:=Q6 hm
    refine wC [] [] rfl fn_26 rfl (Q2d N qp0 qc1 l1 _ hc55) (asK [0] rfl) rfl (H':=[]) rfl ?_
    rintro _ _ _ ⟨p55_0,c55_1,c55_2,rfl,rfl,rfl⟩
    refine wP rfl (Q2t rfl rfl rfl (Q0 rfl) rfl tZ_67 tP_67 rfl (out:=[_,_]) rfl (wB rfl (fun g58=>(wP rfl (wP rfl (Q3 (Q2 (Q5 [5,4] (S':=[_,_]) rfl (Qn ?_)))))))))
    have hE:=(Option.some.inj hm).symm
    replace hE:=Sum.inr.inj hE
    replace hE:=hE.symm
    subst hE
    refine Q4z (Hr:=[_,_]) [0,1] Tryz.results12 (Qd rfl) (Qd rfl) ⟨g58,p55_0,c55_1,c55_2,rfl,rfl,rfl⟩ (asK [] rfl) rfl rfl (.inl rfl)
theorem Q5J (N:Nat) (qp0:Option Addr) (qc1:Nat) (l0:List V) (k1:Nat) (qp2:Option Addr) (qc3:Nat) (l2:List V) (o0:Bool) (hm:Q2C N l0 k1 l2 = some o0):Q1v Tryz.prog 60 [.slice qp0 k1 qc1,.slice qp2 l2.length qc3] [.sli 3 R_V qp0 qc1 l0,.sli 3 R_V qp2 qc3 l2] [] (fun v Φr Hr=>v = .bool o0 ∧ Φr = [] ∧ Hr = []):=by
 unfold Q2C at hm
 refine Qx Tryz.func60 rfl Tryz.ntmps60 rfl (S:=[_,_]) rfl (fun C=>(Q4 (Q1 (wP rfl (Q3 (Q2 (Q5 [0,1] (S':=[_,_]) rfl (Q4 (Q4 (Q1 (wP rfl (wN rfl Q1S (wP rfl (wN rfl Q1S ?_))))))))))))))
 refine wP rfl (Qr (d:=10) (v':=.bool (k1 != l2.length)) (S':=[_,_,_,_,_,_]) rfl rfl (natne (a:=k1) (b:=l2.length)) (Q3 (Q2 (Q5 [10,0,1] (S':=[_,_,_]) rfl ?_))))
 refine Qm rfl (fun hb10=>?_) (fun hb10=>?_)
 ·
  replace hm:=QQ hm hb10
  refine Q5 [] (S':=[]) rfl (Q4 (Q1 (wP rfl (Q3 (Q2 (Qn (Qb ?_)))))))
  have hE:=(Option.some.inj hm).symm
  replace hE:=hE.symm
  subst hE
  refine Qp (Hr:=[]) [] Tryz.results60 (Qd rfl) ⟨rfl,rfl,rfl⟩ (asK [] rfl) rfl rfl (.inl rfl)
 ·
  replace hm:=QP hm hb10
  refine Q5 [0,1] (S':=[_,_]) rfl (Qj (Q2 (Q4 ?_)))
  obtain ⟨bj_1,hm,hLj_1⟩:=Q2F hm
  refine Q14 (σ:=Unit) (fun _=>bj_1 = .inl ()) (fun _=>[]) (fun _=>[]) (fun _=>[]) ?_ ?_
  ·
   refine Q4 (Q1 (wP rfl (Q3 (Q2 (Qc (QI (σ:=Nat × Nat) (fun (nu1,u1_5)=>Q2s (Q2T N k1 l0 l2) nu1 u1_5 = some bj_1) (fun (nu1,u1_5)=>nu1) (fun (nu1,u1_5)=>[(5,.int .i64 ((u1_5:Nat):Int)),(0,.slice qp0 k1 qc1),(1,.slice qp2 l2.length qc3)]) (fun (nu1,u1_5)=>[.sli 3 R_V qp0 qc1 l0,.sli 3 R_V qp2 qc3 l2]) (fun (nu1,u1_5)=>[]) (N,0) hm [5,0,1] rfl (asK [0,1] rfl) rfl (fun s_ hm=>?_)))))))
   obtain ⟨nu1,u1_5⟩:=s_
   try dsimp only at hm ⊢
   obtain ⟨mu1,bu1,hnu1,hq,hLu1⟩:=Q1m hm
   clear hm
   subst hnu1
   replace hm:=hq
   clear hq
   unfold Q2T at hm
   try dsimp only at hm
   refine Q4 (Q4 (Q1 (wP rfl (wP rfl (wN rfl Q1S (wP rfl (Qr (d:=14) (v':=.bool (decide (u1_5 < k1))) (S':=[_,_,_,_,_,_]) rfl rfl (Q3a (a:=u1_5) (b:=k1)) (Q3 (Q2 (Q5 [14,5,0,1] (S':=[_,_,_,_]) rfl ?_))))))))))
   refine Qm rfl (fun hb14=>?_) (fun hb14=>?_)
   ·
    replace hm:=QQ hm hb14
    refine Q5 [5,0,1] (S':=[_,_,_]) rfl (Qj (Q2 (Q4 (Qc (Q4 ?_)))))
    obtain ⟨hqx19,hm⟩:=Qq hm
    obtain ⟨x19,hx19,hm⟩:=Q6 hm
    obtain ⟨x23,hx23,hm⟩:=Q6 hm
    refine Q1l [0,1,2,3,4,5,6,7,8] rfl rfl (fun hok=>(xP hok 0 rfl (xP hok 1 rfl (wx_indexF hok 2 0 u1_5 rfl rfl rfl (Q0 rfl) rfl rfl rfl rfl rfl rfl hqx19 hx19 Q1S Q25 (fun b19 q19 cs19 hlx19=>(Q1K Q50 1 rfl (fun r19 er19 _=>?_)))))))
    subst er19
    refine Q2m hok 3 0 0 rfl rfl rfl (Q0 rfl) rfl rfl rfl rfl (cs:=[_,_,_]) rfl Q25 Q62 rfl rfl (xP hok 4 rfl (xP hok 5 rfl (Q1y hok 6 3 u1_5 rfl rfl rfl (Q0 rfl) rfl rfl rfl rfl rfl rfl hx23 Q1S Q25 (fun b23 q23 cs23 hlx23=>(Q1K Q50 1 rfl (fun r23 er23 _=>?_))))))
    subst er23
    refine Q2m hok 7 0 0 rfl rfl rfl (Q0 rfl) rfl rfl rfl rfl (cs:=[_,_,_]) rfl Q25 Q62 rfl rfl (Q7s hok 8 rfl rfl rfl (Q0 rfl) rfl rfl rfl rfl (neqV _ _ x19 x23) (Q19 hok rfl (Q2 (Q5 [25,5,0,1] (S':=[_,_,_,_]) rfl ?_))))
    refine Qm rfl (fun hb25=>?_) (fun hb25=>?_)
    ·
     replace hm:=QQ hm hb25
     refine Q5 [] (S':=[]) rfl (Q4 (Q1 (wP rfl (Q3 (Q2 (Qn (Qu (Qb (Qb (Qu (Qb ?_)))))))))))
     have hE:=(Option.some.inj hm).symm
     replace hE:=Qy hLu1 hE
     replace hE:=Qy hLj_1 hE
     replace hE:=hE.symm
     subst hE
     refine Qp (Hr:=[]) [] Tryz.results60 (Qd rfl) ⟨rfl,rfl,rfl⟩ (asK [] rfl) rfl rfl (.inl rfl)
    ·
     replace hm:=QP hm hb25
     refine Q5 [5,0,1] (S':=[_,_,_]) rfl (Qj (Qa (Q2 (Q1 (wP rfl (wP rfl ?_))))))
     obtain ⟨hg16,hm⟩:=Qq hm
     refine Qr (d:=16) (v':=.int .i64 ((u1_5 + 1:Nat):Int)) (S':=[_,_,_,_]) rfl rfl (Qw (a:=u1_5) (b:=1) hg16) (Qs (S':=[_,_,_,_]) rfl rfl rfl rfl rfl (Q3 ?_))
     have hE:=(Option.some.inj hm).symm
     replace hE:=QZ hLu1 hE
     refine Q1n (_,u1_5 + 1) (Nat.lt_succ_self _) hE [5,0,1] rfl (asK [4,5] rfl) rfl
   ·
    replace hm:=QP hm hb14
    refine Q5 [] (S':=[]) rfl (QH (Q8 (Q8 (Qh ?_))))
    have hE:=(Option.some.inj hm).symm
    replace hE:=Qy hLu1 hE
    refine Ql () hE [] rfl (asK [] rfl) rfl
  ·
   rintro _ hE
   try dsimp only
   have hm:=QZ hLj_1 hE
   try dsimp only at hm
   refine Q4 (Q1 (wP rfl (Q3 (Q2 (Qn ?_)))))
   have hE:=(Option.some.inj hm).symm
   replace hE:=hE.symm
   subst hE
   refine Qp (Hr:=[]) [] Tryz.results60 (Qd rfl) ⟨rfl,rfl,rfl⟩ (asK [] rfl) rfl rfl (.inl rfl)
theorem Q45 (N:Nat) (a0:Int) (a1:Int) (qp0:Option Addr) (qc1:Nat) (l2:List V) (k3:Nat) (a4:Int) (a5:Int) (qp2:Option Addr) (qc3:Nat) (l6:List V) (o0:Bool) (hm:Q1i N a0 a1 l2 k3 a4 a5 l6 = some o0):Q1v Tryz.prog 101 [.agg #[.int .i64 a0,.int .i64 a1,.slice qp0 k3 qc1],.agg #[.int .i64 a4,.int .i64 a5,.slice qp2 l6.length qc3]] [.sli 3 R_V qp0 qc1 l2,.sli 3 R_V qp2 qc3 l6] [] (fun v Φr Hr=>v = .bool o0 ∧ Φr = [] ∧ Hr = []):=by
 unfold Q1i at hm
 refine Qx Tryz.func101 rfl Tryz.ntmps101 rfl (S:=[_,_]) rfl (fun C=>(Q4 (Q1 (wB rfl (fun g2=>(wB rfl (fun g3=>(wP rfl (Q3 (Q2 (Q5 [3,2] (S':=[_,_]) rfl (Q4 (Q1 (wF rfl tF_61_0 (wD 1 0 rfl Q1g Q1D rfl (wF rfl tF_61_0 ?_))))))))))))))))
 refine wD 0 0 rfl Q1g Q1D rfl (wP rfl (wP rfl ?_))
 refine QA (d:=10) (S':=[_,_,_,_,_,_,_]) rfl rfl (fun hs10=>?_) (fun hs10=>?_)
 ·
  replace hm:=QQ hm hs10
  refine wF rfl tF_61_1 (wD 1 1 rfl Q1g Q1D rfl (wF rfl tF_61_1 (wD 0 1 rfl Q1g Q1D rfl (wP rfl (wP rfl (wP rfl ?_))))))
  refine QA (d:=17) (S':=[_,_,_,_,_,_,_,_,_,_,_,_,_,_]) rfl rfl (fun hs17=>?_) (fun hs17=>?_)
  ·
   replace hm:=QQ hm hs17
   refine wF rfl Q5e (wD 1 2 rfl Q1Z Q41 rfl (wF rfl Q5e (wD 0 2 rfl Q1Z Q41 rfl ?_)))
   obtain ⟨v22,hc22,hm⟩:=Q6 hm
   refine wC [] [0,1] rfl fn_60 rfl (Q5J N qp0 qc1 l2 k3 qp2 qc3 l6 _ hc22) (asK [0,1] rfl) rfl (H':=[_,_]) rfl ?_
   rintro _ _ _ ⟨rfl,rfl,rfl⟩
   refine wP rfl (wP rfl (Q3 (Q2 (Q5 [4] (S':=[_]) rfl (Qn ?_)))))
   have hE:=(Option.some.inj hm).symm
   replace hE:=hE.symm
   subst hE
   refine Qp (Hr:=[]) [] Tryz.results101 (Qd rfl) ⟨rfl,rfl,rfl⟩ (asK [] rfl) rfl rfl (.inl rfl)
  ·
   replace hm:=QP hm hs17
   refine wO rfl (wO rfl (wO rfl (wO rfl (wO rfl (wP rfl (wP rfl (Q3 (Q2 (Q5 [4] (S':=[_]) rfl (Qn ?_))))))))))
   have hE:=(Option.some.inj hm).symm
   replace hE:=hE.symm
   subst hE
   refine Qp (Hr:=[]) [] Tryz.results101 (Qd rfl) ⟨rfl,rfl,rfl⟩ (asK [] rfl) rfl rfl (.inl rfl)
 ·
  replace hm:=QP hm hs10
  refine wO rfl (wO rfl (wO rfl (wO rfl (wO rfl (wP rfl (wP rfl (wO rfl (wO rfl (wO rfl (wO rfl (wO rfl (wP rfl (wP rfl ?_)))))))))))))
  refine Q3 (Q2 (Q5 [4] (S':=[_]) rfl (Qn ?_)))
  have hE:=(Option.some.inj hm).symm
  replace hE:=hE.symm
  subst hE
  refine Qp (Hr:=[]) [] Tryz.results101 (Qd rfl) ⟨rfl,rfl,rfl⟩ (asK [] rfl) rfl rfl (.inl rfl)
theorem Q7h (N:Nat) (qp0:Option Addr) (qc1:Nat) (l0:List FactDS) (k1:Nat) (qp2:Option Addr) (qc3:Nat) (l2:List FactD) (o0:Bool) (hm:Q2b N l0 k1 l2 = some o0):Q1v Tryz.prog 59 [.slice qp0 k1 qc1,.slice qp2 l2.length qc3] [.sli 3 Q5G qp0 qc1 l0,.sli 3 QO qp2 qc3 l2] [] (fun v Φr Hr=>v = .bool o0 ∧ Φr = [] ∧ Hr = []):=by
 unfold Q2b at hm
 refine Qx Tryz.func59 rfl Tryz.ntmps59 rfl (S:=[_,_]) rfl (fun C=>(Q4 (Q1 (wP rfl (Q3 (Q2 (Q5 [0,1] (S':=[_,_]) rfl (Q4 (Q4 (Q1 (wP rfl (wN rfl Q1s (wP rfl (wN rfl Q1s ?_))))))))))))))
 refine wP rfl (Qr (d:=10) (v':=.bool (k1 != l2.length)) (S':=[_,_,_,_,_,_]) rfl rfl (natne (a:=k1) (b:=l2.length)) (Q3 (Q2 (Q5 [10,0,1] (S':=[_,_,_]) rfl ?_))))
 refine Qm rfl (fun hb10=>?_) (fun hb10=>?_)
 ·
  replace hm:=QQ hm hb10
  refine Q5 [] (S':=[]) rfl (Q4 (Q1 (wP rfl (Q3 (Q2 (Qn (Qb ?_)))))))
  have hE:=(Option.some.inj hm).symm
  replace hE:=hE.symm
  subst hE
  refine Qp (Hr:=[]) [] Tryz.results59 (Qd rfl) ⟨rfl,rfl,rfl⟩ (asK [] rfl) rfl rfl (.inl rfl)
 ·
  replace hm:=QP hm hb10
  refine Q5 [0,1] (S':=[_,_]) rfl (Qj (Q2 (Q4 ?_)))
  obtain ⟨bj_1,hm,hLj_1⟩:=Q2F hm
  refine Q14 (σ:=Unit) (fun _=>bj_1 = .inl ()) (fun _=>[]) (fun _=>[]) (fun _=>[]) ?_ ?_
  ·
   refine Q4 (Q1 (wP rfl (Q3 (Q2 (Qc (QI (σ:=Nat × Nat) (fun (nu1,u1_5)=>Q2s (Q2e N k1 l0 l2) nu1 u1_5 = some bj_1) (fun (nu1,u1_5)=>nu1) (fun (nu1,u1_5)=>[(5,.int .i64 ((u1_5:Nat):Int)),(0,.slice qp0 k1 qc1),(1,.slice qp2 l2.length qc3)]) (fun (nu1,u1_5)=>[.sli 3 Q5G qp0 qc1 l0,.sli 3 QO qp2 qc3 l2]) (fun (nu1,u1_5)=>[]) (N,0) hm [5,0,1] rfl (asK [0,1] rfl) rfl (fun s_ hm=>?_)))))))
   obtain ⟨nu1,u1_5⟩:=s_
   try dsimp only at hm ⊢
   obtain ⟨mu1,bu1,hnu1,hq,hLu1⟩:=Q1m hm
   clear hm
   subst hnu1
   replace hm:=hq
   clear hq
   unfold Q2e at hm
   try dsimp only at hm
   refine Q4 (Q4 (Q1 (wP rfl (wP rfl (wN rfl Q1s (wP rfl (Qr (d:=14) (v':=.bool (decide (u1_5 < k1))) (S':=[_,_,_,_,_,_]) rfl rfl (Q3a (a:=u1_5) (b:=k1)) (Q3 (Q2 (Q5 [14,5,0,1] (S':=[_,_,_,_]) rfl ?_))))))))))
   refine Qm rfl (fun hb14=>?_) (fun hb14=>?_)
   ·
    replace hm:=QQ hm hb14
    refine Q5 [5,0,1] (S':=[_,_,_]) rfl (Qj (Q2 (Q4 (Qc (Q4 ?_)))))
    obtain ⟨hqx19,hm⟩:=Qq hm
    obtain ⟨x19,hx19,hm⟩:=Q6 hm
    obtain ⟨x23,hx23,hm⟩:=Q6 hm
    obtain ⟨v25,hc25,hm⟩:=Q6 hm
    refine Q1l [0,1,2,3,4,5,6,7,9] rfl rfl (fun hok=>(xP hok 0 rfl (xP hok 1 rfl (wx_indexF hok 2 0 u1_5 rfl rfl rfl (Q0 rfl) rfl rfl rfl rfl rfl rfl hqx19 hx19 Q1s Q1G (fun b19 q19 cs19 hlx19=>(Q1K Q5w 1 rfl (fun r19 er19 _=>?_)))))))
    subst er19
    refine Q2m hok 3 1 0 rfl rfl rfl (Q0 rfl) rfl rfl rfl rfl (cs:=[_,_,_]) rfl Q1G Q59 rfl rfl (xP hok 4 rfl (xP hok 5 rfl (Q1y hok 6 4 u1_5 rfl rfl rfl (Q0 rfl) rfl rfl rfl rfl rfl rfl hx23 Q1s Q1G (fun b23 q23 cs23 hlx23=>(Q1K Q4u 1 rfl (fun r23 er23 _=>?_))))))
    subst er23
    refine Q2m hok 7 1 0 rfl rfl rfl (Q0 rfl) rfl rfl rfl rfl (cs:=[_,_,_]) rfl Q1G Q59 rfl rfl (xS hok 8 rfl (wC [] [] rfl Q8e rfl (Q45 N x19.id x19.ty r19.1 r19.2 (x19.args ++ x19.argsT) x19.args.length x23.id x23.ty r23.1 r23.2 x23.args _ hc25) (asK [3,0] rfl) rfl (H':=[]) rfl ?_))
    rintro _ _ _ ⟨rfl,rfl,rfl⟩
    refine Q3 (QT [0,1,2,3,4,5,6,7] [] rfl rfl (xP hok 9 rfl (Q19 hok rfl (Q2 (Q5 [26,5,0,1] (S':=[_,_,_,_]) rfl ?_)))))
    refine Qm rfl (fun hb26=>?_) (fun hb26=>?_)
    ·
     replace hm:=QQ hm hb26
     refine Q5 [] (S':=[]) rfl (Q4 (Q1 (wP rfl (Q3 (Q2 (Qn (Qu (Qb (Qb (Qu (Qb ?_)))))))))))
     have hE:=(Option.some.inj hm).symm
     replace hE:=Qy hLu1 hE
     replace hE:=Qy hLj_1 hE
     replace hE:=hE.symm
     subst hE
     refine Qp (Hr:=[]) [] Tryz.results59 (Qd rfl) ⟨rfl,rfl,rfl⟩ (asK [] rfl) rfl rfl (.inl rfl)
    ·
     replace hm:=QP hm hb26
     refine Q5 [5,0,1] (S':=[_,_,_]) rfl (Qj (Qa (Q2 (Q1 (wP rfl (wP rfl ?_))))))
     obtain ⟨hg16,hm⟩:=Qq hm
     refine Qr (d:=16) (v':=.int .i64 ((u1_5 + 1:Nat):Int)) (S':=[_,_,_,_]) rfl rfl (Qw (a:=u1_5) (b:=1) hg16) (Qs (S':=[_,_,_,_]) rfl rfl rfl rfl rfl (Q3 ?_))
     have hE:=(Option.some.inj hm).symm
     replace hE:=QZ hLu1 hE
     refine Q1n (_,u1_5 + 1) (Nat.lt_succ_self _) hE [5,0,1] rfl (asK [6,7] rfl) rfl
   ·
    replace hm:=QP hm hb14
    refine Q5 [] (S':=[]) rfl (QH (Q8 (Q8 (Qh ?_))))
    have hE:=(Option.some.inj hm).symm
    replace hE:=Qy hLu1 hE
    refine Ql () hE [] rfl (asK [] rfl) rfl
  ·
   rintro _ hE
   try dsimp only
   have hm:=QZ hLj_1 hE
   try dsimp only at hm
   refine Q4 (Q1 (wP rfl (Q3 (Q2 (Qn ?_)))))
   have hE:=(Option.some.inj hm).symm
   replace hE:=hE.symm
   subst hE
   refine Qp (Hr:=[]) [] Tryz.results59 (Qd rfl) ⟨rfl,rfl,rfl⟩ (asK [] rfl) rfl rfl (.inl rfl)
theorem Q5P (N:Nat) (a0:Int) (a1:Int) (qp0:Option Addr) (qc1:Nat) (l2:List FactDS) (k3:Nat) (qp2:Option Addr) (qc3:Nat) (l4:List V) (k5:Nat) (a6:Int) (a7:Int) (qp4:Option Addr) (qc5:Nat) (l8:List FactD) (qp6:Option Addr) (qc7:Nat) (l9:List V) (o0:Bool) (hm:Q1P N a0 a1 l2 k3 l4 k5 a6 a7 l8 l9 = some o0):Q1v Tryz.prog 38 [.agg #[.int .i64 a0,.int .i64 a1,.slice qp0 k3 qc1,.slice qp2 k5 qc3],.agg #[.int .i64 a6,.int .i64 a7,.slice qp4 l8.length qc5,.slice qp6 l9.length qc7]] [.sli 3 Q5G qp0 qc1 l2,.sli 3 R_V qp2 qc3 l4,.sli 3 QO qp4 qc5 l8,.sli 3 R_V qp6 qc7 l9] [] (fun v Φr Hr=>v = .bool o0 ∧ Φr = [] ∧ Hr = []):=by
 unfold Q1P at hm
 refine Qx Tryz.func38 rfl Tryz.ntmps38 rfl (S:=[_,_]) rfl (fun C=>(Q4 (Q1 (wB rfl (fun g2=>(wB rfl (fun g3=>(wP rfl (Q3 (Q2 (Q5 [3,2] (S':=[_,_]) rfl (Q4 ?_))))))))))))
 obtain ⟨bj_1,hm,hLj_1⟩:=Q6 hm
 unfold Q2Z at hm
 refine Q14 (σ:=Bool) (fun j_1_4=>bj_1 = j_1_4) (fun j_1_4=>[(4,.bool j_1_4)]) (fun j_1_4=>[]) (fun j_1_4=>[]) ?_ ?_
 ·
  refine Q1 (wF rfl tF_27_0 (wD 1 0 rfl tS_23 tA_23 rfl (wF rfl tF_27_0 (wD 0 0 rfl tS_23 tA_23 rfl (wP rfl (wP rfl ?_))))))
  refine QA (d:=10) (S':=[_,_,_,_,_,_,_]) rfl rfl (fun hs10=>?_) (fun hs10=>?_)
  ·
   replace hm:=QQ hm hs10
   refine wF rfl Q86 (wD 1 1 rfl Q1g Q1D rfl (wF rfl Q86 (wD 0 1 rfl Q1g Q1D rfl (wP rfl (wP rfl (wP rfl ?_))))))
   refine QA (d:=17) (S':=[_,_,_,_,_,_,_,_,_,_,_,_,_,_]) rfl rfl (fun hs17=>?_) (fun hs17=>?_)
   ·
    replace hm:=QQ hm hs17
    refine wF rfl Q4g (wD 1 2 rfl Q31 Q4R rfl (wF rfl Q4g (wD 0 2 rfl Q31 Q4R rfl ?_)))
    obtain ⟨v22,hc22,hm⟩:=Q6 hm
    refine wC [] [0,1] rfl fn_59 rfl (Q7h N qp0 qc1 l2 k3 qp4 qc5 l8 _ hc22) (asK [0,2] rfl) rfl (H':=[_,_]) rfl ?_
    rintro _ _ _ ⟨rfl,rfl,rfl⟩
    refine wP rfl (wP rfl ?_)
    refine QA (d:=24) (S':=[_,_,_,_,_,_,_,_,_,_,_,_,_,_,_,_,_,_,_,_,_]) rfl rfl (fun hs24=>?_) (fun hs24=>?_)
    ·
     replace hm:=QQ hm hs24
     refine wF rfl Q5b (wD 1 3 rfl Q1Z Q41 rfl (wF rfl Q5b (wD 0 3 rfl Q1Z Q41 rfl ?_)))
     obtain ⟨v29,hc29,hm⟩:=Q6 hm
     refine wC [] [0,1] rfl fn_60 rfl (Q5J N qp2 qc3 l4 k5 qp6 qc7 l9 _ hc29) (asK [1,3] rfl) rfl (H':=[_,_]) rfl ?_
     rintro _ _ _ ⟨rfl,rfl,rfl⟩
     refine wP rfl (wP rfl (Q3 ?_))
     have hE:=(Option.some.inj hm).symm
     refine QE [] rfl (H':=[]) rfl ?_
     refine Ql v29 hE [4] rfl (asK [] rfl) rfl
    ·
     replace hm:=QP hm hs24
     refine wO rfl (wO rfl (wO rfl (wO rfl (wO rfl (wP rfl (wP rfl (Q3 ?_)))))))
     have hE:=(Option.some.inj hm).symm
     refine QE [] rfl (H':=[]) rfl ?_
     refine Ql false hE [4] rfl (asK [] rfl) rfl
   ·
    replace hm:=QP hm hs17
    refine wO rfl (wO rfl (wO rfl (wO rfl (wO rfl (wP rfl (wP rfl (wO rfl (wO rfl (wO rfl (wO rfl (wO rfl (wP rfl (wP rfl ?_)))))))))))))
    refine Q3 ?_
    have hE:=(Option.some.inj hm).symm
    refine QE [] rfl (H':=[]) rfl ?_
    refine Ql false hE [4] rfl (asK [] rfl) rfl
  ·
   replace hm:=QP hm hs10
   refine wO rfl (wO rfl (wO rfl (wO rfl (wO rfl (wP rfl (wP rfl (wO rfl (wO rfl (wO rfl (wO rfl (wO rfl (wP rfl (wP rfl ?_)))))))))))))
   refine wO rfl (wO rfl (wO rfl (wO rfl (wO rfl (wP rfl (wP rfl (Q3 ?_)))))))
   have hE:=(Option.some.inj hm).symm
   refine QE [] rfl (H':=[]) rfl ?_
   refine Ql false hE [4] rfl (asK [] rfl) rfl
 ·
  rintro j_1_4 hE
  try dsimp only
  have hm:=hLj_1
  rw [hE] at hm
  refine Qn ?_
  have hE:=(Option.some.inj hm).symm
  replace hE:=hE.symm
  subst hE
  refine Qp (Hr:=[]) [] Tryz.results38 (Qd rfl) ⟨rfl,rfl,rfl⟩ (asK [] rfl) rfl rfl (.inl rfl)
theorem Q4x (N:Nat) (a0:Int) (a1:Int) (a2:Int) (a3:Int) (qp0:Option Addr) (qc1:Nat) (l4:List FactDS) (k5:Nat) (qp2:Option Addr) (qc3:Nat) (l6:List V) (k7:Nat) (a8:Int) (a9:Int) (a10:Int) (a11:Int) (qp4:Option Addr) (qc5:Nat) (l12:List FactD) (qp6:Option Addr) (qc7:Nat) (l13:List V) (o0:Bool) (hm:Q1A N a0 a1 a2 a3 l4 k5 l6 k7 a8 a9 a10 a11 l12 l13 = some o0):Q1v Tryz.prog 28 [.agg #[.int .i64 a0,.int .i64 a1,.int .i64 a2,.int .i64 a3,.slice qp0 k5 qc1,.slice qp2 k7 qc3],.agg #[.int .i64 a8,.int .i64 a9,.int .i64 a10,.int .i64 a11,.slice qp4 l12.length qc5,.slice qp6 l13.length qc7]] [.sli 3 Q5G qp0 qc1 l4,.sli 3 R_V qp2 qc3 l6,.sli 3 QO qp4 qc5 l12,.sli 3 R_V qp6 qc7 l13] [] (fun v Φr Hr=>v = .bool o0 ∧ Φr = [] ∧ Hr = []):=by
 unfold Q1A at hm
 refine Qx Tryz.func28 rfl Tryz.ntmps28 rfl (S:=[_,_]) rfl (fun C=>(Q4 (Q1 (wB rfl (fun g2=>(wB rfl (fun g3=>(wP rfl (Q3 (Q2 (Q5 [3,2] (S':=[_,_]) rfl (Q4 (Q1 (wF rfl Q4A (wD 1 0 rfl Q1g Q1D rfl (wF rfl Q4A ?_))))))))))))))))
 refine wD 0 0 rfl Q1g Q1D rfl (wP rfl (wP rfl ?_))
 refine QA (d:=10) (S':=[_,_,_,_,_,_,_]) rfl rfl (fun hs10=>?_) (fun hs10=>?_)
 ·
  replace hm:=QQ hm hs10
  refine wF rfl Q4h (wD 1 1 rfl Q1g Q1D rfl (wF rfl Q4h (wD 0 1 rfl Q1g Q1D rfl (wP rfl (wP rfl (wP rfl ?_))))))
  refine QA (d:=17) (S':=[_,_,_,_,_,_,_,_,_,_,_,_,_,_]) rfl rfl (fun hs17=>?_) (fun hs17=>?_)
  ·
   replace hm:=QQ hm hs17
   refine wF rfl Q4b (Q1e 1 2 rfl rfl rfl (Q0 rfl) rfl rfl rfl (cs:=[_,_,_,_]) rfl Q11 Q1W rfl rfl (wF rfl Q4b (Q1e 0 2 rfl rfl rfl (Q0 rfl) rfl rfl rfl (cs:=[_,_,_,_]) rfl Q11 Q1W rfl rfl ?_)))
   obtain ⟨v22,hc22,hm⟩:=Q6 hm
   refine wC [] [0,1] rfl fn_38 rfl (Q5P N a2 a3 qp0 qc1 l4 k5 qp2 qc3 l6 k7 a10 a11 qp4 qc5 l12 qp6 qc7 l13 _ hc22) (asK [0,1,2,3] rfl) rfl (H':=[_,_]) rfl ?_
   rintro _ _ _ ⟨rfl,rfl,rfl⟩
   refine wP rfl (wP rfl (Q3 (Q2 (Q5 [4] (S':=[_]) rfl (Qn ?_)))))
   have hE:=(Option.some.inj hm).symm
   replace hE:=hE.symm
   subst hE
   refine Qp (Hr:=[]) [] Tryz.results28 (Qd rfl) ⟨rfl,rfl,rfl⟩ (asK [] rfl) rfl rfl (.inl rfl)
  ·
   replace hm:=QP hm hs17
   refine wO rfl (wO rfl (wO rfl (wO rfl (wO rfl (wP rfl (wP rfl (Q3 (Q2 (Q5 [4] (S':=[_]) rfl (Qn ?_))))))))))
   have hE:=(Option.some.inj hm).symm
   replace hE:=hE.symm
   subst hE
   refine Qp (Hr:=[]) [] Tryz.results28 (Qd rfl) ⟨rfl,rfl,rfl⟩ (asK [] rfl) rfl rfl (.inl rfl)
 ·
  replace hm:=QP hm hs10
  refine wO rfl (wO rfl (wO rfl (wO rfl (wO rfl (wP rfl (wP rfl (wO rfl (wO rfl (wO rfl (wO rfl (wO rfl (wP rfl (wP rfl ?_)))))))))))))
  refine Q3 (Q2 (Q5 [4] (S':=[_]) rfl (Qn ?_)))
  have hE:=(Option.some.inj hm).symm
  replace hE:=hE.symm
  subst hE
  refine Qp (Hr:=[]) [] Tryz.results28 (Qd rfl) ⟨rfl,rfl,rfl⟩ (asK [] rfl) rfl rfl (.inl rfl)
theorem Q5E (N:Nat) (qp0:Option Addr) (qc1:Nat) (l0:List V) (k1:Nat) (qp2:Option Addr) (qc3:Nat) (l2:List V) (o0:Bool) (hm:Q2E N l0 k1 l2 = some o0):Q1v Tryz.prog 56 [.slice qp0 k1 qc1,.slice qp2 l2.length qc3] [.sli 3 R_V qp0 qc1 l0,.sli 3 R_V qp2 qc3 l2] [] (fun v Φr Hr=>v = .bool o0 ∧ Φr = [] ∧ Hr = []):=by
 unfold Q2E at hm
 refine Qx Tryz.func56 rfl Tryz.ntmps56 rfl (S:=[_,_]) rfl (fun C=>(Q4 (Q1 (wP rfl (Q3 (Q2 (Q5 [0,1] (S':=[_,_]) rfl (Q4 (Q4 (Q1 (wP rfl (wN rfl Q1S (wP rfl (wN rfl Q1S ?_))))))))))))))
 refine wP rfl (Qr (d:=11) (v':=.bool (k1 != l2.length)) (S':=[_,_,_,_,_,_]) rfl rfl (natne (a:=k1) (b:=l2.length)) (Q3 (Q2 (Q5 [11,0,1] (S':=[_,_,_]) rfl ?_))))
 refine Qm rfl (fun hb11=>?_) (fun hb11=>?_)
 ·
  replace hm:=QQ hm hb11
  refine Q5 [] (S':=[]) rfl (Q4 (Q1 (wP rfl (Q3 (Q2 (Qn (Qb ?_)))))))
  have hE:=(Option.some.inj hm).symm
  replace hE:=hE.symm
  subst hE
  refine Qp (Hr:=[]) [] Tryz.results56 (Qd rfl) ⟨rfl,rfl,rfl⟩ (asK [] rfl) rfl rfl (.inl rfl)
 ·
  replace hm:=QP hm hb11
  refine Q5 [0,1] (S':=[_,_]) rfl (Qj (Q2 (Q4 (Q1 (wP rfl (wP rfl (wN rfl Q1S (wP rfl ?_))))))))
  obtain ⟨hg15,hm⟩:=Qq hm
  refine Qr (d:=15) (v':=.int .i64 ((l2.length + 12:Nat):Int)) (S':=[_,_,_,_,_]) rfl rfl (Qw (a:=l2.length) (b:=12) hg15) ?_
  obtain ⟨hg16,hm⟩:=Qq hm
  refine wl_sliToF 0 rfl rfl rfl (Q0 rfl) rfl rfl rfl rfl rfl Q1S Q25 hg16 (fun p16=>(wP rfl (Q3 (Q2 (Q5 [5,1] (S':=[_,_]) rfl (Q4 ?_))))))
  obtain ⟨bj_1,hm,hLj_1⟩:=Q2F hm
  refine Q14 (σ:=Unit) (fun _=>bj_1 = .inl ()) (fun _=>[]) (fun _=>[]) (fun _=>[]) ?_ ?_
  ·
   refine Q4 (Q1 (wP rfl (Q3 (Q2 (Qc (QI (σ:=Nat × Nat) (fun (nu1,u1_6)=>Q2s (Q2Q N l0 l2) nu1 u1_6 = some bj_1) (fun (nu1,u1_6)=>nu1) (fun (nu1,u1_6)=>[(6,.int .i64 ((u1_6:Nat):Int)),(5,.slice p16 ((l0.take (l2.length + 12)).length) qc1),(1,.slice qp2 l2.length qc3)]) (fun (nu1,u1_6)=>[.sli 3 R_V p16 qc1 (l0.take (l2.length + 12)),.sli 3 R_V qp2 qc3 l2]) (fun (nu1,u1_6)=>[]) (N,0) hm [6,5,1] rfl (asK [0,2] rfl) rfl (fun s_ hm=>?_)))))))
   obtain ⟨nu1,u1_6⟩:=s_
   try dsimp only at hm ⊢
   obtain ⟨mu1,bu1,hnu1,hq,hLu1⟩:=Q1m hm
   clear hm
   subst hnu1
   replace hm:=hq
   clear hq
   unfold Q2Q at hm
   try dsimp only at hm
   refine Q4 (Q4 (Q1 (wP rfl (wP rfl (wN rfl Q1S (wP rfl (Qr (d:=20) (v':=.bool (decide (u1_6 < ((l0.take (l2.length + 12)).length)))) (S':=[_,_,_,_,_,_]) rfl rfl (Q3a (a:=u1_6) (b:=(l0.take (l2.length + 12)).length)) (Q3 (Q2 (Q5 [20,6,5,1] (S':=[_,_,_,_]) rfl ?_))))))))))
   refine Qm rfl (fun hb20=>?_) (fun hb20=>?_)
   ·
    replace hm:=QQ hm hb20
    refine Q5 [6,5,1] (S':=[_,_,_]) rfl (Qj (Q2 (Q4 (Qc (Q4 ?_)))))
    obtain ⟨bj_2,hm,hLj_2⟩:=Q6 hm
    unfold Q4y at hm
    refine Q14 (σ:=Bool) (fun j_2_57=>bj_2 = j_2_57) (fun j_2_57=>[(6,.int .i64 ((u1_6:Nat):Int)),(5,.slice p16 ((l0.take (l2.length + 12)).length) qc1),(1,.slice qp2 l2.length qc3),(57,.bool j_2_57)]) (fun j_2_57=>[.sli 3 R_V p16 qc1 (l0.take (l2.length + 12)),.sli 3 R_V qp2 qc3 l2]) (fun j_2_57=>[]) ?_ ?_
    ·
     rcases Q4v hm with ⟨hs27,hm⟩ | ⟨hs27,hm⟩
     ·
      obtain ⟨x30,hx30,hm⟩:=Q6 hm
      obtain ⟨x34,hx34,hm⟩:=Q6 hm
      rcases Q4v hm with ⟨hs39,hm⟩ | ⟨hs39,hm⟩
      ·
       refine Q1l [0,1,2,3,4,5,6,7,8,9,10,11,12,13,14,15,16,17,18,19,20,21,22,23,24,25,26,27,28,29,31,32,33,34] rfl rfl (fun hok=>(xP hok 0 rfl (xP hok 1 rfl (Q3e hok 2 rfl rfl rfl (Q0 rfl) rfl rfl rfl Q1S (xP hok 3 rfl (Q1h (d:=26) (v':=.bool (decide (u1_6 < l2.length))) (S':=[_,_,_,_,_,_]) rfl rfl (Q3a (a:=u1_6) (b:=l2.length)) (xP hok 4 rfl (Q1h (d:=27) (v':=.bool true) (S':=[_,_,_,_,_,_,_]) rfl rfl (Q1p hs27) (xP hok 5 rfl (xP hok 6 rfl (Q1y hok 7 0 u1_6 rfl rfl rfl (Q0 rfl) rfl rfl rfl rfl rfl rfl hx30 Q1S Q25 (fun b30 q30 cs30 hlx30=>(Q1K Q50 1 rfl (fun r30 er30 _=>?_))))))))))))))
       subst er30
       refine Q2m hok 8 0 0 rfl rfl rfl (Q0 rfl) rfl rfl rfl rfl (cs:=[_,_,_]) rfl Q25 Q62 rfl rfl (xP hok 9 rfl (xP hok 10 rfl (Q1y hok 11 3 u1_6 rfl rfl rfl (Q0 rfl) rfl rfl rfl rfl rfl rfl hx34 Q1S Q25 (fun b34 q34 cs34 hlx34=>(Q1K Q50 1 rfl (fun r34 er34 _=>?_))))))
       subst er34
       refine Q2m hok 12 0 0 rfl rfl rfl (Q0 rfl) rfl rfl rfl rfl (cs:=[_,_,_]) rfl Q25 Q62 rfl rfl (Q7s hok 13 rfl rfl rfl (Q0 rfl) rfl rfl rfl rfl (eqlV _ _ x30 x34) (xP hok 14 rfl (xP hok 15 rfl (xP hok 16 rfl (Q1h (d:=39) (v':=.bool true) (S':=[_,_,_,_,_,_,_,_,_,_,_,_,_,_,_,_,_,_,_]) rfl rfl (Q1p hs39) (xO hok 17 rfl (xO hok 18 rfl (xO hok 19 rfl (xO hok 20 rfl (xO hok 21 rfl (xO hok 22 rfl (xO hok 23 rfl (xO hok 24 rfl ?_)))))))))))))
       refine xO hok 25 rfl (xO hok 26 rfl (xO hok 27 rfl (xO hok 28 rfl (xO hok 29 rfl (xS hok 30 rfl (wO rfl (Q3 (QT [0,1,2,3,4,5] [] rfl rfl (xO hok 31 rfl (xO hok 32 rfl (xO hok 33 rfl (xP hok 34 rfl (Q19 hok rfl ?_)))))))))))))
       have hE:=(Option.some.inj hm).symm
       refine Ql true hE [6,5,1,57] rfl (asK [4,5] rfl) rfl
      ·
       rcases Q4v hm with ⟨hs44,hm⟩ | ⟨hs44,hm⟩
       ·
        obtain ⟨x47,hx47,hm⟩:=Q6 hm
        obtain ⟨hg52,hm⟩:=Qq hm
        obtain ⟨_,hc53,hm⟩:=Q6 hm
        try dsimp only at hm
        refine Q1l [0,1,2,3,4,5,6,7,8,9,10,11,12,13,14,15,16,17,18,19,20,21,22,23,24,25,26,27,28,29,31,32,33,34] rfl rfl (fun hok=>(xP hok 0 rfl (xP hok 1 rfl (Q3e hok 2 rfl rfl rfl (Q0 rfl) rfl rfl rfl Q1S (xP hok 3 rfl (Q1h (d:=26) (v':=.bool (decide (u1_6 < l2.length))) (S':=[_,_,_,_,_,_]) rfl rfl (Q3a (a:=u1_6) (b:=l2.length)) (xP hok 4 rfl (Q1h (d:=27) (v':=.bool true) (S':=[_,_,_,_,_,_,_]) rfl rfl (Q1p hs27) (xP hok 5 rfl (xP hok 6 rfl (Q1y hok 7 0 u1_6 rfl rfl rfl (Q0 rfl) rfl rfl rfl rfl rfl rfl hx30 Q1S Q25 (fun b30 q30 cs30 hlx30=>(Q1K Q50 1 rfl (fun r30 er30 _=>?_))))))))))))))
        subst er30
        refine Q2m hok 8 0 0 rfl rfl rfl (Q0 rfl) rfl rfl rfl rfl (cs:=[_,_,_]) rfl Q25 Q62 rfl rfl (xP hok 9 rfl (xP hok 10 rfl (Q1y hok 11 3 u1_6 rfl rfl rfl (Q0 rfl) rfl rfl rfl rfl rfl rfl hx34 Q1S Q25 (fun b34 q34 cs34 hlx34=>(Q1K Q50 1 rfl (fun r34 er34 _=>?_))))))
        subst er34
        refine Q2m hok 12 0 0 rfl rfl rfl (Q0 rfl) rfl rfl rfl rfl (cs:=[_,_,_]) rfl Q25 Q62 rfl rfl (Q7s hok 13 rfl rfl rfl (Q0 rfl) rfl rfl rfl rfl (eqlV _ _ x30 x34) (xP hok 14 rfl (xP hok 15 rfl (xP hok 16 rfl (Q1h (d:=39) (v':=.bool false) (S':=[_,_,_,_,_,_,_,_,_,_,_,_,_,_,_,_,_,_,_]) rfl rfl (Q1p hs39) (xP hok 17 rfl (xP hok 18 rfl (Q3e hok 19 rfl rfl rfl (Q0 rfl) rfl rfl rfl Q1S (xP hok 20 rfl (Q1h (d:=43) (v':=.bool (decide (l2.length ≤ u1_6))) (S':=[_,_,_,_,_,_,_,_,_,_,_,_,_,_,_,_,_,_,_,_,_,_,_]) rfl rfl (Q7r (a:=u1_6) (b:=l2.length)) (xP hok 21 rfl (Q1h (d:=44) (v':=.bool true) (S':=[_,_,_,_,_,_,_,_,_,_,_,_,_,_,_,_,_,_,_,_,_,_,_,_]) rfl rfl (Q1p hs44) (xP hok 22 rfl ?_)))))))))))))
        refine xP hok 23 rfl (Q1y hok 24 4 u1_6 rfl rfl rfl (Q0 rfl) rfl rfl rfl rfl rfl rfl hx47 Q1S Q25 (fun b47 q47 cs47 hlx47=>(Q1K Q50 1 rfl (fun r47 er47 _=>?_))))
        subst er47
        refine Q2m hok 25 0 0 rfl rfl rfl (Q0 rfl) rfl rfl rfl rfl (cs:=[_,_,_]) rfl Q25 Q62 rfl rfl (xP hok 26 rfl (xP hok 27 rfl (Q3e hok 28 rfl rfl rfl (Q0 rfl) rfl rfl rfl Q1S (xP hok 29 rfl (Q1h (d:=52) (v':=.int .i64 (((u1_6:Nat):Int) - ((l2.length:Nat):Int))) (S':=[_,_,_,_,_,_,_,_,_,_,_,_,_,_,_,_,_,_,_,_,_,_,_,_,_,_,_,_,_,_,_,_]) rfl rfl (i64_in hg52) (xS hok 30 rfl (wC [] [] rfl fn_97 rfl (Q3C N 1 (((u1_6:Nat):Int) - ((l2.length:Nat):Int)) hc53) (asK [] rfl) rfl (H':=[]) rfl ?_)))))))
        rintro _ _ _ ⟨rfl,rfl,rfl⟩
        refine Q3 (QT [0,1,2,3,4,5,6,7] [] rfl rfl (Q7s hok 31 rfl rfl rfl (Q0 rfl) rfl rfl rfl rfl (eqlV _ _ x47 (⟨0,IntKind.wrap .i64 ((IntKind.wrap .i64 (1000003 * (IntKind.wrap .i64 (1 + 7)))) + (((u1_6:Nat):Int) - ((l2.length:Nat):Int))),(⟨#[]⟩ : ByteArray)⟩ : V)) (xP hok 32 rfl (xP hok 33 rfl (xP hok 34 rfl (Q19 hok rfl ?_))))))
        have hE:=(Option.some.inj hm).symm
        refine Ql (!(decide (x47 = (⟨0,IntKind.wrap .i64 ((IntKind.wrap .i64 (1000003 * (IntKind.wrap .i64 (1 + 7)))) + (((u1_6:Nat):Int) - ((l2.length:Nat):Int))),(⟨#[]⟩ : ByteArray)⟩ : V)))) hE [6,5,1,57] rfl (asK [6,7] rfl) rfl
       ·
        refine Q1l [0,1,2,3,4,5,6,7,8,9,10,11,12,13,14,15,16,17,18,19,20,21,22,23,24,25,26,27,28,29,31,32,33,34] rfl rfl (fun hok=>(xP hok 0 rfl (xP hok 1 rfl (Q3e hok 2 rfl rfl rfl (Q0 rfl) rfl rfl rfl Q1S (xP hok 3 rfl (Q1h (d:=26) (v':=.bool (decide (u1_6 < l2.length))) (S':=[_,_,_,_,_,_]) rfl rfl (Q3a (a:=u1_6) (b:=l2.length)) (xP hok 4 rfl (Q1h (d:=27) (v':=.bool true) (S':=[_,_,_,_,_,_,_]) rfl rfl (Q1p hs27) (xP hok 5 rfl (xP hok 6 rfl (Q1y hok 7 0 u1_6 rfl rfl rfl (Q0 rfl) rfl rfl rfl rfl rfl rfl hx30 Q1S Q25 (fun b30 q30 cs30 hlx30=>(Q1K Q50 1 rfl (fun r30 er30 _=>?_))))))))))))))
        subst er30
        refine Q2m hok 8 0 0 rfl rfl rfl (Q0 rfl) rfl rfl rfl rfl (cs:=[_,_,_]) rfl Q25 Q62 rfl rfl (xP hok 9 rfl (xP hok 10 rfl (Q1y hok 11 3 u1_6 rfl rfl rfl (Q0 rfl) rfl rfl rfl rfl rfl rfl hx34 Q1S Q25 (fun b34 q34 cs34 hlx34=>(Q1K Q50 1 rfl (fun r34 er34 _=>?_))))))
        subst er34
        refine Q2m hok 12 0 0 rfl rfl rfl (Q0 rfl) rfl rfl rfl rfl (cs:=[_,_,_]) rfl Q25 Q62 rfl rfl (Q7s hok 13 rfl rfl rfl (Q0 rfl) rfl rfl rfl rfl (eqlV _ _ x30 x34) (xP hok 14 rfl (xP hok 15 rfl (xP hok 16 rfl (Q1h (d:=39) (v':=.bool false) (S':=[_,_,_,_,_,_,_,_,_,_,_,_,_,_,_,_,_,_,_]) rfl rfl (Q1p hs39) (xP hok 17 rfl (xP hok 18 rfl (Q3e hok 19 rfl rfl rfl (Q0 rfl) rfl rfl rfl Q1S (xP hok 20 rfl (Q1h (d:=43) (v':=.bool (decide (l2.length ≤ u1_6))) (S':=[_,_,_,_,_,_,_,_,_,_,_,_,_,_,_,_,_,_,_,_,_,_,_]) rfl rfl (Q7r (a:=u1_6) (b:=l2.length)) (xP hok 21 rfl (Q1h (d:=44) (v':=.bool false) (S':=[_,_,_,_,_,_,_,_,_,_,_,_,_,_,_,_,_,_,_,_,_,_,_,_]) rfl rfl (Q1p hs44) (xO hok 22 rfl ?_)))))))))))))
        refine xO hok 23 rfl (xO hok 24 rfl (xO hok 25 rfl (xO hok 26 rfl (xO hok 27 rfl (xO hok 28 rfl (xO hok 29 rfl (xS hok 30 rfl (wO rfl (Q3 (QT [0,1,2,3,4,5] [] rfl rfl (xO hok 31 rfl (xO hok 32 rfl (xP hok 33 rfl ?_)))))))))))))
        refine xP hok 34 rfl (Q19 hok rfl ?_)
        have hE:=(Option.some.inj hm).symm
        refine Ql false hE [6,5,1,57] rfl (asK [4,5] rfl) rfl
     ·
      rcases Q4v hm with ⟨hs44,hm⟩ | ⟨hs44,hm⟩
      ·
       obtain ⟨x47,hx47,hm⟩:=Q6 hm
       obtain ⟨hg52,hm⟩:=Qq hm
       obtain ⟨_,hc53,hm⟩:=Q6 hm
       try dsimp only at hm
       refine Q1l [0,1,2,3,4,5,6,7,8,9,10,11,12,13,14,15,16,17,18,19,20,21,22,23,24,25,26,27,28,29,31,32,33,34] rfl rfl (fun hok=>(xP hok 0 rfl (xP hok 1 rfl (Q3e hok 2 rfl rfl rfl (Q0 rfl) rfl rfl rfl Q1S (xP hok 3 rfl (Q1h (d:=26) (v':=.bool (decide (u1_6 < l2.length))) (S':=[_,_,_,_,_,_]) rfl rfl (Q3a (a:=u1_6) (b:=l2.length)) (xP hok 4 rfl (Q1h (d:=27) (v':=.bool false) (S':=[_,_,_,_,_,_,_]) rfl rfl (Q1p hs27) (xO hok 5 rfl (xO hok 6 rfl (xO hok 7 rfl (xO hok 8 rfl (xO hok 9 rfl (xO hok 10 rfl ?_))))))))))))))
       refine xO hok 11 rfl (xO hok 12 rfl (xO hok 13 rfl (xO hok 14 rfl (xP hok 15 rfl (xP hok 16 rfl (xP hok 17 rfl (xP hok 18 rfl (Q3e hok 19 rfl rfl rfl (Q0 rfl) rfl rfl rfl Q1S (xP hok 20 rfl (Q1h (d:=43) (v':=.bool (decide (l2.length ≤ u1_6))) (S':=[_,_,_,_,_,_,_,_,_,_,_,_,_,_,_,_,_,_,_,_,_,_,_]) rfl rfl (Q7r (a:=u1_6) (b:=l2.length)) (xP hok 21 rfl (Q1h (d:=44) (v':=.bool true) (S':=[_,_,_,_,_,_,_,_,_,_,_,_,_,_,_,_,_,_,_,_,_,_,_,_]) rfl rfl (Q1p hs44) (xP hok 22 rfl ?_)))))))))))))
       refine xP hok 23 rfl (Q1y hok 24 0 u1_6 rfl rfl rfl (Q0 rfl) rfl rfl rfl rfl rfl rfl hx47 Q1S Q25 (fun b47 q47 cs47 hlx47=>(Q1K Q50 1 rfl (fun r47 er47 _=>?_))))
       subst er47
       refine Q2m hok 25 0 0 rfl rfl rfl (Q0 rfl) rfl rfl rfl rfl (cs:=[_,_,_]) rfl Q25 Q62 rfl rfl (xP hok 26 rfl (xP hok 27 rfl (Q3e hok 28 rfl rfl rfl (Q0 rfl) rfl rfl rfl Q1S (xP hok 29 rfl (Q1h (d:=52) (v':=.int .i64 (((u1_6:Nat):Int) - ((l2.length:Nat):Int))) (S':=[_,_,_,_,_,_,_,_,_,_,_,_,_,_,_,_,_,_,_,_,_,_,_,_,_,_,_,_,_,_,_,_]) rfl rfl (i64_in hg52) (xS hok 30 rfl (wC [] [] rfl fn_97 rfl (Q3C N 1 (((u1_6:Nat):Int) - ((l2.length:Nat):Int)) hc53) (asK [] rfl) rfl (H':=[]) rfl ?_)))))))
       rintro _ _ _ ⟨rfl,rfl,rfl⟩
       refine Q3 (QT [0,1,2,3] [] rfl rfl (Q7s hok 31 rfl rfl rfl (Q0 rfl) rfl rfl rfl rfl (eqlV _ _ x47 (⟨0,IntKind.wrap .i64 ((IntKind.wrap .i64 (1000003 * (IntKind.wrap .i64 (1 + 7)))) + (((u1_6:Nat):Int) - ((l2.length:Nat):Int))),(⟨#[]⟩ : ByteArray)⟩ : V)) (xP hok 32 rfl (xP hok 33 rfl (xP hok 34 rfl (Q19 hok rfl ?_))))))
       have hE:=(Option.some.inj hm).symm
       refine Ql (!(decide (x47 = (⟨0,IntKind.wrap .i64 ((IntKind.wrap .i64 (1000003 * (IntKind.wrap .i64 (1 + 7)))) + (((u1_6:Nat):Int) - ((l2.length:Nat):Int))),(⟨#[]⟩ : ByteArray)⟩ : V)))) hE [6,5,1,57] rfl (asK [2,3] rfl) rfl
      ·
       refine Q1l [0,1,2,3,4,5,6,7,8,9,10,11,12,13,14,15,16,17,18,19,20,21,22,23,24,25,26,27,28,29,31,32,33,34] rfl rfl (fun hok=>(xP hok 0 rfl (xP hok 1 rfl (Q3e hok 2 rfl rfl rfl (Q0 rfl) rfl rfl rfl Q1S (xP hok 3 rfl (Q1h (d:=26) (v':=.bool (decide (u1_6 < l2.length))) (S':=[_,_,_,_,_,_]) rfl rfl (Q3a (a:=u1_6) (b:=l2.length)) (xP hok 4 rfl (Q1h (d:=27) (v':=.bool false) (S':=[_,_,_,_,_,_,_]) rfl rfl (Q1p hs27) (xO hok 5 rfl (xO hok 6 rfl (xO hok 7 rfl (xO hok 8 rfl (xO hok 9 rfl (xO hok 10 rfl ?_))))))))))))))
       refine xO hok 11 rfl (xO hok 12 rfl (xO hok 13 rfl (xO hok 14 rfl (xP hok 15 rfl (xP hok 16 rfl (xP hok 17 rfl (xP hok 18 rfl (Q3e hok 19 rfl rfl rfl (Q0 rfl) rfl rfl rfl Q1S (xP hok 20 rfl (Q1h (d:=43) (v':=.bool (decide (l2.length ≤ u1_6))) (S':=[_,_,_,_,_,_,_,_,_,_,_,_,_,_,_,_,_,_,_,_,_,_,_]) rfl rfl (Q7r (a:=u1_6) (b:=l2.length)) (xP hok 21 rfl (Q1h (d:=44) (v':=.bool false) (S':=[_,_,_,_,_,_,_,_,_,_,_,_,_,_,_,_,_,_,_,_,_,_,_,_]) rfl rfl (Q1p hs44) (xO hok 22 rfl ?_)))))))))))))
       refine xO hok 23 rfl (xO hok 24 rfl (xO hok 25 rfl (xO hok 26 rfl (xO hok 27 rfl (xO hok 28 rfl (xO hok 29 rfl (xS hok 30 rfl (wO rfl (Q3 (QT [0,1] [] rfl rfl (xO hok 31 rfl (xO hok 32 rfl (xP hok 33 rfl ?_)))))))))))))
       refine xP hok 34 rfl (Q19 hok rfl ?_)
       have hE:=(Option.some.inj hm).symm
       refine Ql false hE [6,5,1,57] rfl (asK [0,1] rfl) rfl
    ·
     rintro j_2_57 hE
     try dsimp only
     have hm:=hLj_2
     rw [hE] at hm
     refine Qm rfl (fun hb57=>?_) (fun hb57=>?_)
     ·
      replace hm:=QQ hm hb57
      refine Q5 [] (S':=[]) rfl (Q4 (Q1 (wP rfl (Q3 (Q2 (Qn (Qu (Qb (Qb (Qu (Qb ?_)))))))))))
      have hE:=(Option.some.inj hm).symm
      replace hE:=Qy hLu1 hE
      replace hE:=Qy hLj_1 hE
      replace hE:=hE.symm
      subst hE
      refine Qp (Hr:=[]) [] Tryz.results56 (Qd rfl) ⟨rfl,rfl,rfl⟩ (asK [] rfl) rfl rfl (.inl rfl)
     ·
      replace hm:=QP hm hb57
      refine Q5 [6,5,1] (S':=[_,_,_]) rfl (Qj (Qa (Q2 (Q1 (wP rfl (wP rfl ?_))))))
      obtain ⟨hg22,hm⟩:=Qq hm
      refine Qr (d:=22) (v':=.int .i64 ((u1_6 + 1:Nat):Int)) (S':=[_,_,_,_]) rfl rfl (Qw (a:=u1_6) (b:=1) hg22) (Qs (S':=[_,_,_,_]) rfl rfl rfl rfl rfl (Q3 ?_))
      have hE:=(Option.some.inj hm).symm
      replace hE:=QZ hLu1 hE
      refine Q1n (_,u1_6 + 1) (Nat.lt_succ_self _) hE [6,5,1] rfl (asK [0,1] rfl) rfl
   ·
    replace hm:=QP hm hb20
    refine Q5 [] (S':=[]) rfl (QH (Q8 (Q8 (Qh ?_))))
    have hE:=(Option.some.inj hm).symm
    replace hE:=Qy hLu1 hE
    refine Ql () hE [] rfl (asK [] rfl) rfl
  ·
   rintro _ hE
   try dsimp only
   have hm:=QZ hLj_1 hE
   try dsimp only at hm
   refine Q4 (Q1 (wP rfl (Q3 (Q2 (Qn ?_)))))
   have hE:=(Option.some.inj hm).symm
   replace hE:=hE.symm
   subst hE
   refine Qp (Hr:=[]) [] Tryz.results56 (Qd rfl) ⟨rfl,rfl,rfl⟩ (asK [] rfl) rfl rfl (.inl rfl)
theorem Q4U (N:Nat) (a0:Int) (a1:Int) (qp0:Option Addr) (qc1:Nat) (l2:List V) (k3:Nat) (a4:Int) (a5:Int) (qp2:Option Addr) (qc3:Nat) (l6:List V) (o0:Bool) (hm:Q36 N a0 a1 l2 k3 a4 a5 l6 = some o0):Q1v Tryz.prog 100 [.agg #[.int .i64 a0,.int .i64 a1,.slice qp0 k3 qc1],.agg #[.int .i64 a4,.int .i64 a5,.slice qp2 l6.length qc3]] [.sli 3 R_V qp0 qc1 l2,.sli 3 R_V qp2 qc3 l6] [] (fun v Φr Hr=>v = .bool o0 ∧ Φr = [] ∧ Hr = []):=by
 unfold Q36 at hm
 refine Qx Tryz.func100 rfl Tryz.ntmps100 rfl (S:=[_,_]) rfl (fun C=>(Q4 (Q1 (wB rfl (fun g2=>(wB rfl (fun g3=>(wP rfl (Q3 (Q2 (Q5 [3,2] (S':=[_,_]) rfl (Q4 (Q1 (Q1e 1 0 rfl rfl rfl (Q0 rfl) rfl rfl rfl (cs:=[_,_,_]) rfl Q1G Q59 rfl rfl (Q1e 0 0 rfl rfl rfl (Q0 rfl) rfl rfl rfl (cs:=[_,_,_]) rfl Q1G Q59 rfl rfl ?_)))))))))))))))
 obtain ⟨v7,hc7,hm⟩:=Q6 hm
 refine wC [] [0,1] rfl Q8e rfl (Q45 N a0 a1 qp0 qc1 l2 k3 a4 a5 qp2 qc3 l6 _ hc7) (asK [0,1] rfl) rfl (H':=[_,_]) rfl ?_
 rintro _ _ _ ⟨rfl,rfl,rfl⟩
 refine wP rfl ?_
 refine QA (d:=8) (S':=[_,_,_,_,_]) rfl rfl (fun hs8=>?_) (fun hs8=>?_)
 ·
  replace hm:=QQ hm hs8
  refine wF rfl Q5e (wD 1 2 rfl Q1Z Q41 rfl (wF rfl Q5e (wD 0 2 rfl Q1Z Q41 rfl ?_)))
  obtain ⟨v13,hc13,hm⟩:=Q6 hm
  refine wC [] [0,1] rfl fn_56 rfl (Q5E N qp0 qc1 l2 k3 qp2 qc3 l6 _ hc13) (asK [0,1] rfl) rfl (H':=[_,_]) rfl ?_
  rintro _ _ _ ⟨rfl,rfl,rfl⟩
  refine wP rfl (wP rfl (Q3 (Q2 (Q5 [4] (S':=[_]) rfl (Qn ?_)))))
  have hE:=(Option.some.inj hm).symm
  replace hE:=hE.symm
  subst hE
  refine Qp (Hr:=[]) [] Tryz.results100 (Qd rfl) ⟨rfl,rfl,rfl⟩ (asK [] rfl) rfl rfl (.inl rfl)
 ·
  replace hm:=QP hm hs8
  refine wO rfl (wO rfl (wO rfl (wO rfl (wO rfl (wP rfl (wP rfl (Q3 (Q2 (Q5 [4] (S':=[_]) rfl (Qn ?_))))))))))
  have hE:=(Option.some.inj hm).symm
  replace hE:=hE.symm
  subst hE
  refine Qp (Hr:=[]) [] Tryz.results100 (Qd rfl) ⟨rfl,rfl,rfl⟩ (asK [] rfl) rfl rfl (.inl rfl)
end Go.Proofs.YtjfpefddanmliaaGreat
