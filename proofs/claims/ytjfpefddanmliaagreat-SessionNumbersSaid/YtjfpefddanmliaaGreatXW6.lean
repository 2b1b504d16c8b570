import Derived.Test.YtjfpefddanmliaaGreatXW5
namespace Go.Proofs.YtjfpefddanmliaaGreat
open Go.RowKit
set_option maxRecDepth 100000
set_option maxHeartbeats 4000000
theorem Q5h (N:Nat) (qg0:Nat) (qp1:Option Addr) (qn2:Nat) (qc3:Nat) (l0:List SessD) (a1:Int) (a2:Int) (a3:Int) (a4:Int) (a5:Int) (qp4:Option Addr) (qc5:Nat) (l6:List FactD) (qp6:Option Addr) (qc7:Nat) (l7:List V) (o0:Nat) (o3:List SessD) (hm:Q2J N l0 a1 a2 a3 a4 a5 l6 l7 = some (o0,o3)):Q1v Tryz.prog 34 [.pointer (some ⟨qg0,0,none⟩),.int .i64 a2,.int .i64 a3,.agg #[.int .i64 a4,.int .i64 a5,.slice qp4 l6.length qc5,.slice qp6 l7.length qc7]] [.sli 3 QO qp4 qc5 l6,.sli 3 R_V qp6 qc7 l7] [.blk qg0 [.slice qp1 qn2 qc3,.int .i64 a1] 67,.own 35 6 Qt (.slice qp1 qn2 qc3) l0] (fun v Φr Hr=>∃ (o1:Option Addr) (o2:Nat) (o4:Nat),v = .int .i64 ((o0:Nat):Int) ∧ Φr = [] ∧ Hr = [.blk qg0 [.slice o1 o4 o2,.int .i64 a1] 67,.own 35 6 Qt (.slice o1 o4 o2) o3]):=by
 unfold Q2J at hm
 refine Qx Tryz.func34 rfl Tryz.ntmps34 rfl (S:=[_,_,_,_]) rfl (fun C=>(Q4 (Q1 (wB rfl (fun g7=>(wP rfl (Q3 (Q2 (Q5 [7,0,1,2] (S':=[_,_,_,_]) rfl (Q4 (Q1 (wP rfl (wP rfl ?_)))))))))))))
 obtain ⟨v13,hc13,hm⟩:=Q6 hm
 refine wC [1,2] [0] rfl fn_51 rfl (Q46 N qg0 qp1 qn2 qc3 l0 a1 a2 _ hc13) (asK [] rfl) rfl (H':=[_]) rfl ?_
 rintro _ _ _ ⟨rfl,rfl,rfl⟩
 refine wP rfl (Q3 (Q2 (Q5 [9,7,0,2] (S':=[_,_,_,_]) rfl (Q4 (Q4 (Q1 (wP rfl (wP rfl (Q3 (Q2 (Q5 [15,9,7,0,2] (S':=[_,_,_,_,_]) rfl ?_)))))))))))
 refine Qm rfl (fun hb15=>?_) (fun hb15=>?_)
 ·
  replace hm:=QQ hm hb15
  refine Q5 [] (S':=[]) rfl (Q4 (Q1 (wP rfl (Q3 (Q2 (Qn (Qb ?_)))))))
  have hE:=(Option.some.inj hm).symm
  obtain ⟨hE0,hE1⟩:=Prod.mk.inj hE
  clear hE
  replace hE0:=hE0.symm
  subst hE0
  replace hE1:=hE1.symm
  subst hE1
  refine Qp (Hr:=[_,_]) [0,1] Tryz.results34 (Qd rfl) ⟨qp1,qc3,qn2,rfl,rfl,rfl⟩ (asK [] rfl) rfl rfl (.inl rfl)
 ·
  replace hm:=QP hm hb15
  refine Q5 [9,7,0,2] (S':=[_,_,_,_]) rfl (Qj (Q2 (Q4 (Q4 ?_))))
  obtain ⟨bj_1,hm,hLj_1⟩:=Q6 hm
  refine Q14 (σ:=Bool) (fun j_1_29=>bj_1 = j_1_29) (fun j_1_29=>[(9,.int .i64 v13),(7,.pointer (some ⟨g7,0,none⟩)),(0,.pointer (some ⟨qg0,0,none⟩)),(2,.int .i64 a3),(29,.bool j_1_29)]) (fun j_1_29=>[.sli 3 QO qp4 qc5 l6,.sli 3 R_V qp6 qc7 l7]) (fun j_1_29=>[.blk g7 [.int .i64 a4,.int .i64 a5,.slice qp4 l6.length qc5,.slice qp6 l7.length qc7] 27,.blk qg0 [.slice qp1 qn2 qc3,.int .i64 a1] 67,.own 35 6 Qt (.slice qp1 qn2 qc3) l0]) ?_ ?_
  ·
   refine Q1 (wP rfl (wP rfl (wP rfl ?_)))
   refine QA (d:=18) (S':=[_,_,_,_,_,_]) rfl rfl (fun hs18=>?_) (fun hs18=>?_)
   ·
    replace hm:=QQ hm hs18
    refine wO rfl (wO rfl (wO rfl (wO rfl (wO rfl (wO rfl (wO rfl (wO rfl (wO rfl (wO rfl (wP rfl (Q3 ?_)))))))))))
    have hE:=(Option.some.inj hm).symm
    refine QE [2,0,1] rfl (H':=[_,_,_]) rfl ?_
    refine Ql true hE [9,7,0,2,29] rfl (asK [0,1] rfl) rfl
   ·
    replace hm:=QP hm hs18
    refine wP rfl (wP rfl (wP rfl (wF rfl Q5j (wD 0 0 rfl Q1L Q3Q rfl (wP rfl ?_)))))
    obtain ⟨hn25,hm⟩:=Qq hm
    obtain ⟨x25,hx25,hm⟩:=Q6 hm
    refine Q1r 1 v13.toNat rfl rfl rfl (Q0 rfl) rfl rfl rfl rfl (Q4F hn25) (Q1X hx25) QB QN (fun g25 eg25=>?_)
    subst eg25
    refine wF rfl Q4h (QU Q17 1 v13.toNat 1 rfl rfl rfl (Q0 rfl) rfl rfl rfl hx25 Q1g Q1D (v:=fun r27=>.int .i64 (x25.seq)) (fun _=>rfl) (fun _=>rfl) (fun r27 _=>(wP rfl (wP rfl (Q3 ?_)))))
    have hE:=(Option.some.inj hm).symm
    refine QE [2,0,1] rfl (H':=[_,_,_]) rfl ?_
    refine Ql (decide (a3 ≤ x25.seq)) hE [9,7,0,2,29] rfl (asK [2,3] rfl) rfl
  ·
   rintro j_1_29 hE
   try dsimp only
   have hm:=hLj_1
   rw [hE] at hm
   refine Qm rfl (fun hb29=>?_) (fun hb29=>?_)
   ·
    replace hm:=QQ hm hb29
    refine Q5 [] (S':=[]) rfl (Q4 (Q1 (wP rfl (Q3 (Q2 (Qn (Qb ?_)))))))
    have hE:=(Option.some.inj hm).symm
    obtain ⟨hE0,hE1⟩:=Prod.mk.inj hE
    clear hE
    replace hE0:=hE0.symm
    subst hE0
    replace hE1:=hE1.symm
    subst hE1
    refine Qp (Hr:=[_,_]) [1,2] Tryz.results34 (Qd rfl) ⟨qp1,qc3,qn2,rfl,rfl,rfl⟩ (asK [] rfl) rfl rfl (.inl rfl)
   ·
    replace hm:=QP hm hb29
    refine Q5 [9,7,0,2] (S':=[_,_,_,_]) rfl (Qj (Q2 (Q4 (Q1 (wP rfl (wP rfl (wF rfl Q5j (wD 1 0 rfl Q1L Q3Q rfl (Q2n 2 rfl (fun hzqn2 _=>?_))))))))))
    subst hzqn2
    obtain ⟨v34,hc34,hm⟩:=Q6 hm
    refine Q3h [] [0,1,2] [2] rfl rfl rfl (Q0 rfl) rfl rfl fn_26 rfl (Q2d N qp1 qc3 l0 _ hc34) (fun F w hφ hh=>(QD (Q5k (hh _ (QS (k:=0) rfl))) Q1f)) (fun _ _ _ hR=>by obtain ⟨_,_,_,rfl,rfl,rfl⟩:=hR; exact ⟨rfl,(Q4B (Q68 Q5B) (fun _ h=>Q2h h))⟩) rfl rfl (H':=[_,_,_]) rfl ?_
    rintro _ _ _ ⟨p34_0,c34_1,c34_2,rfl,rfl,rfl⟩
    refine wP rfl (Q3 (Q2 (Q5 [10,9,7,0,2] (S':=[_,_,_,_,_]) rfl (Q4 (Q1 (wP rfl (wP rfl (wP rfl ?_))))))))
    obtain ⟨hn38,hm⟩:=Qq hm
    refine Q1q 0 rfl (fun zz38 hzz38=>?_)
    obtain ⟨x38,hx38,hm⟩:=Q6 hm
    obtain ⟨rr38,hrr38⟩:=Q5x hzz38 hx38
    refine Q1r 1 v13.toNat rfl rfl rfl (Q0 rfl) rfl rfl rfl rfl (Q4F hn38) (Q1X hrr38) QB QN (fun g38 eg38=>?_)
    subst eg38
    refine wF rfl Q4h ?_
    obtain ⟨x1048,hx1048,hm⟩:=Q6 hm
    obtain ⟨rr1048,hrr1048⟩:=Q5x hzz38 hx1048
    refine Qv [.own 149 3 R_V (.slice rr1048.2.1 x1048.r.said.length rr1048.2.2) x1048.r.said,Qi Qf 61 3 (.slice rr1048.1.1 x1048.r.facts.length rr1048.1.2) x1048.r.facts,QR Qe zz38 (some v13.toNat),_,_,_,_] (fun _ h=>h.bagOpen 0 v13.toNat rfl hrr1048) (Q55 (u:=((⟨x1048.id,a3,x1048.r⟩ : SessD),((rr1048.1.1,rr1048.1.2),(rr1048.2.1,rr1048.2.2)))) 3 v13.toNat 1 rfl rfl rfl rfl rfl hrr1048 rfl rfl Q1g rfl rfl (fun F w hφ ds hd=>by cases hd; rfl) rfl (H':=[_,_,_,_,_,_,_]) rfl ?_)
    have hrs1:(zz38.set v13.toNat ((⟨x1048.id,a3,x1048.r⟩ : SessD),((rr1048.1.1,rr1048.1.2),(rr1048.2.1,rr1048.2.2))))[v13.toNat]? = some ((⟨x1048.id,a3,x1048.r⟩ : SessD),((rr1048.1.1,rr1048.1.2),(rr1048.2.1,rr1048.2.2))):=set_atZ hrr1048
    have hzs1:List.map (fun x:SessD × ((Option Addr × Nat) × (Option Addr × Nat))=>x.1) (zz38.set v13.toNat ((⟨x1048.id,a3,x1048.r⟩ : SessD),((rr1048.1.1,rr1048.1.2),(rr1048.2.1,rr1048.2.2)))) = v34.set v13.toNat (⟨x1048.id,a3,x1048.r⟩ : SessD):=Q54 hzz38
    refine Q3 (Q2 (Q5 [10,9,7,0] (S':=[_,_,_,_]) rfl (Q4 (Q1 (wP rfl (wP rfl (Q1e 4 0 rfl rfl rfl (Q0 rfl) rfl rfl rfl (cs:=[_,_,_,_]) rfl Q11 Q1W rfl rfl ?_)))))))
    obtain ⟨v43,hc43,hm⟩:=Q6 hm
    refine wC [] [0,1,2,3,4,5,6] rfl fn_54 rfl (Q4Y N a4 a5 qp4 qc5 l6 qp6 qc7 l7 _ hc43) (asK [0,1] rfl) rfl (H':=[_,_,_,_,_,_,_]) rfl ?_
    rintro _ _ _ ⟨p43_0,c43_1,c43_2,p43_3,c43_4,rfl,rfl,rfl⟩
    obtain ⟨hn44,hm⟩:=Qq hm
    refine Q2c 5 v13.toNat rfl rfl rfl (Q0 rfl) rfl rfl rfl rfl (Q4F hn44) (Q1X hrs1) QB QN (wF rfl Q4b (QG 0 rfl (fun hzt3 _=>?_)))
    subst hzt3
    refine Q2n 1 rfl (fun hz4 _=>(Q4q 2 (v':=.agg #[.int .i64 a4,.int .i64 a5,.slice p43_0 v43.length c43_1,.slice p43_3 l7.length c43_4]) rfl (by rw [hz4]) (Q15 1 (φ':=.own 149 3 R_V (.slice p43_3 l7.length c43_4) l7) rfl (by rw [hz4]) (H':=[_,_,_,_,_,_,_,_,_]) rfl (Q55 (u:=((⟨(⟨x1048.id,a3,x1048.r⟩ : SessD).id,(⟨x1048.id,a3,x1048.r⟩ : SessD).seq,(⟨a4,a5,v43,l7⟩ : ReplyD)⟩ : SessD),((p43_0,c43_1),(p43_3,c43_4)))) 5 v13.toNat 2 rfl rfl rfl rfl rfl hrs1 rfl rfl Q11 rfl rfl (fun F w hφ ds hd=>by cases hd; rfl) rfl (H':=[_,_,_,_,_,_,_,_,_]) rfl (Q15 5 (φ':=.own 35 6 Qe.pair (.slice (some ⟨g38,0,none⟩) c34_2 c34_1) (zz38.set v13.toNat ((⟨(⟨x1048.id,a3,x1048.r⟩ : SessD).id,(⟨x1048.id,a3,x1048.r⟩ : SessD).seq,(⟨a4,a5,v43,l7⟩ : ReplyD)⟩ : SessD),((p43_0,c43_1),(p43_3,c43_4))))) rfl (by rw [List.set_set]) (H':=[_,_,_,_,_,_,_,_,_]) rfl ?_)))))
    have hrs3:(zz38.set v13.toNat ((⟨(⟨x1048.id,a3,x1048.r⟩ : SessD).id,(⟨x1048.id,a3,x1048.r⟩ : SessD).seq,(⟨a4,a5,v43,l7⟩ : ReplyD)⟩ : SessD),((p43_0,c43_1),(p43_3,c43_4))))[v13.toNat]? = some ((⟨(⟨x1048.id,a3,x1048.r⟩ : SessD).id,(⟨x1048.id,a3,x1048.r⟩ : SessD).seq,(⟨a4,a5,v43,l7⟩ : ReplyD)⟩ : SessD),((p43_0,c43_1),(p43_3,c43_4))):=set_atZ hrr1048
    have hzs3:List.map (fun x:SessD × ((Option Addr × Nat) × (Option Addr × Nat))=>x.1) (zz38.set v13.toNat ((⟨(⟨x1048.id,a3,x1048.r⟩ : SessD).id,(⟨x1048.id,a3,x1048.r⟩ : SessD).seq,(⟨a4,a5,v43,l7⟩ : ReplyD)⟩ : SessD),((p43_0,c43_1),(p43_3,c43_4)))) = v34.set v13.toNat (⟨(⟨x1048.id,a3,x1048.r⟩ : SessD).id,(⟨x1048.id,a3,x1048.r⟩ : SessD).seq,(⟨a4,a5,v43,l7⟩ : ReplyD)⟩ : SessD):=Q54 hzz38
    refine Q3 (Q2 (Q5 [10,0] (S':=[_,_]) rfl (Q4 (Q1 (wP rfl (wP rfl (wP rfl (wF rfl Q5j (wS 7 0 rfl Q1L (all':=[_,_]) rfl (H':=[_,_,_,_,_,_,_,_,_]) rfl (Q3 (Q2 (Q5 [] (S':=[]) rfl (Q4 ?_)))))))))))))
    refine Q1 (wP rfl (Q3 (Q2 (Qn ?_))))
    have hE:=(Option.some.inj hm).symm
    obtain ⟨hE0,hE1⟩:=Prod.mk.inj hE
    clear hE
    replace hE0:=hE0.symm
    subst hE0
    replace hE1:=hE1.symm
    subst hE1
    refine QE [1,0,2,3,4,5,6,7,8] rfl (H':=[_,_,_,_,_,_,_,_,_]) rfl (Q3o [_,_,QR Qe (zz38.set v13.toNat ((⟨(⟨x1048.id,a3,x1048.r⟩ : SessD).id,(⟨x1048.id,a3,x1048.r⟩ : SessD).seq,(⟨a4,a5,v43,l7⟩ : ReplyD)⟩ : SessD),((p43_0,c43_1),(p43_3,c43_4)))) none,_,_,_,_] (fun _ h=>Qo.bagClose (T:=Qe) (x:=(⟨(⟨x1048.id,a3,x1048.r⟩ : SessD).id,(⟨x1048.id,a3,x1048.r⟩ : SessD).seq,(⟨a4,a5,v43,l7⟩ : ReplyD)⟩ : SessD)) (r:=((p43_0,c43_1),(p43_3,c43_4))) (i:=v13.toNat) (zs:=zz38) (H:=[_,_,_,_,_,_,_]) h 2 rfl) ?_)
    have hzs4:List.map (fun x:SessD × ((Option Addr × Nat) × (Option Addr × Nat))=>x.1) (zz38.set v13.toNat ((⟨(⟨x1048.id,a3,x1048.r⟩ : SessD).id,(⟨x1048.id,a3,x1048.r⟩ : SessD).seq,(⟨a4,a5,v43,l7⟩ : ReplyD)⟩ : SessD),((p43_0,c43_1),(p43_3,c43_4)))) = v34.set v13.toNat (⟨(⟨x1048.id,a3,x1048.r⟩ : SessD).id,(⟨x1048.id,a3,x1048.r⟩ : SessD).seq,(⟨a4,a5,v43,l7⟩ : ReplyD)⟩ : SessD):=Q54 hzz38
    refine Q3o [_,_,Qi Qe 35 6 (.slice (some ⟨g38,0,none⟩) c34_2 c34_1) (v34.set v13.toNat (⟨(⟨x1048.id,a3,x1048.r⟩ : SessD).id,(⟨x1048.id,a3,x1048.r⟩ : SessD).seq,(⟨a4,a5,v43,l7⟩ : ReplyD)⟩ : SessD)),_,_,_] (fun _ h=>h.treeIn 3 2 rfl rfl rfl hzs4) (Q3o [_,_,.own 35 6 Qt (.slice (some ⟨g38,0,none⟩) c34_2 c34_1) (v34.set v13.toNat (⟨(⟨x1048.id,a3,x1048.r⟩ : SessD).id,(⟨x1048.id,a3,x1048.r⟩ : SessD).seq,(⟨a4,a5,v43,l7⟩ : ReplyD)⟩ : SessD)),_,_,_] (fun _ h=>h.letgo Q2z 2 rfl) ?_)
    refine Qp (Hr:=[_,_]) [4,2] Tryz.results34 (Qd rfl) ⟨some ⟨g38,0,none⟩,c34_1,c34_2,rfl,rfl,rfl⟩ (asK [] rfl) rfl rfl (.inl rfl)
theorem Q6U (N:Nat) (qg0:Nat) (qp1:Option Addr) (qn2:Nat) (qc3:Nat) (l0:List SessD) (a1:Int) (a2:Int) (a3:Int) (o0:Int) (o1:Int) (o4:List FactD) (o8:List V) (o10:Bool) (o11:Nat) (hm:Q2Y N l0 a1 a2 a3 = some (o0,o1,o4,o8,o10,o11)):Q1v Tryz.prog 37 [.pointer (some ⟨qg0,0,none⟩),.int .i64 a2,.int .i64 a3] [] [.blk qg0 [.slice qp1 qn2 qc3,.int .i64 a1] 67,.own 35 6 Qt (.slice qp1 qn2 qc3) l0] (fun v Φr Hr=>∃ (o2:Option Addr) (o3:Nat) (o5:Nat) (o6:Option Addr) (o7:Nat) (o9:Nat),v = .tuple #[.agg #[.int .i64 o0,.int .i64 o1,.slice o2 o5 o3,.slice o6 o9 o7],.bool o10,.int .i64 ((o11:Nat):Int)] ∧ Φr = [] ∧ Hr = [Qi Qf 61 3 (.slice o2 o5 o3) o4,.own 149 3 R_V (.slice o6 o9 o7) o8,.blk qg0 [.slice qp1 qn2 qc3,.int .i64 a1] 67,.own 35 6 Qt (.slice qp1 qn2 qc3) l0]):=by
 unfold Q2Y at hm
 refine Qx Tryz.func37 rfl Tryz.ntmps37 rfl (S:=[_,_,_]) rfl (fun C=>(Q4 (Q1 (Q2a rfl rfl rfl (Q0 rfl) rfl Q5Q rfl (fun g6=>(wP rfl (wP rfl (Q3 (Q2 (Q5 [6,0,1,2] (S':=[_,_,_,_]) rfl (Q4 (Q1 (wP rfl (wP rfl ?_))))))))))))))
 obtain ⟨v12,hc12,hm⟩:=Q6 hm
 refine wC [1,2] [0] rfl fn_51 rfl (Q46 N qg0 qp1 qn2 qc3 l0 a1 a2 _ hc12) (asK [] rfl) rfl (H':=[_]) rfl ?_
 rintro _ _ _ ⟨rfl,rfl,rfl⟩
 refine wP rfl (Q3 (Q2 (Q5 [9,6,0,2] (S':=[_,_,_,_]) rfl (Q4 (Q4 (Q1 (wP rfl (wP rfl (Q3 (Q2 (Q5 [14,9,6,0,2] (S':=[_,_,_,_,_]) rfl ?_)))))))))))
 refine Qm rfl (fun hb14=>?_) (fun hb14=>?_)
 ·
  replace hm:=QQ hm hb14
  refine Q5 [6] (S':=[_]) rfl (Q4 (Q1 (Q2t rfl rfl rfl (Q0 rfl) rfl Q5Q tP_27 rfl (out:=[_,_,_,_]) rfl (wS 2 0 rfl Q11 (all':=[_,_,_,_]) rfl (H':=[_,_,_]) rfl (wP rfl (wP rfl (Q3 (Q2 (Q5 [8,7,6] (S':=[_,_,_]) rfl (Qn (Qb ?_)))))))))))
  have hE:=(Option.some.inj hm).symm
  obtain ⟨hE0,hF1⟩:=Prod.mk.inj hE
  obtain ⟨hE1,hF2⟩:=Prod.mk.inj hF1
  obtain ⟨hE2,hF3⟩:=Prod.mk.inj hF2
  obtain ⟨hE3,hF4⟩:=Prod.mk.inj hF3
  obtain ⟨hE4,hE5⟩:=Prod.mk.inj hF4
  clear hE hF1 hF2 hF3 hF4
  replace hE0:=hE0.symm
  subst hE0
  replace hE1:=hE1.symm
  subst hE1
  replace hE2:=hE2.symm
  subst hE2
  replace hE3:=hE3.symm
  subst hE3
  replace hE4:=hE4.symm
  subst hE4
  replace hE5:=hE5.symm
  subst hE5
  refine Q3o [Qi Qf 61 3 (.slice none 0 0) [],_,_,_] (fun _ h=>h.treeNil Qf 61 3) (Q6b 149 3 R_V ?_)
  refine Q52 (Hr:=[_,_,_,_]) [1,0,2,3] Tryz.results37 (Q3y 4 rfl rfl Q11 Q1W rfl rfl) (Qd rfl) (Qd rfl) ⟨none,0,0,none,0,0,rfl,rfl,rfl⟩ (asK [] rfl) rfl rfl (.inl rfl)
 ·
  replace hm:=QP hm hb14
  refine Q5 [9,6,0,2] (S':=[_,_,_,_]) rfl (Qj (Q2 (Q4 (Q4 ?_))))
  obtain ⟨bj_1,hm,hLj_1⟩:=Q6 hm
  refine Q14 (σ:=Bool) (fun j_1_29=>bj_1 = j_1_29) (fun j_1_29=>[(9,.int .i64 v12),(6,.pointer (some ⟨g6,0,none⟩)),(0,.pointer (some ⟨qg0,0,none⟩)),(2,.int .i64 a3),(29,.bool j_1_29)]) (fun j_1_29=>[]) (fun j_1_29=>[.blk g6 [.int .i64 0,.int .i64 0,.slice none 0 0,.slice none 0 0] 27,.blk qg0 [.slice qp1 qn2 qc3,.int .i64 a1] 67,.own 35 6 Qt (.slice qp1 qn2 qc3) l0]) ?_ ?_
  ·
   refine Q1 (wP rfl (wP rfl (wP rfl ?_)))
   refine QA (d:=18) (S':=[_,_,_,_,_,_]) rfl rfl (fun hs18=>?_) (fun hs18=>?_)
   ·
    replace hm:=QQ hm hs18
    refine wO rfl (wO rfl (wO rfl (wO rfl (wO rfl (wO rfl (wO rfl (wO rfl (wO rfl (wO rfl (wP rfl (Q3 ?_)))))))))))
    have hE:=(Option.some.inj hm).symm
    refine QE [2,0,1] rfl (H':=[_,_,_]) rfl ?_
    refine Ql true hE [9,6,0,2,29] rfl (asK [] rfl) rfl
   ·
    replace hm:=QP hm hs18
    refine wP rfl (wP rfl (wP rfl (wF rfl Q5j (wD 0 0 rfl Q1L Q3Q rfl (wP rfl ?_)))))
    obtain ⟨hn25,hm⟩:=Qq hm
    obtain ⟨x25,hx25,hm⟩:=Q6 hm
    refine Q1r 1 v12.toNat rfl rfl rfl (Q0 rfl) rfl rfl rfl rfl (Q4F hn25) (Q1X hx25) QB QN (fun g25 eg25=>?_)
    subst eg25
    refine wF rfl Q4h (QU Q17 1 v12.toNat 1 rfl rfl rfl (Q0 rfl) rfl rfl rfl hx25 Q1g Q1D (v:=fun r27=>.int .i64 (x25.seq)) (fun _=>rfl) (fun _=>rfl) (fun r27 _=>(wP rfl (wP rfl (Q3 ?_)))))
    have hE:=(Option.some.inj hm).symm
    refine QE [2,0,1] rfl (H':=[_,_,_]) rfl ?_
    refine Ql (decide (a3 < x25.seq)) hE [9,6,0,2,29] rfl (asK [] rfl) rfl
  ·
   rintro j_1_29 hE
   try dsimp only
   have hm:=hLj_1
   rw [hE] at hm
   refine Qm rfl (fun hb29=>?_) (fun hb29=>?_)
   ·
    replace hm:=QQ hm hb29
    refine Q5 [6] (S':=[_]) rfl (Q4 (Q1 (Q2t rfl rfl rfl (Q0 rfl) rfl Q5Q tP_27 rfl (out:=[_,_,_,_]) rfl (wS 0 0 rfl Q11 (all':=[_,_,_,_]) rfl (H':=[_,_,_]) rfl (wP rfl (wP rfl (Q3 (Q2 (Q5 [8,7,6] (S':=[_,_,_]) rfl (Qn (Qb ?_)))))))))))
    have hE:=(Option.some.inj hm).symm
    obtain ⟨hE0,hF1⟩:=Prod.mk.inj hE
    obtain ⟨hE1,hF2⟩:=Prod.mk.inj hF1
    obtain ⟨hE2,hF3⟩:=Prod.mk.inj hF2
    obtain ⟨hE3,hF4⟩:=Prod.mk.inj hF3
    obtain ⟨hE4,hE5⟩:=Prod.mk.inj hF4
    clear hE hF1 hF2 hF3 hF4
    replace hE0:=hE0.symm
    subst hE0
    replace hE1:=hE1.symm
    subst hE1
    replace hE2:=hE2.symm
    subst hE2
    replace hE3:=hE3.symm
    subst hE3
    replace hE4:=hE4.symm
    subst hE4
    replace hE5:=hE5.symm
    subst hE5
    refine Q3o [Qi Qf 61 3 (.slice none 0 0) [],_,_,_] (fun _ h=>h.treeNil Qf 61 3) (Q6b 149 3 R_V ?_)
    refine Q52 (Hr:=[_,_,_,_]) [1,0,3,4] Tryz.results37 (Q3y 2 rfl rfl Q11 Q1W rfl rfl) (Qd rfl) (Qd rfl) ⟨none,0,0,none,0,0,rfl,rfl,rfl⟩ (asK [] rfl) rfl rfl (.inl rfl)
   ·
    replace hm:=QP hm hb29
    refine Q5 [9,6,0,2] (S':=[_,_,_,_]) rfl (Qj (Q2 (Q4 (Q4 (Q1 (wP rfl (wP rfl (wP rfl (wF rfl Q5j (wD 1 0 rfl Q1L Q3Q rfl (wP rfl ?_)))))))))))
    obtain ⟨hn37,hm⟩:=Qq hm
    obtain ⟨x37,hx37,hm⟩:=Q6 hm
    refine Q1r 2 v12.toNat rfl rfl rfl (Q0 rfl) rfl rfl rfl rfl (Q4F hn37) (Q1X hx37) QB QN (fun g37 eg37=>?_)
    subst eg37
    refine wF rfl Q4h (QU Q17 2 v12.toNat 1 rfl rfl rfl (Q0 rfl) rfl rfl rfl hx37 Q1g Q1D (v:=fun r39=>.int .i64 (x37.seq)) (fun _=>rfl) (fun _=>rfl) (fun r39 _=>(wP rfl (Q3 (Q2 (Q5 [40,9,6,0] (S':=[_,_,_,_]) rfl ?_))))))
    refine Qm rfl (fun hb40=>?_) (fun hb40=>?_)
    ·
     replace hm:=QQ hm hb40
     refine Q5 [9,6,0] (S':=[_,_,_]) rfl (Q4 (Q1 (wP rfl (wP rfl (wF rfl Q5j (wD 1 0 rfl Q1L Q3Q rfl (wP rfl ?_)))))))
     obtain ⟨hn46,hm⟩:=Qq hm
     obtain ⟨x46,hx46,hm⟩:=Q6 hm
     refine Q2c 2 v12.toNat rfl rfl rfl (Q0 rfl) rfl rfl rfl rfl (Q4F hn46) (Q1X hx46) QB QN (wF rfl Q4b (QU Q17 2 v12.toNat 2 rfl rfl rfl (Q0 rfl) rfl rfl rfl hx46 Q11 Q1W (v:=fun r48=>.agg #[.int .i64 (x46.r.err),.int .i64 (x46.r.num),.slice r48.1.1 x46.r.facts.length r48.1.2,.slice r48.2.1 x46.r.said.length r48.2.2]) (fun _=>rfl) (fun _=>rfl) (fun r48 _=>?_)))
     obtain ⟨v49,hc49,hm⟩:=Q6 hm
     refine wC [] [0,1,2] rfl fn_54 rfl (Q4Y N x46.r.err x46.r.num r48.1.1 r48.1.2 x46.r.facts r48.2.1 r48.2.2 x46.r.said _ hc49) (asK [0,1] rfl) rfl (H':=[_,_,_]) rfl ?_
     rintro _ _ _ ⟨p49_0,c49_1,c49_2,p49_3,c49_4,rfl,rfl,rfl⟩
     refine wS 2 0 rfl Q11 (all':=[_,_,_,_]) rfl (H':=[_,_,_,_,_]) rfl (wP rfl (wP rfl (Q3 (Q2 (Q5 [8,7,6] (S':=[_,_,_]) rfl (Qn (Qb ?_)))))))
     have hE:=(Option.some.inj hm).symm
     obtain ⟨hE0,hF1⟩:=Prod.mk.inj hE
     obtain ⟨hE1,hF2⟩:=Prod.mk.inj hF1
     obtain ⟨hE2,hF3⟩:=Prod.mk.inj hF2
     obtain ⟨hE3,hF4⟩:=Prod.mk.inj hF3
     obtain ⟨hE4,hE5⟩:=Prod.mk.inj hF4
     clear hE hF1 hF2 hF3 hF4
     replace hE0:=hE0.symm
     subst hE0
     replace hE1:=hE1.symm
     subst hE1
     replace hE2:=hE2.symm
     subst hE2
     replace hE3:=hE3.symm
     subst hE3
     replace hE4:=hE4.symm
     subst hE4
     replace hE5:=hE5.symm
     subst hE5
     refine Q52 (Hr:=[_,_,_,_]) [0,1,3,4] Tryz.results37 (Q3y 2 rfl rfl Q11 Q1W rfl rfl) (Qd rfl) (Qd rfl) ⟨p49_0,c49_1,c49_2,p49_3,c49_4,(x46.r.said).length,rfl,rfl,rfl⟩ (asK [] rfl) rfl rfl (.inl rfl)
    ·
     replace hm:=QP hm hb40
     refine Q5 [6] (S':=[_]) rfl (Qj (Q2 (Q4 (Q1 (Q2t rfl rfl rfl (Q0 rfl) rfl Q5Q tP_27 rfl (out:=[_,_,_,_]) rfl (wS 0 0 rfl Q11 (all':=[_,_,_,_]) rfl (H':=[_,_,_]) rfl (wP rfl (wP rfl (Q3 (Q2 (Q5 [8,7,6] (S':=[_,_,_]) rfl (Qn ?_))))))))))))
     have hE:=(Option.some.inj hm).symm
     obtain ⟨hE0,hF1⟩:=Prod.mk.inj hE
     obtain ⟨hE1,hF2⟩:=Prod.mk.inj hF1
     obtain ⟨hE2,hF3⟩:=Prod.mk.inj hF2
     obtain ⟨hE3,hF4⟩:=Prod.mk.inj hF3
     obtain ⟨hE4,hE5⟩:=Prod.mk.inj hF4
     clear hE hF1 hF2 hF3 hF4
     replace hE0:=hE0.symm
     subst hE0
     replace hE1:=hE1.symm
     subst hE1
     replace hE2:=hE2.symm
     subst hE2
     replace hE3:=hE3.symm
     subst hE3
     replace hE4:=hE4.symm
     subst hE4
     replace hE5:=hE5.symm
     subst hE5
     refine Q3o [Qi Qf 61 3 (.slice none 0 0) [],_,_,_] (fun _ h=>h.treeNil Qf 61 3) (Q6b 149 3 R_V ?_)
     refine Q52 (Hr:=[_,_,_,_]) [1,0,3,4] Tryz.results37 (Q3y 2 rfl rfl Q11 Q1W rfl rfl) (Qd rfl) (Qd rfl) ⟨none,0,0,none,0,0,rfl,rfl,rfl⟩ (asK [] rfl) rfl rfl (.inl rfl)
theorem Q7B (N:Nat) (qg0:Nat) (qp1:Option Addr) (qn2:Nat) (qc3:Nat) (l0:List SessD) (a1:Int) (qg4:Nat) (qp5:Option Addr) (qn6:Nat) (qc7:Nat) (l2:List SessD) (a3:Int) (a4:Int) (a5:Int) (a6:Int) (a7:Int) (a8:Int) (qp8:Option Addr) (qc9:Nat) (l9:List FactD) (qp10:Option Addr) (qc11:Nat) (l10:List V) (o0:Bool) (o3:List SessD) (o5:Int) (o8:List SessD) (o10:Int) (hm:Q3W N l0 a1 l2 a3 a4 a5 a6 a7 a8 l9 l10 = some (o0,o3,o5,o8,o10)):Q1v Tryz.prog 15 [.pointer (some ⟨qg0,0,none⟩),.pointer (some ⟨qg4,0,none⟩),.agg #[.int .i64 a4,.int .i64 a5,.int .i64 a6,.int .i64 a7,.int .i64 a8,.slice qp8 l9.length qc9,.slice qp10 l10.length qc11]] [.sli 3 QO qp8 qc9 l9,.sli 3 R_V qp10 qc11 l10] [.blk qg0 [.slice qp1 qn2 qc3,.int .i64 a1] 65,Qi Qe 35 6 (.slice qp1 qn2 qc3) l0,.blk qg4 [.slice qp5 qn6 qc7,.int .i64 a3] 67,.own 35 6 Qt (.slice qp5 qn6 qc7) l2] (fun v Φr Hr=>∃ (o1:Option Addr) (o2:Nat) (o4:Nat) (o6:Option Addr) (o7:Nat) (o9:Nat),v = .bool o0 ∧ Φr = [] ∧ Hr = [.blk qg0 [.slice o1 o4 o2,.int .i64 o5] 65,Qi Qe 35 6 (.slice o1 o4 o2) o3,.blk qg4 [.slice o6 o9 o7,.int .i64 o10] 67,.own 35 6 Qt (.slice o6 o9 o7) o8]):=by
 unfold Q3W at hm
 refine Qx Tryz.func15 rfl Tryz.ntmps15 rfl (S:=[_,_,_]) rfl (fun C=>(Q4 (Q1 (wB rfl (fun g5=>(wP rfl (Q3 (Q2 (Q5 [5,0,1] (S':=[_,_,_]) rfl (Q4 (Q4 (Q1 (wF rfl tF_29_0 (wD 0 0 rfl Q1g Q1D rfl ?_))))))))))))))
 obtain ⟨v24,hc24,hm⟩:=Q6 hm
 refine wC [] [0,1,2,3,4] rfl fn_30 rfl (Q8x N a4 6 _ hc24) (asK [] rfl) rfl (H':=[_,_,_,_,_]) rfl ?_
 rintro _ _ _ ⟨rfl,rfl,rfl⟩
 refine Q3 (Q2 (Q5 [24,5,0,1] (S':=[_,_,_,_]) rfl (Qc (Q4 (Q1 (wP rfl (wP rfl (Q3 (Q2 (Q5 [25,24,5,0,1] (S':=[_,_,_,_,_]) rfl ?_))))))))))
 refine Qm rfl (fun hb25=>?_) (fun hb25=>?_)
 ·
  replace hm:=QQ hm hb25
  refine Q5 [0,1] (S':=[_,_]) rfl (Q4 (Q1 (wP rfl ?_)))
  obtain ⟨⟨v29_0,v29_1,v29_2,v29_3⟩,hc29,hm⟩:=Q6 hm
  try dsimp only at hm
  refine wC [1,2] [0,3,4] rfl fn_19 rfl (Q7x N qg0 qp1 qn2 qc3 l0 a1 _ _ _ _ hc29) (asK [] rfl) rfl (H':=[_,_,_]) rfl ?_
  rintro _ _ _ ⟨p29_0,c29_1,c29_2,rfl,rfl,rfl⟩
  refine wP rfl (wP rfl (wP rfl (wP rfl (wP rfl (Q3 (Q2 (Q5 [8,7,1] (S':=[_,_,_]) rfl (Q4 (Q1 (wP rfl ?_))))))))))
  obtain ⟨⟨v34_0,v34_1,v34_2,v34_3⟩,hc34,hm⟩:=Q6 hm
  try dsimp only at hm
  refine wC [3,4] [0,1,2] rfl fn_31 rfl (Q6N N qg4 qp5 qn6 qc7 l2 a3 _ _ _ _ hc34) (asK [] rfl) rfl (H':=[_,_,_]) rfl ?_
  rintro _ _ _ ⟨p34_0,c34_1,c34_2,rfl,rfl,rfl⟩
  refine wP rfl (wP rfl (wP rfl (wP rfl (wP rfl (Q3 (Q2 (Q5 [10,9,8,7] (S':=[_,_,_,_]) rfl (Q4 (Q1 (wP rfl (wP rfl (wP rfl (wP rfl ?_)))))))))))))
  refine QA (d:=40) (S':=[_,_,_,_,_,_,_]) rfl rfl (fun hs40=>?_) (fun hs40=>?_)
  ·
   replace hm:=QQ hm hs40
   refine wP rfl (wP rfl (wP rfl (Qr (d:=43) (v':=.bool (v29_1 == v34_1)) (S':=[_,_,_,_,_,_,_,_,_,_]) rfl rfl (Q77 (a:=v29_1) (b:=v34_1)) (wP rfl (wP rfl (Q3 (Q2 (Q5 [6] (S':=[_]) rfl (Qn (Qu (Qb ?_)))))))))))
   have hE:=(Option.some.inj hm).symm
   obtain ⟨hE0,hF1⟩:=Prod.mk.inj hE
   obtain ⟨hE1,hF2⟩:=Prod.mk.inj hF1
   obtain ⟨hE2,hF3⟩:=Prod.mk.inj hF2
   obtain ⟨hE3,hE4⟩:=Prod.mk.inj hF3
   clear hE hF1 hF2 hF3
   replace hE0:=hE0.symm
   subst hE0
   replace hE1:=hE1.symm
   subst hE1
   replace hE2:=hE2.symm
   subst hE2
   replace hE3:=hE3.symm
   subst hE3
   replace hE4:=hE4.symm
   subst hE4
   refine Qp (Hr:=[_,_,_,_]) [2,3,0,1] Tryz.results15 (Qd rfl) ⟨p29_0,c29_1,c29_2,p34_0,c34_1,c34_2,rfl,rfl,rfl⟩ (asK [] rfl) rfl rfl (.inl rfl)
  ·
   replace hm:=QP hm hs40
   refine wO rfl (wO rfl (wO rfl (wP rfl (wP rfl (Q3 (Q2 (Q5 [6] (S':=[_]) rfl (Qn (Qu (Qb ?_))))))))))
   have hE:=(Option.some.inj hm).symm
   obtain ⟨hE0,hF1⟩:=Prod.mk.inj hE
   obtain ⟨hE1,hF2⟩:=Prod.mk.inj hF1
   obtain ⟨hE2,hF3⟩:=Prod.mk.inj hF2
   obtain ⟨hE3,hE4⟩:=Prod.mk.inj hF3
   clear hE hF1 hF2 hF3
   replace hE0:=hE0.symm
   subst hE0
   replace hE1:=hE1.symm
   subst hE1
   replace hE2:=hE2.symm
   subst hE2
   replace hE3:=hE3.symm
   subst hE3
   replace hE4:=hE4.symm
   subst hE4
   refine Qp (Hr:=[_,_,_,_]) [2,3,0,1] Tryz.results15 (Qd rfl) ⟨p29_0,c29_1,c29_2,p34_0,c34_1,c34_2,rfl,rfl,rfl⟩ (asK [] rfl) rfl rfl (.inl rfl)
 ·
  replace hm:=QP hm hb25
  refine Q5 [24,5,0,1] (S':=[_,_,_,_]) rfl (Q4 (Q1 (wP rfl (wP rfl (Q3 (Q2 (Q5 [45,24,5,0,1] (S':=[_,_,_,_,_]) rfl ?_)))))))
  refine Qm rfl (fun hb45=>?_) (fun hb45=>?_)
  ·
   replace hm:=QQ hm hb45
   refine Q5 [5,0,1] (S':=[_,_,_]) rfl (Q4 ?_)
   obtain ⟨⟨v50_0,v50_1⟩,hc50,hm⟩:=Q6 hm
   try dsimp only at hm
   obtain ⟨⟨v54_0,v54_1⟩,hc54,hm⟩:=Q6 hm
   try dsimp only at hm
   refine Q1l [0,1,2,4,5,6,8] rfl rfl (fun hok=>(xP hok 0 rfl (Qz hok 1 rfl rfl rfl (Q0 rfl) rfl rfl rfl Q7b (Q1R hok 2 0 1 rfl rfl rfl (Q0 rfl) rfl rfl rfl rfl (cs:=[_]) rfl Q1g Q1D rfl rfl (xP hok 4 rfl (Qz hok 5 rfl rfl rfl (Q0 rfl) rfl rfl rfl Q7b (Q1R hok 6 0 1 rfl rfl rfl (Q0 rfl) rfl rfl rfl rfl (cs:=[_]) rfl Q1g Q1D rfl rfl (xS hok 3 rfl (wC [1,2] [0,3,4] rfl fn_22 rfl (Q7e N qg0 qp1 qn2 qc3 l0 a1 a5 _ _ hc50) (asK [] rfl) rfl (H':=[_,_,_]) rfl ?_)))))))))
   rintro _ _ _ ⟨p50_0,c50_1,c50_2,rfl,rfl,rfl⟩
   refine Q3 (QT [0,1] [2] rfl rfl (xS hok 7 rfl (wC [3,4] [0,1,2] rfl fn_32 rfl (Q6B N qg4 qp5 qn6 qc7 l2 a3 a5 _ _ hc54) (asK [] rfl) rfl (H':=[_,_,_]) rfl ?_)))
   rintro _ _ _ ⟨p54_0,c54_1,c54_2,rfl,rfl,rfl⟩
   refine Q3 (QT [0,1] [4] rfl rfl (xP hok 8 rfl (Q1h (d:=55) (v':=.bool (v50_0 == v54_0)) (S':=[_,_,_,_,_,_,_,_,_,_,_]) rfl rfl (Q77 (a:=v50_0) (b:=v54_0)) (xS hok 9 rfl (wP rfl (Q3 (QT [0,1] [] rfl rfl (Q19 hok rfl (Q2 (Q5 [6] (S':=[_]) rfl (Qn (Qu (Qb ?_)))))))))))))
   have hE:=(Option.some.inj hm).symm
   obtain ⟨hE0,hF1⟩:=Prod.mk.inj hE
   obtain ⟨hE1,hF2⟩:=Prod.mk.inj hF1
   obtain ⟨hE2,hF3⟩:=Prod.mk.inj hF2
   obtain ⟨hE3,hE4⟩:=Prod.mk.inj hF3
   clear hE hF1 hF2 hF3
   replace hE0:=hE0.symm
   subst hE0
   replace hE1:=hE1.symm
   subst hE1
   replace hE2:=hE2.symm
   subst hE2
   replace hE3:=hE3.symm
   subst hE3
   replace hE4:=hE4.symm
   subst hE4
   refine Qp (Hr:=[_,_,_,_]) [2,3,0,1] Tryz.results15 (Qd rfl) ⟨p50_0,c50_1,c50_2,p54_0,c54_1,c54_2,rfl,rfl,rfl⟩ (asK [] rfl) rfl rfl (.inl rfl)
  ·
   replace hm:=QP hm hb45
   refine Q5 [24,5,0,1] (S':=[_,_,_,_]) rfl (Q4 ?_)
   obtain ⟨bj_1,hm,hLj_1⟩:=Q6 hm
   refine Q14 (σ:=Bool) (fun j_1_56=>bj_1 = j_1_56) (fun j_1_56=>[(5,.pointer (some ⟨g5,0,none⟩)),(0,.pointer (some ⟨qg0,0,none⟩)),(1,.pointer (some ⟨qg4,0,none⟩)),(56,.bool j_1_56)]) (fun j_1_56=>[.sli 3 QO qp8 qc9 l9,.sli 3 R_V qp10 qc11 l10]) (fun j_1_56=>[.blk g5 [.int .i64 a4,.int .i64 a5,.int .i64 a6,.int .i64 a7,.int .i64 a8,.slice qp8 l9.length qc9,.slice qp10 l10.length qc11] 29,.blk qg0 [.slice qp1 qn2 qc3,.int .i64 a1] 65,Qi Qe 35 6 (.slice qp1 qn2 qc3) l0,.blk qg4 [.slice qp5 qn6 qc7,.int .i64 a3] 67,.own 35 6 Qt (.slice qp5 qn6 qc7) l2]) ?_ ?_
   ·
    refine Q4 (Q1 (wP rfl (wP rfl (Q3 (Q2 (Q5 [56,24,5,0,1] (S':=[_,_,_,_,_]) rfl ?_))))))
    refine Qm rfl (fun hb56=>?_) (fun hb56=>?_)
    ·
     replace hm:=QQ hm hb56
     refine Q5 [56,5,0,1] (S':=[_,_,_,_]) rfl (Qj ?_)
     have hE:=(Option.some.inj hm).symm
     refine Ql (v24 == 2) hE [5,0,1,56] rfl (asK [0,1] rfl) rfl
    ·
     replace hm:=QP hm hb56
     refine Q5 [24,5,0,1] (S':=[_,_,_,_]) rfl (Q1 (wP rfl (wP rfl (Q3 ?_))))
     have hE:=(Option.some.inj hm).symm
     refine Ql (v24 == 3) hE [5,0,1,56] rfl (asK [0,1] rfl) rfl
   ·
    rintro j_1_56 hE
    try dsimp only
    have hm:=hLj_1
    rw [hE] at hm
    refine Qm rfl (fun hb56=>?_) (fun hb56=>?_)
    ·
     replace hm:=QQ hm hb56
     refine Q5 [5,0,1] (S':=[_,_,_]) rfl (Q4 (Q1 (wF rfl tF_29_3 (Q1e 0 3 rfl rfl rfl (Q0 rfl) rfl rfl rfl (cs:=[_,_,_,_]) rfl Q11 Q1W rfl rfl ?_))))
     obtain ⟨⟨v61_0,v61_1⟩,hc61,hm⟩:=Q6 hm
     try dsimp only at hm
     refine wC [] [0,1,2,3,4] rfl fn_33 rfl (Q6h N a7 a8 qp8 qc9 l9 qp10 qc11 l10 _ _ hc61) (asK [0,1] rfl) rfl (H':=[_,_,_,_,_]) rfl ?_
     rintro _ _ _ ⟨p61_0,c61_1,c61_2,p61_3,c61_4,c61_5,rfl,rfl,rfl⟩
     refine Q2a rfl rfl rfl (Q0 rfl) rfl Q5Q rfl (fun g11=>(wS 0 0 rfl Q11 (all':=[_,_,_,_]) rfl (H':=[_,_,_,_,_,_,_,_]) rfl (Q3 (Q2 (Q5 [11,5,0,1] (S':=[_,_,_,_]) rfl (Q4 ?_))))))
     obtain ⟨bj_2,hm,hLj_2⟩:=Q6 hm
     unfold Q49 at hm
     refine Q14 (σ:=Bool × (List SessD) × (List SessD) × (Option Addr) × Nat × Nat) (fun (j_2_12,j_2_r0_f0_l,j_2_r2_f0_l,j_2_r2_f0_p,j_2_r2_f0_c,j_2_r2_f0_n)=>bj_2 = (j_2_12,j_2_r0_f0_l,j_2_r2_f0_l)) (fun (j_2_12,j_2_r0_f0_l,j_2_r2_f0_l,j_2_r2_f0_p,j_2_r2_f0_c,j_2_r2_f0_n)=>[(11,.pointer (some ⟨g11,0,none⟩)),(12,.bool j_2_12)]) (fun (j_2_12,j_2_r0_f0_l,j_2_r2_f0_l,j_2_r2_f0_p,j_2_r2_f0_c,j_2_r2_f0_n)=>[]) (fun (j_2_12,j_2_r0_f0_l,j_2_r2_f0_l,j_2_r2_f0_p,j_2_r2_f0_c,j_2_r2_f0_n)=>[.blk g11 [.int .i64 a7,.int .i64 a8,.slice p61_0 l9.length c61_1,.slice p61_3 l10.length c61_4] 27,Qi QL 61 3 (.slice p61_0 c61_2 c61_1) v61_0,.own 149 3 R_V (.slice p61_3 c61_5 c61_4) v61_1,.blk qg0 [.slice qp1 qn2 qc3,.int .i64 a1] 65,Qi Qe 35 6 (.slice qp1 qn2 qc3) j_2_r0_f0_l,.blk qg4 [.slice j_2_r2_f0_p j_2_r2_f0_n j_2_r2_f0_c,.int .i64 a3] 67,.own 35 6 Qt (.slice j_2_r2_f0_p j_2_r2_f0_n j_2_r2_f0_c) j_2_r2_f0_l]) ?_ ?_
     ·
      obtain ⟨hzl7,hm⟩:=Qq hm
      obtain ⟨hzl8,hm⟩:=Qq hm
      obtain ⟨⟨v68_0,v68_1⟩,hc68,hm⟩:=Q6 hm
      try dsimp only at hm
      obtain ⟨⟨v76_0,v76_1⟩,hc76,hm⟩:=Q6 hm
      try dsimp only at hm
      rcases Q4v hm with ⟨hs78,hm⟩ | ⟨hs78,hm⟩
      ·
       obtain ⟨v82,hc82,hm⟩:=Q6 hm
       refine Q1l [0,1,2,3,4,5,7,8,9,10,11,12,13,15,16,17,18,19,21] rfl rfl (fun hok=>(xP hok 0 rfl (Qz hok 1 rfl rfl rfl (Q0 rfl) rfl rfl rfl Q7b (Q1R hok 2 3 1 rfl rfl rfl (Q0 rfl) rfl rfl rfl rfl (cs:=[_]) rfl Q1g Q1D rfl rfl (Qz hok 3 rfl rfl rfl (Q0 rfl) rfl rfl rfl Q8f (Q1R hok 4 3 2 rfl rfl rfl (Q0 rfl) rfl rfl rfl rfl (cs:=[_]) rfl Q1g Q1D rfl rfl (Q1R hok 5 0 0 rfl rfl rfl (Q0 rfl) rfl rfl rfl rfl (cs:=[_,_,_,_]) rfl Q11 Q1W rfl rfl (xP hok 7 rfl (Qz hok 8 rfl rfl rfl (Q0 rfl) rfl rfl rfl Q7b (Q1R hok 9 3 1 rfl rfl rfl (Q0 rfl) rfl rfl rfl rfl (cs:=[_]) rfl Q1g Q1D rfl rfl (Qz hok 10 rfl rfl rfl (Q0 rfl) rfl rfl rfl Q8f (Q1R hok 11 3 2 rfl rfl rfl (Q0 rfl) rfl rfl rfl rfl (cs:=[_]) rfl Q1g Q1D rfl rfl (Qz hok 12 rfl rfl rfl (Q0 rfl) rfl rfl rfl tF_29_3 (Q1R hok 13 3 3 rfl rfl rfl (Q0 rfl) rfl rfl rfl rfl (cs:=[_,_,_,_]) rfl Q11 Q1W rfl rfl ?_))))))))))))))
       refine xS hok 6 rfl (QG 1 rfl (fun hzt13 _=>?_))
       subst hzt13
       refine Q2n 2 rfl (fun hzc61_5 _=>?_)
       subst hzc61_5
       refine Q4q 7 (v':=.agg #[.int .i64 a7,.int .i64 a8,.slice p61_0 (((v61_0.map Q3k).take l9.length).length) c61_1,.slice p61_3 l10.length c61_4]) rfl (by rw [Q5L hzl7]) (Q15 0 (φ':=.blk g11 [.int .i64 a7,.int .i64 a8,.slice p61_0 (((v61_0.map Q3k).take l9.length).length) c61_1,.slice p61_3 l10.length c61_4] 27) rfl (by rw [Q5L hzl7]) (H':=[_,_,_,_,_,_,_,_]) rfl (Q4q 7 (v':=.agg #[.int .i64 a7,.int .i64 a8,.slice p61_0 (((v61_0.map Q3k).take l9.length).length) c61_1,.slice p61_3 ((v61_1.take l10.length).length) c61_4]) rfl (by rw [Q3R hzl8]) (Q15 0 (φ':=.blk g11 [.int .i64 a7,.int .i64 a8,.slice p61_0 (((v61_0.map Q3k).take l9.length).length) c61_1,.slice p61_3 ((v61_1.take l10.length).length) c61_4] 27) rfl (by rw [Q3R hzl8]) (H':=[_,_,_,_,_,_,_,_]) rfl (Q3h [4,5] [0,1,2,3,6,7] [1,2] rfl rfl rfl (Q0 rfl) rfl rfl fn_21 rfl (Q6g N qg0 qp1 qn2 qc3 l0 a1 a5 a6 a7 a8 p61_0 c61_1 ((v61_0.map Q3k).take l9.length) p61_3 c61_4 (v61_1.take l10.length) _ _ hc68) (fun F w hφ hh=>(QD (Q7V (Q7T Q7R (hh _ (QS (k:=0) rfl)) (fun _ h=>h) (fun _ h=>h)) l9.length) (QD (Q7V (Q5k (hh _ (QS (k:=1) rfl))) l10.length) Q1f))) (fun _ _ _ hR=>by obtain ⟨rfl,rfl,rfl⟩:=hR; exact ⟨rfl,(Q4B (Q8p) (Q4B (Q68 Q5B) (fun _ h=>Q2h h)))⟩) rfl rfl (H':=[_,_,_,_,_,_]) rfl ?_))))
       rintro _ _ _ ⟨rfl,rfl,rfl⟩
       refine Q4q 8 (v':=.agg #[.int .i64 a7,.int .i64 a8,.slice p61_0 (((v61_0.map Q3k).take l9.length).length) c61_1,.slice p61_3 l10.length c61_4]) rfl (by rw [Q3R hzl8]) (Q15 2 (φ':=.blk g11 [.int .i64 a7,.int .i64 a8,.slice p61_0 (((v61_0.map Q3k).take l9.length).length) c61_1,.slice p61_3 l10.length c61_4] 27) rfl (by rw [Q3R hzl8]) (H':=[_,_,_,_,_,_,_,_]) rfl (Q4q 8 (v':=.agg #[.int .i64 a7,.int .i64 a8,.slice p61_0 l9.length c61_1,.slice p61_3 l10.length c61_4]) rfl (by rw [Q5L hzl7]) (Q15 2 (φ':=.blk g11 [.int .i64 a7,.int .i64 a8,.slice p61_0 l9.length c61_1,.slice p61_3 l10.length c61_4] 27) rfl (by rw [Q5L hzl7]) (H':=[_,_,_,_,_,_,_,_]) rfl (Q3 (QT [0,1] [5,5,5] rfl rfl (xS hok 14 rfl (wC [6,7] [0,1,2,3,4,5] rfl fn_34 rfl (Q5h N qg4 qp5 qn6 qc7 l2 a3 a5 a6 a7 a8 qp8 qc9 l9 qp10 qc11 l10 _ _ hc76) (asK [0,1] rfl) rfl (H':=[_,_,_,_,_,_]) rfl ?_)))))))
       rintro _ _ _ ⟨p76_0,c76_1,c76_2,rfl,rfl,rfl⟩
       refine Q3 (QT [0,1] [4,7,7] rfl rfl (xP hok 15 rfl (Q1h (d:=77) (v':=.bool (v68_0 == v76_0)) (S':=[_,_,_,_,_,_,_,_,_,_,_,_,_,_,_,_,_,_,_]) rfl rfl (Q77 (a:=v68_0) (b:=v76_0)) (xP hok 16 rfl (Q1h (d:=78) (v':=.bool true) (S':=[_,_,_,_,_,_,_,_,_,_,_,_,_,_,_,_,_,_,_,_]) rfl rfl (Q1p hs78) (Q1R hok 17 4 0 rfl rfl rfl (Q0 rfl) rfl rfl rfl rfl (cs:=[_,_,_,_]) rfl Q11 Q1W rfl rfl (Qz hok 18 rfl rfl rfl (Q0 rfl) rfl rfl rfl tF_29_3 (Q1R hok 19 7 3 rfl rfl rfl (Q0 rfl) rfl rfl rfl rfl (cs:=[_,_,_,_]) rfl Q11 Q1W rfl rfl (xS hok 20 rfl (Q3h [] [0,1,2,3,4,5,6,7] [5,6] rfl rfl rfl (Q0 rfl) rfl rfl fn_35 rfl (Q5W N a7 a8 p61_0 c61_1 v61_0 l9.length p61_3 c61_4 v61_1 l10.length a7 a8 qp8 qc9 l9 qp10 qc11 l10 _ hc82) (fun F w hφ hh=>(QD (Q1M Q8t (hh _ (QS (k:=0) rfl)) (fun _ h=>h) (fun _ h=>h)) (QD (Q5k (hh _ (QS (k:=1) rfl))) (QD (hφ _ (QS (k:=0) rfl)) (QD (hφ _ (QS (k:=1) rfl)) Q1f))))) (fun _ _ _ hR=>by obtain ⟨rfl,rfl,rfl⟩:=hR; exact ⟨rfl,(fun _ h=>Q2h h)⟩) rfl rfl (H':=[_,_,_,_,_,_,_,_]) rfl ?_))))))))))
       rintro _ _ _ ⟨rfl,rfl,rfl⟩
       refine Q3 (QT [0,1] [7,7,7,4,7,7] rfl rfl (xP hok 21 rfl (xS hok 22 rfl (wP rfl (Q3 (QT [0,1] [] rfl rfl (Q19 hok rfl ?_)))))))
       have hE:=(Option.some.inj hm).symm
       refine QE [4,5,6,2,3,0,1] rfl (H':=[_,_,_,_,_,_,_]) rfl ?_
       refine Ql (v82,v68_1,v76_1,p76_0,c76_1,c76_2) hE [11,12] rfl (asK [] rfl) rfl
      ·
       refine Q1l [0,1,2,3,4,5,7,8,9,10,11,12,13,15,16,17,18,19,21] rfl rfl (fun hok=>(xP hok 0 rfl (Qz hok 1 rfl rfl rfl (Q0 rfl) rfl rfl rfl Q7b (Q1R hok 2 3 1 rfl rfl rfl (Q0 rfl) rfl rfl rfl rfl (cs:=[_]) rfl Q1g Q1D rfl rfl (Qz hok 3 rfl rfl rfl (Q0 rfl) rfl rfl rfl Q8f (Q1R hok 4 3 2 rfl rfl rfl (Q0 rfl) rfl rfl rfl rfl (cs:=[_]) rfl Q1g Q1D rfl rfl (Q1R hok 5 0 0 rfl rfl rfl (Q0 rfl) rfl rfl rfl rfl (cs:=[_,_,_,_]) rfl Q11 Q1W rfl rfl (xP hok 7 rfl (Qz hok 8 rfl rfl rfl (Q0 rfl) rfl rfl rfl Q7b (Q1R hok 9 3 1 rfl rfl rfl (Q0 rfl) rfl rfl rfl rfl (cs:=[_]) rfl Q1g Q1D rfl rfl (Qz hok 10 rfl rfl rfl (Q0 rfl) rfl rfl rfl Q8f (Q1R hok 11 3 2 rfl rfl rfl (Q0 rfl) rfl rfl rfl rfl (cs:=[_]) rfl Q1g Q1D rfl rfl (Qz hok 12 rfl rfl rfl (Q0 rfl) rfl rfl rfl tF_29_3 (Q1R hok 13 3 3 rfl rfl rfl (Q0 rfl) rfl rfl rfl rfl (cs:=[_,_,_,_]) rfl Q11 Q1W rfl rfl ?_))))))))))))))
       refine xS hok 6 rfl (QG 1 rfl (fun hzt14 _=>?_))
       subst hzt14
       refine Q2n 2 rfl (fun hzc61_5 _=>?_)
       subst hzc61_5
       refine Q4q 7 (v':=.agg #[.int .i64 a7,.int .i64 a8,.slice p61_0 (((v61_0.map Q3k).take l9.length).length) c61_1,.slice p61_3 l10.length c61_4]) rfl (by rw [Q5L hzl7]) (Q15 0 (φ':=.blk g11 [.int .i64 a7,.int .i64 a8,.slice p61_0 (((v61_0.map Q3k).take l9.length).length) c61_1,.slice p61_3 l10.length c61_4] 27) rfl (by rw [Q5L hzl7]) (H':=[_,_,_,_,_,_,_,_]) rfl (Q4q 7 (v':=.agg #[.int .i64 a7,.int .i64 a8,.slice p61_0 (((v61_0.map Q3k).take l9.length).length) c61_1,.slice p61_3 ((v61_1.take l10.length).length) c61_4]) rfl (by rw [Q3R hzl8]) (Q15 0 (φ':=.blk g11 [.int .i64 a7,.int .i64 a8,.slice p61_0 (((v61_0.map Q3k).take l9.length).length) c61_1,.slice p61_3 ((v61_1.take l10.length).length) c61_4] 27) rfl (by rw [Q3R hzl8]) (H':=[_,_,_,_,_,_,_,_]) rfl (Q3h [4,5] [0,1,2,3,6,7] [1,2] rfl rfl rfl (Q0 rfl) rfl rfl fn_21 rfl (Q6g N qg0 qp1 qn2 qc3 l0 a1 a5 a6 a7 a8 p61_0 c61_1 ((v61_0.map Q3k).take l9.length) p61_3 c61_4 (v61_1.take l10.length) _ _ hc68) (fun F w hφ hh=>(QD (Q7V (Q7T Q7R (hh _ (QS (k:=0) rfl)) (fun _ h=>h) (fun _ h=>h)) l9.length) (QD (Q7V (Q5k (hh _ (QS (k:=1) rfl))) l10.length) Q1f))) (fun _ _ _ hR=>by obtain ⟨rfl,rfl,rfl⟩:=hR; exact ⟨rfl,(Q4B (Q8p) (Q4B (Q68 Q5B) (fun _ h=>Q2h h)))⟩) rfl rfl (H':=[_,_,_,_,_,_]) rfl ?_))))
       rintro _ _ _ ⟨rfl,rfl,rfl⟩
       refine Q4q 8 (v':=.agg #[.int .i64 a7,.int .i64 a8,.slice p61_0 (((v61_0.map Q3k).take l9.length).length) c61_1,.slice p61_3 l10.length c61_4]) rfl (by rw [Q3R hzl8]) (Q15 2 (φ':=.blk g11 [.int .i64 a7,.int .i64 a8,.slice p61_0 (((v61_0.map Q3k).take l9.length).length) c61_1,.slice p61_3 l10.length c61_4] 27) rfl (by rw [Q3R hzl8]) (H':=[_,_,_,_,_,_,_,_]) rfl (Q4q 8 (v':=.agg #[.int .i64 a7,.int .i64 a8,.slice p61_0 l9.length c61_1,.slice p61_3 l10.length c61_4]) rfl (by rw [Q5L hzl7]) (Q15 2 (φ':=.blk g11 [.int .i64 a7,.int .i64 a8,.slice p61_0 l9.length c61_1,.slice p61_3 l10.length c61_4] 27) rfl (by rw [Q5L hzl7]) (H':=[_,_,_,_,_,_,_,_]) rfl (Q3 (QT [0,1] [5,5,5] rfl rfl (xS hok 14 rfl (wC [6,7] [0,1,2,3,4,5] rfl fn_34 rfl (Q5h N qg4 qp5 qn6 qc7 l2 a3 a5 a6 a7 a8 qp8 qc9 l9 qp10 qc11 l10 _ _ hc76) (asK [0,1] rfl) rfl (H':=[_,_,_,_,_,_]) rfl ?_)))))))
       rintro _ _ _ ⟨p76_0,c76_1,c76_2,rfl,rfl,rfl⟩
       refine Q3 (QT [0,1] [4,7,7] rfl rfl (xP hok 15 rfl (Q1h (d:=77) (v':=.bool (v68_0 == v76_0)) (S':=[_,_,_,_,_,_,_,_,_,_,_,_,_,_,_,_,_,_,_]) rfl rfl (Q77 (a:=v68_0) (b:=v76_0)) (xP hok 16 rfl (Q1h (d:=78) (v':=.bool false) (S':=[_,_,_,_,_,_,_,_,_,_,_,_,_,_,_,_,_,_,_,_]) rfl rfl (Q1p hs78) (xO hok 17 rfl (xO hok 18 rfl (xO hok 19 rfl (xS hok 20 rfl (wO rfl (Q3 (QT [0,1] [7,7,7,4,7,7] rfl rfl (xP hok 21 rfl ?_)))))))))))))
       refine xS hok 22 rfl (wP rfl (Q3 (QT [0,1] [] rfl rfl (Q19 hok rfl ?_))))
       have hE:=(Option.some.inj hm).symm
       refine QE [4,5,6,2,3,0,1] rfl (H':=[_,_,_,_,_,_,_]) rfl ?_
       refine Ql (false,v68_1,v76_1,p76_0,c76_1,c76_2) hE [11,12] rfl (asK [] rfl) rfl
     ·
      rintro ⟨j_2_12,j_2_r0_f0_l,j_2_r2_f0_l,j_2_r2_f0_p,j_2_r2_f0_c,j_2_r2_f0_n⟩ hE
      try dsimp only
      have hm:=hLj_2
      rw [hE] at hm
      try dsimp only at hm
      refine Q4 (Q1 (Q1e 0 0 rfl rfl rfl (Q0 rfl) rfl rfl rfl (cs:=[_,_,_,_]) rfl Q11 Q1W rfl rfl (QG 1 rfl (fun hzt16 _=>?_))))
      subst hzt16
      refine Q2n 2 rfl (fun hzc61_5 _=>?_)
      subst hzc61_5
      obtain ⟨⟨v85_0,v85_1⟩,hc85,hm⟩:=Q6 hm
      try dsimp only at hm
      refine wC [1,2] [0,3,4,5,6] rfl fn_36 rfl (Q5V N a7 a8 p61_0 v61_0.length c61_1 v61_0 l9.length p61_3 v61_1.length c61_4 v61_1 l10.length _ _ hc85) (asK [] rfl) rfl (H':=[_,_,_,_,_]) rfl ?_
      rintro _ _ _ ⟨rfl,rfl,rfl⟩
      refine Q3 (Q2 (Q5 [12] (S':=[_]) rfl (Q4 (Q1 (wP rfl (wP rfl (Q3 (Q2 (Q5 [6] (S':=[_]) rfl (Qn (Qu (Qb ?_))))))))))))
      have hE:=(Option.some.inj hm).symm
      obtain ⟨hE0,hF1⟩:=Prod.mk.inj hE
      obtain ⟨hE1,hF2⟩:=Prod.mk.inj hF1
      obtain ⟨hE2,hF3⟩:=Prod.mk.inj hF2
      obtain ⟨hE3,hE4⟩:=Prod.mk.inj hF3
      clear hE hF1 hF2 hF3
      replace hE0:=hE0.symm
      subst hE0
      replace hE1:=hE1.symm
      subst hE1
      replace hE2:=hE2.symm
      subst hE2
      replace hE3:=hE3.symm
      subst hE3
      replace hE4:=hE4.symm
      subst hE4
      refine Qp (Hr:=[_,_,_,_]) [3,4,5,6] Tryz.results15 (Qd rfl) ⟨qp1,qc3,qn2,j_2_r2_f0_p,j_2_r2_f0_c,j_2_r2_f0_n,rfl,rfl,rfl⟩ (asK [] rfl) rfl rfl (.inl rfl)
    ·
     replace hm:=QP hm hb56
     refine Q5 [5,0,1] (S':=[_,_,_]) rfl (Qj (Qa (Q2 (Q4 (Q1 (wP rfl (wF rfl Q7b (wD 0 1 rfl Q1g Q1D rfl (wF rfl Q8f (wD 0 2 rfl Q1g Q1D rfl ?_))))))))))
     obtain ⟨⟨v93_0,v93_1,v93_2,v93_3,v93_4,v93_5⟩,hc93,hm⟩:=Q6 hm
     try dsimp only at hm
     refine wC [1,2] [0,3,4] rfl fn_20 rfl (Q6m N qg0 qp1 qn2 qc3 l0 a1 a5 a6 _ _ _ _ _ _ hc93) (asK [] rfl) rfl (H':=[_,_,_]) rfl ?_
     rintro _ _ _ ⟨p93_0,c93_1,c93_2,p93_3,c93_4,c93_5,rfl,rfl,rfl⟩
     refine wP rfl (wP rfl (wP rfl (wP rfl (Q2a rfl rfl rfl (Q0 rfl) rfl Q5Q rfl (fun g13=>(wS 0 0 rfl Q11 (all':=[_,_,_,_]) rfl (H':=[_,_,_,_,_,_,_,_]) rfl (wP rfl (wP rfl (Q3 (Q2 (Q5 [15,14,13,5,0,1] (S':=[_,_,_,_,_,_]) rfl (Q4 (Q1 (wP rfl ?_))))))))))))))
     refine wF rfl Q7b (wD 5 1 rfl Q1g Q1D rfl (wF rfl Q8f (wD 5 2 rfl Q1g Q1D rfl ?_)))
     obtain ⟨⟨v103_0,v103_1,v103_2,v103_3,v103_4,v103_5⟩,hc103,hm⟩:=Q6 hm
     try dsimp only at hm
     refine wC [6,7] [0,1,2,3,4,5] rfl fn_37 rfl (Q6U N qg4 qp5 qn6 qc7 l2 a3 a5 a6 _ _ _ _ _ _ hc103) (asK [] rfl) rfl (H':=[_,_,_,_,_,_]) rfl ?_
     rintro _ _ _ ⟨p103_0,c103_1,c103_2,p103_3,c103_4,c103_5,rfl,rfl,rfl⟩
     refine wP rfl (wP rfl (wP rfl (wP rfl (Q2a rfl rfl rfl (Q0 rfl) rfl Q5Q rfl (fun g16=>(wS 0 0 rfl Q11 (all':=[_,_,_,_]) rfl (H':=[_,_,_,_,_,_,_,_,_,_,_]) rfl (wP rfl (wP rfl (Q3 (Q2 (Q5 [18,17,16,15,14,13,5,0] (S':=[_,_,_,_,_,_,_,_]) rfl (Q4 (Q1 (wP rfl ?_))))))))))))))
     refine wF rfl Q7b (wD 10 1 rfl Q1g Q1D rfl (wF rfl Q8f (wD 10 2 rfl Q1g Q1D rfl ?_)))
     obtain ⟨⟨v113_0,v113_1,v113_2,v113_3,v113_4,v113_5⟩,hc113,hm⟩:=Q6 hm
     try dsimp only at hm
     refine wC [8,9] [0,1,2,3,4,5,6,7,10] rfl fn_20 rfl (Q6m N qg0 qp1 qn2 qc3 l0 a1 a5 a6 _ _ _ _ _ _ hc113) (asK [] rfl) rfl (H':=[_,_,_,_,_,_,_,_,_]) rfl ?_
     rintro _ _ _ ⟨p113_0,c113_1,c113_2,p113_3,c113_4,c113_5,rfl,rfl,rfl⟩
     refine wP rfl (wP rfl (wP rfl (wP rfl (Q2a rfl rfl rfl (Q0 rfl) rfl Q5Q rfl (fun g19=>(wS 0 0 rfl Q11 (all':=[_,_,_,_]) rfl (H':=[_,_,_,_,_,_,_,_,_,_,_,_,_,_]) rfl (wP rfl (wP rfl (Q3 (Q2 (Q5 [19,18,17,16,15,14,13] (S':=[_,_,_,_,_,_,_]) rfl (Q4 ?_))))))))))))
     obtain ⟨bj_3,hm,hLj_3⟩:=Q6 hm
     unfold Q42 at hm
     refine Q14 (σ:=Bool) (fun j_3_6=>bj_3 = j_3_6) (fun j_3_6=>[(6,.bool j_3_6)]) (fun j_3_6=>[]) (fun j_3_6=>[.blk qg0 [.slice qp1 qn2 qc3,.int .i64 a1] 65,Qi Qe 35 6 (.slice qp1 qn2 qc3) l0,.blk qg4 [.slice qp5 qn6 qc7,.int .i64 a3] 67,.own 35 6 Qt (.slice qp5 qn6 qc7) l2]) ?_ ?_
     ·
      refine Q1 (wP rfl (wP rfl (Q7J rfl rfl rfl (Q0 rfl) rfl rfl rfl (eqlB _ _ v93_4 v103_4) (wP rfl ?_))))
      refine QA (d:=120) (S':=[_,_,_,_,_,_,_,_,_,_]) rfl rfl (fun hs120=>?_) (fun hs120=>?_)
      ·
       replace hm:=QQ hm hs120
       refine wP rfl (wP rfl (wP rfl (Qr (d:=123) (v':=.bool (v93_5 == v103_5)) (S':=[_,_,_,_,_,_,_,_,_,_,_,_,_]) rfl rfl (Q77 (a:=v93_5) (b:=v103_5)) (wP rfl (wP rfl ?_)))))
       refine QA (d:=125) (S':=[_,_,_,_,_,_,_,_,_,_,_,_,_,_,_]) rfl rfl (fun hs125=>?_) (fun hs125=>?_)
       ·
        replace hm:=QQ hm hs125
        refine Q1e 10 0 rfl rfl rfl (Q0 rfl) rfl rfl rfl (cs:=[_,_,_,_]) rfl Q11 Q1W rfl rfl (Q1e 5 0 rfl rfl rfl (Q0 rfl) rfl rfl rfl (cs:=[_,_,_,_]) rfl Q11 Q1W rfl rfl (QG 11 rfl (fun hzt23 _=>?_)))
        subst hzt23
        refine Q2n 12 rfl (fun hzc93_5 _=>?_)
        subst hzc93_5
        refine QG 6 rfl (fun hzt24 _=>?_)
        subst hzt24
        refine Q2n 7 rfl (fun hzc103_5 _=>?_)
        subst hzc103_5
        obtain ⟨v128,hc128,hm⟩:=Q6 hm
        refine Q3h [] [0,1,2,3,4,5,6,7,8,9,10,11,12,13] [11,12,6,7] rfl rfl rfl (Q0 rfl) rfl rfl fn_38 rfl (Q4Z N v93_0 v93_1 p93_0 c93_1 v93_2 p93_3 c93_4 v93_3 v103_0 v103_1 p103_0 c103_1 v103_2 p103_3 c103_4 v103_3 _ hc128) (fun F w hφ hh=>(QD (Q1M Q6a (hh _ (QS (k:=0) rfl)) (fun _ h=>h) (fun _ h=>h)) (QD (Q5k (hh _ (QS (k:=1) rfl))) (QD (Q1M Q6a (hh _ (QS (k:=2) rfl)) (fun _ h=>h) (fun _ h=>h)) (QD (Q5k (hh _ (QS (k:=3) rfl))) Q1f))))) (fun _ _ _ hR=>by obtain ⟨rfl,rfl,rfl⟩:=hR; exact ⟨rfl,(fun _ h=>Q2h h)⟩) rfl rfl (H':=[_,_,_,_,_,_,_,_,_,_,_,_,_,_]) rfl ?_
        rintro _ _ _ ⟨rfl,rfl,rfl⟩
        refine wP rfl (wP rfl ?_)
        refine QA (d:=130) (S':=[_,_,_,_,_,_,_,_,_,_,_,_,_,_,_,_,_,_,_,_]) rfl rfl (fun hs130=>?_) (fun hs130=>?_)
        ·
         replace hm:=QQ hm hs130
         refine Q1e 10 0 rfl rfl rfl (Q0 rfl) rfl rfl rfl (cs:=[_,_,_,_]) rfl Q11 Q1W rfl rfl (QJ rfl rfl rfl (Q0 rfl) rfl Q6F Q11 Q5Q rfl (zs:=[.int .i64 0,.int .i64 0,.slice none 0 0,.slice none 0 0]) (by kernel_rfl) rfl (out:=[_,_,_,_]) rfl (fun g132=>(Q1e 1 0 rfl rfl rfl (Q0 rfl) rfl rfl rfl (cs:=[_,_,_,_]) rfl Q11 Q1W rfl rfl (QJ rfl rfl rfl (Q0 rfl) rfl Q6F Q11 Q5Q rfl (zs:=[.int .i64 0,.int .i64 0,.slice none 0 0,.slice none 0 0]) (by kernel_rfl) rfl (out:=[_,_,_,_]) rfl (fun g134=>(QJ rfl rfl rfl (Q0 rfl) rfl Q5o Q4P tZ_77 rfl (zs:=[.slice none 0 0,.slice none 0 0]) (by kernel_rfl) rfl (out:=[_,_]) rfl (fun g135=>(Q6t (sz:=4) (m:=1) Q2D.pair ([((⟨v93_0,v93_1,v93_2,v93_3⟩ : ReplyD),((p93_0,c93_1),(p93_3,c93_4)))]) 2 rfl (fun F w hφ=>⟨[.int .i64 v93_0,.int .i64 v93_1,.slice p93_0 v93_2.length c93_1,.slice p93_3 v93_3.length c93_4],[],rfl,rfl,rfl,rfl⟩) rfl (by decide) (H':=[_,_,_,_,_,_,_,_,_,_,_,_,_,_,_,_,_]) rfl (Qv [QR Q2D [] none,_,_,_,_,_,_,_,_,_,_,_,_,_,_,_,_,_] (fun _ h=>h.bagNil Q2D) (Q13 [16,15,0,1,2,3,4,5,6,7,8,9,10,11,12,13,14,17] rfl (H':=[_,_,_,_,_,_,_,_,_,_,_,_,_,_,_,_,_,_]) rfl (Qv [QR Q2D ([((⟨v93_0,v93_1,v93_2,v93_3⟩ : ReplyD),((p93_0,c93_1),(p93_3,c93_4)))]) none,_,_,_,_,_,_,_,_,_,_,_,_,_,_,_] (fun _ h=>Qo.bagPush (T:=Q2D) (x:=(⟨v93_0,v93_1,v93_2,v93_3⟩ : ReplyD)) (r:=((p93_0,c93_1),(p93_3,c93_4))) (zs:=[]) (H:=[_,_,_,_,_,_,_,_,_,_,_,_,_,_,_,_]) h 0 rfl) (Qv [_,_,Qi Q2D 27 4 (.slice (some ⟨g132,0,none⟩) 1 1) ([(⟨v93_0,v93_1,v93_2,v93_3⟩ : ReplyD)]),_,_,_,_,_,_,_,_,_,_,_,_] (fun _ h=>h.treeIn 3 0 rfl rfl rfl rfl) (QG 2 rfl (fun hzt25 _=>(Q4q 3 (v':=.slice (some ⟨g132,0,none⟩) ([(⟨v93_0,v93_1,v93_2,v93_3⟩ : ReplyD)].length) 1) rfl (by rw [hzt25]) (Q15 0 (φ':=.blk g135 [.slice (some ⟨g132,0,none⟩) ([(⟨v93_0,v93_1,v93_2,v93_3⟩ : ReplyD)].length) 1,.slice (some ⟨g134,0,none⟩) 1 1] 77) rfl (by rw [hzt25]) (H':=[_,_,_,_,_,_,_,_,_,_,_,_,_,_,_]) rfl (Q15 2 (φ':=Qi Q2D 27 4 (.slice (some ⟨g132,0,none⟩) ([(⟨v93_0,v93_1,v93_2,v93_3⟩ : ReplyD)].length) 1) ([(⟨v93_0,v93_1,v93_2,v93_3⟩ : ReplyD)])) rfl (by rw [hzt25]) (H':=[_,_,_,_,_,_,_,_,_,_,_,_,_,_,_]) rfl ?_)))))))))))))))))
         refine QG 4 rfl (fun hzt26 _=>?_)
         subst hzt26
         refine Q2n 5 rfl (fun hzc113_5 _=>?_)
         subst hzc113_5
         refine Q6t (sz:=4) (m:=1) Q2D.pair ([((⟨v113_0,v113_1,v113_2,v113_3⟩ : ReplyD),((p113_0,c113_1),(p113_3,c113_4)))]) 1 rfl (fun F w hφ=>⟨[.int .i64 v113_0,.int .i64 v113_1,.slice p113_0 v113_2.length c113_1,.slice p113_3 v113_3.length c113_4],[],rfl,rfl,rfl,rfl⟩) rfl (by decide) (H':=[_,_,_,_,_,_,_,_,_,_,_,_,_,_,_]) rfl (Qv [QR Q2D [] none,_,_,_,_,_,_,_,_,_,_,_,_,_,_,_] (fun _ h=>h.bagNil Q2D) (Q13 [6,5,0,1,2,3,4,7,8,9,10,11,12,13,14,15] rfl (H':=[_,_,_,_,_,_,_,_,_,_,_,_,_,_,_,_]) rfl (Qv [QR Q2D ([((⟨v113_0,v113_1,v113_2,v113_3⟩ : ReplyD),((p113_0,c113_1),(p113_3,c113_4)))]) none,_,_,_,_,_,_,_,_,_,_,_,_,_] (fun _ h=>Qo.bagPush (T:=Q2D) (x:=(⟨v113_0,v113_1,v113_2,v113_3⟩ : ReplyD)) (r:=((p113_0,c113_1),(p113_3,c113_4))) (zs:=[]) (H:=[_,_,_,_,_,_,_,_,_,_,_,_,_,_]) h 0 rfl) (Qv [_,Qi Q2D 27 4 (.slice (some ⟨g134,0,none⟩) 1 1) ([(⟨v113_0,v113_1,v113_2,v113_3⟩ : ReplyD)]),_,_,_,_,_,_,_,_,_,_,_] (fun _ h=>h.treeIn 2 0 rfl rfl rfl rfl) (QG 1 rfl (fun hzt27 _=>(Q4q 1 (v':=.slice (some ⟨g134,0,none⟩) ([(⟨v113_0,v113_1,v113_2,v113_3⟩ : ReplyD)].length) 1) rfl (by rw [hzt27]) (Q15 0 (φ':=.blk g135 [.slice (some ⟨g132,0,none⟩) ([(⟨v93_0,v93_1,v93_2,v93_3⟩ : ReplyD)].length) 1,.slice (some ⟨g134,0,none⟩) ([(⟨v113_0,v113_1,v113_2,v113_3⟩ : ReplyD)].length) 1] 77) rfl (by rw [hzt27]) (H':=[_,_,_,_,_,_,_,_,_,_,_,_,_]) rfl (Q15 1 (φ':=Qi Q2D 27 4 (.slice (some ⟨g134,0,none⟩) ([(⟨v113_0,v113_1,v113_2,v113_3⟩ : ReplyD)].length) 1) ([(⟨v113_0,v113_1,v113_2,v113_3⟩ : ReplyD)])) rfl (by rw [hzt27]) (H':=[_,_,_,_,_,_,_,_,_,_,_,_,_]) rfl (Q6t (sz:=1) (m:=2) Q1T.pair ([([(⟨v93_0,v93_1,v93_2,v93_3⟩ : ReplyD)],(some (⟨g132,0,none⟩ : Addr),1)),([(⟨v113_0,v113_1,v113_2,v113_3⟩ : ReplyD)],(some (⟨g134,0,none⟩ : Addr),1))]) 0 rfl (fun F w hφ=>⟨[.slice (some ⟨g132,0,none⟩) ([(⟨v93_0,v93_1,v93_2,v93_3⟩ : ReplyD)].length) 1],[.slice (some ⟨g134,0,none⟩) ([(⟨v113_0,v113_1,v113_2,v113_3⟩ : ReplyD)].length) 1],rfl,rfl,rfl,⟨[.slice (some ⟨g134,0,none⟩) ([(⟨v113_0,v113_1,v113_2,v113_3⟩ : ReplyD)].length) 1],[],rfl,rfl,rfl,rfl⟩⟩) rfl (by decide) (H':=[_,_,_,_,_,_,_,_,_,_,_,_,_]) rfl (Qv [QR Q1T [] none,_,_,_,_,_,_,_,_,_,_,_,_,_] (fun _ h=>h.bagNil Q1T) (Q13 [3,0,1,2,4,5,6,7,8,9,10,11,12,13] rfl (H':=[_,_,_,_,_,_,_,_,_,_,_,_,_,_]) rfl (Qv [QR Q1T ([([(⟨v93_0,v93_1,v93_2,v93_3⟩ : ReplyD)],(some (⟨g132,0,none⟩ : Addr),1))]) none,_,_,_,_,_,_,_,_,_,_,_,_] (fun _ h=>Qo.bagPush (T:=Q1T) (x:=[(⟨v93_0,v93_1,v93_2,v93_3⟩ : ReplyD)]) (r:=(some (⟨g132,0,none⟩ : Addr),1)) (zs:=[]) (H:=[_,_,_,_,_,_,_,_,_,_,_,_,_]) h 0 rfl) (Q13 [2,0,1,3,4,5,6,7,8,9,10,11,12] rfl (H':=[_,_,_,_,_,_,_,_,_,_,_,_,_]) rfl ?_))))))))))))))
         refine Qv [QR Q1T (([([(⟨v93_0,v93_1,v93_2,v93_3⟩ : ReplyD)],(some (⟨g132,0,none⟩ : Addr),1))]) ++ [([(⟨v113_0,v113_1,v113_2,v113_3⟩ : ReplyD)],(some (⟨g134,0,none⟩ : Addr),1))]) none,_,_,_,_,_,_,_,_,_,_,_] (fun _ h=>Qo.bagPush (T:=Q1T) (x:=[(⟨v113_0,v113_1,v113_2,v113_3⟩ : ReplyD)]) (r:=(some (⟨g134,0,none⟩ : Addr),1)) (zs:=[([(⟨v93_0,v93_1,v93_2,v93_3⟩ : ReplyD)],(some (⟨g132,0,none⟩ : Addr),1))]) (H:=[_,_,_,_,_,_,_,_,_,_,_,_]) h 0 rfl) (Q15 0 (φ':=QR Q1T ([([(⟨v93_0,v93_1,v93_2,v93_3⟩ : ReplyD)],(some (⟨g132,0,none⟩ : Addr),1)),([(⟨v113_0,v113_1,v113_2,v113_3⟩ : ReplyD)],(some (⟨g134,0,none⟩ : Addr),1))]) none) rfl rfl (H':=[_,_,_,_,_,_,_,_,_,_,_,_]) rfl (Qv [Qi Q1T 77 1 (.slice (some ⟨g135,0,none⟩) 2 2) ([[(⟨v93_0,v93_1,v93_2,v93_3⟩ : ReplyD)],[(⟨v113_0,v113_1,v113_2,v113_3⟩ : ReplyD)]]),_,_,_,_,_,_,_,_,_,_] (fun _ h=>h.treeIn 1 0 rfl rfl rfl rfl) (QG 0 rfl (fun hzt28 _=>(Q4q 0 (v':=.slice (some ⟨g135,0,none⟩) ([[(⟨v93_0,v93_1,v93_2,v93_3⟩ : ReplyD)],[(⟨v113_0,v113_1,v113_2,v113_3⟩ : ReplyD)]].length) 2) rfl (by rw [hzt28]) (Q15 0 (φ':=Qi Q1T 77 1 (.slice (some ⟨g135,0,none⟩) ([[(⟨v93_0,v93_1,v93_2,v93_3⟩ : ReplyD)],[(⟨v113_0,v113_1,v113_2,v113_3⟩ : ReplyD)]].length) 2) ([[(⟨v93_0,v93_1,v93_2,v93_3⟩ : ReplyD)],[(⟨v113_0,v113_1,v113_2,v113_3⟩ : ReplyD)]])) rfl (by rw [hzt28]) (H':=[_,_,_,_,_,_,_,_,_,_,_]) rfl ?_))))))
         obtain ⟨hap136,hm⟩:=Qq hm
         refine Q1q 0 rfl (fun zz136 hzz136=>(wC [1,0] [2,3,4,5,6,7,8,9,10,11] rfl fn_39 rfl (ap_ApartReplies (some ⟨g135,0,none⟩) ([[(⟨v93_0,v93_1,v93_2,v93_3⟩ : ReplyD)],[(⟨v113_0,v113_1,v113_2,v113_3⟩ : ReplyD)]].length) 2 zz136 (by rw [Q12 hzz136]) (by rw [Q12 hzz136]; exact hap136.1) (fun z hz=>hap136.2 z.1 (by rw [← hzz136]; exact List.mem_map_of_mem hz))) (asK [] rfl) rfl (H':=[_,_,_,_,_,_,_,_,_,_]) rfl ?_))
         rintro _ _ _ ⟨r6_136,r7_136,r19_136,r26_136,rfl,rfl,rfl⟩
         refine Q2k 0 rfl (H':=[_,_,_,_,_,_,_,_,_,_,_,_,_]) rfl (Q2k 0 rfl (H':=[_,_,_,_,_,_,_,_,_,_,_,_]) rfl (Q2k 0 rfl (H':=[_,_,_,_,_,_,_,_,_,_,_]) rfl (Q2k 0 rfl (H':=[_,_,_,_,_,_,_,_,_,_]) rfl (wP rfl (wP rfl (Q3 ?_))))))
         have hE:=(Option.some.inj hm).symm
         refine QE [1,2,6,7] rfl (H':=[_,_,_,_]) rfl ?_
         refine Ql true hE [6] rfl (asK [] rfl) rfl
        ·
         replace hm:=QP hm hs130
         refine wO rfl (wO rfl (wO rfl (wO rfl (wO rfl (wO rfl (wP rfl (wP rfl (Q3 ?_))))))))
         have hE:=(Option.some.inj hm).symm
         refine QE [3,4,8,9] rfl (H':=[_,_,_,_]) rfl ?_
         refine Ql false hE [6] rfl (asK [] rfl) rfl
       ·
        replace hm:=QP hm hs125
        refine wO rfl (wO rfl (wO rfl (wP rfl (wP rfl (wO rfl (wO rfl (wO rfl (wO rfl (wO rfl (wO rfl (wP rfl (wP rfl (Q3 ?_)))))))))))))
        have hE:=(Option.some.inj hm).symm
        refine QE [3,4,8,9] rfl (H':=[_,_,_,_]) rfl ?_
        refine Ql false hE [6] rfl (asK [] rfl) rfl
      ·
       replace hm:=QP hm hs120
       refine wO rfl (wO rfl (wO rfl (wP rfl (wP rfl (wO rfl (wO rfl (wO rfl (wP rfl (wP rfl (wO rfl (wO rfl (wO rfl (wO rfl ?_)))))))))))))
       refine wO rfl (wO rfl (wP rfl (wP rfl (Q3 ?_))))
       have hE:=(Option.some.inj hm).symm
       refine QE [3,4,8,9] rfl (H':=[_,_,_,_]) rfl ?_
       refine Ql false hE [6] rfl (asK [] rfl) rfl
     ·
      rintro j_3_6 hE
      try dsimp only
      have hm:=hLj_3
      rw [hE] at hm
      refine Qn ?_
      have hE:=(Option.some.inj hm).symm
      obtain ⟨hE0,hF1⟩:=Prod.mk.inj hE
      obtain ⟨hE1,hF2⟩:=Prod.mk.inj hF1
      obtain ⟨hE2,hF3⟩:=Prod.mk.inj hF2
      obtain ⟨hE3,hE4⟩:=Prod.mk.inj hF3
      clear hE hF1 hF2 hF3
      replace hE0:=hE0.symm
      subst hE0
      replace hE1:=hE1.symm
      subst hE1
      replace hE2:=hE2.symm
      subst hE2
      replace hE3:=hE3.symm
      subst hE3
      replace hE4:=hE4.symm
      subst hE4
      refine Qp (Hr:=[_,_,_,_]) [0,1,2,3] Tryz.results15 (Qd rfl) ⟨qp1,qc3,qn2,qp5,qc7,qn6,rfl,rfl,rfl⟩ (asK [] rfl) rfl rfl (.inl rfl)
theorem ap_oneSession (g:Nat) (p6:Option Addr) (c6:Nat) (h6:List Hdr) (p7:Option Addr) (c7:Nat) (h7:List Hdr) (p19:Option Addr) (c19:Nat) (h19:List Hdr) (p26:Option Addr) (c26:Nat) (h26:List Hdr) (a0:Int) (a1:Int) (a2:Int) (a3:Int) (p_4:Option Addr) (c_4:Nat) (l_4:List FactD) (p_5:Option Addr) (n_5 c_5:Nat) (hL6:h6.length + 10001 ≤ 1073741824) (hB6:Bd h6) (hL7:h7.length + 1 ≤ 1073741824) (hB7:Bd h7) (b_4:l_4.length ≤ 10000) (x_4 : ∀ y ∈ l_4,Q6n y) (b_5:n_5 ≤ 10000):Q1v Tryz.prog 62 [.pointer (some ⟨g,0,none⟩),.agg #[.int .i64 a0,.int .i64 a1,.int .i64 a2,.int .i64 a3,.slice p_4 l_4.length c_4,.slice p_5 n_5 c_5]] [] [.blk g [.slice none 0 0,.slice none 0 0,.slice none 0 0,.slice none 0 0,.slice none 0 0,.slice none 0 0,.slice p6 h6.length c6,.slice p7 h7.length c7,.slice none 0 0,.slice none 0 0,.slice none 0 0,.slice none 0 0,.slice none 0 0,.slice none 0 0,.slice none 0 0,.slice none 0 0,.slice none 0 0,.slice none 0 0,.slice none 0 0,.slice p19 h19.length c19,.slice none 0 0,.slice none 0 0,.slice none 0 0,.slice none 0 0,.slice none 0 0,.slice none 0 0,.slice p26 h26.length c26,.slice none 0 0,.slice none 0 0] 109,.own 25 1 QF (.slice p6 h6.length c6) h6,Qk 149 3 (h6.map Q1c),.own 24 1 QF (.slice p7 h7.length c7) h7,Qk 61 3 (h7.map Q1c),Qi Qf 61 3 (.slice p_4 l_4.length c_4) l_4,Qk 149 3 ([Q1c (p_5,n_5,c_5)])] (fun v Φr Hr=>∃ (q6:Option Addr) (d6:Nat) (k6:List Hdr) (q7:Option Addr) (d7:Nat) (k7:List Hdr),k6.length ≤ h6.length + 10001 ∧ Bd k6 ∧ k7.length ≤ h7.length + 1 ∧ Bd k7 ∧ v = .tuple #[] ∧ Φr = [] ∧ Hr = [.blk g [.slice none 0 0,.slice none 0 0,.slice none 0 0,.slice none 0 0,.slice none 0 0,.slice none 0 0,.slice q6 k6.length d6,.slice q7 k7.length d7,.slice none 0 0,.slice none 0 0,.slice none 0 0,.slice none 0 0,.slice none 0 0,.slice none 0 0,.slice none 0 0,.slice none 0 0,.slice none 0 0,.slice none 0 0,.slice none 0 0,.slice p19 h19.length c19,.slice none 0 0,.slice none 0 0,.slice none 0 0,.slice none 0 0,.slice none 0 0,.slice none 0 0,.slice p26 h26.length c26,.slice none 0 0,.slice none 0 0] 109,.own 25 1 QF (.slice q6 k6.length d6) k6,Qk 149 3 (k6.map Q1c),.own 24 1 QF (.slice q7 k7.length d7) k7,Qk 61 3 (k7.map Q1c)]):=by
 refine Qx Tryz.func62 rfl Tryz.ntmps62 rfl (S:=[_,_]) rfl (fun C=>(Q4 (Q1 (wB rfl (fun g3=>(Q3 (Q2 (Q1 (wP rfl (wF rfl Q4b (Q1e 0 2 rfl rfl rfl (Q0 rfl) rfl rfl rfl (cs:=[_,_,_,_]) rfl Q11 Q1W rfl rfl (wC [1,2,3,4,5,6,7] [0] rfl fn_103 rfl (ap_oneReply _ p6 c6 h6 p7 c7 h7 p19 c19 h19 p26 c26 h26 a2 a3 p_4 c_4 l_4 p_5 n_5 c_5 (by omega) hB6 (by omega) hB7 b_4 x_4 b_5) (asK [] rfl) rfl (H':=[_]) rfl ?_))))))))))))
 rintro _ _ _ ⟨q6_1,d6_1,k6_1,q7_1,d7_1,k7_1,hl6_1,hb6_1,hl7_1,hb7_1,rfl,rfl,rfl⟩
 refine Q3 (Q5v (Hr:=[.blk g [.slice none 0 0,.slice none 0 0,.slice none 0 0,.slice none 0 0,.slice none 0 0,.slice none 0 0,.slice q6_1 k6_1.length d6_1,.slice q7_1 k7_1.length d7_1,.slice none 0 0,.slice none 0 0,.slice none 0 0,.slice none 0 0,.slice none 0 0,.slice none 0 0,.slice none 0 0,.slice none 0 0,.slice none 0 0,.slice none 0 0,.slice none 0 0,.slice p19 h19.length c19,.slice none 0 0,.slice none 0 0,.slice none 0 0,.slice none 0 0,.slice none 0 0,.slice none 0 0,.slice p26 h26.length c26,.slice none 0 0,.slice none 0 0] 109,.own 25 1 QF (.slice q6_1 k6_1.length d6_1) k6_1,Qk 149 3 (k6_1.map Q1c),.own 24 1 QF (.slice q7_1 k7_1.length d7_1) k7_1,Qk 61 3 (k7_1.map Q1c)]) [0,1,2,3,4] Tryz.results62 ?_ (asK [] rfl) rfl rfl (.inr rfl))
 exact ⟨_,_,_,_,_,_,by have:=hl6_1; omega,hb6_1,by have:=hl7_1; omega,hb7_1,rfl,rfl,rfl⟩
theorem ap_putSessions (g:Nat) (p6:Option Addr) (c6:Nat) (h6:List Hdr) (p7:Option Addr) (c7:Nat) (h7:List Hdr) (p19:Option Addr) (c19:Nat) (h19:List Hdr) (p26:Option Addr) (c26:Nat) (h26:List Hdr) (p:Option Addr) (c:Nat) (xs:List SessD) (hL6:h6.length + 100010000 ≤ 1073741824) (hB6:Bd h6) (hL7:h7.length + 10000 ≤ 1073741824) (hB7:Bd h7) (hL26:h26.length + 1 ≤ 1073741824) (hB26:Bd h26) (hn:xs.length ≤ 10000) (hx : ∀ y ∈ xs,Q80 y):Q1v Tryz.prog 43 [.pointer (some ⟨g,0,none⟩),.slice p xs.length c] [] [.blk g [.slice none 0 0,.slice none 0 0,.slice none 0 0,.slice none 0 0,.slice none 0 0,.slice none 0 0,.slice p6 h6.length c6,.slice p7 h7.length c7,.slice none 0 0,.slice none 0 0,.slice none 0 0,.slice none 0 0,.slice none 0 0,.slice none 0 0,.slice none 0 0,.slice none 0 0,.slice none 0 0,.slice none 0 0,.slice none 0 0,.slice p19 h19.length c19,.slice none 0 0,.slice none 0 0,.slice none 0 0,.slice none 0 0,.slice none 0 0,.slice none 0 0,.slice p26 h26.length c26,.slice none 0 0,.slice none 0 0] 109,.own 25 1 QF (.slice p6 h6.length c6) h6,Qk 149 3 (h6.map Q1c),.own 24 1 QF (.slice p7 h7.length c7) h7,Qk 61 3 (h7.map Q1c),.own 32 1 QF (.slice p26 h26.length c26) h26,Qk 35 6 (h26.map Q1c),Qi Qe 35 6 (.slice p xs.length c) xs] (fun v Φr Hr=>∃ (q6:Option Addr) (d6:Nat) (k6:List Hdr) (q7:Option Addr) (d7:Nat) (k7:List Hdr) (q26:Option Addr) (d26:Nat) (k26:List Hdr),k6.length ≤ h6.length + 100010000 ∧ Bd k6 ∧ k7.length ≤ h7.length + 10000 ∧ Bd k7 ∧ k26.length ≤ h26.length + 1 ∧ Bd k26 ∧ v = .tuple #[] ∧ Φr = [] ∧ Hr = [.blk g [.slice none 0 0,.slice none 0 0,.slice none 0 0,.slice none 0 0,.slice none 0 0,.slice none 0 0,.slice q6 k6.length d6,.slice q7 k7.length d7,.slice none 0 0,.slice none 0 0,.slice none 0 0,.slice none 0 0,.slice none 0 0,.slice none 0 0,.slice none 0 0,.slice none 0 0,.slice none 0 0,.slice none 0 0,.slice none 0 0,.slice p19 h19.length c19,.slice none 0 0,.slice none 0 0,.slice none 0 0,.slice none 0 0,.slice none 0 0,.slice none 0 0,.slice q26 k26.length d26,.slice none 0 0,.slice none 0 0] 109,.own 25 1 QF (.slice q6 k6.length d6) k6,Qk 149 3 (k6.map Q1c),.own 24 1 QF (.slice q7 k7.length d7) k7,Qk 61 3 (k7.map Q1c),.own 32 1 QF (.slice q26 k26.length d26) k26,Qk 35 6 (k26.map Q1c)]):=by
 refine Qx Tryz.func43 rfl Tryz.ntmps43 rfl (S:=[_,_]) rfl (fun C=>(Q4 (Q1 (Q1q 7 rfl (fun zz hz0=>?_)))))
 have hzl:zz.length = xs.length:=Q12 hz0
 refine wP rfl (wP rfl (wP rfl (wF rfl tF_109_26 (wD 1 26 rfl tS_53 tA_53 rfl (wP rfl (QJ rfl rfl rfl (Q0 rfl) rfl Q5s Q1L tZ_32 rfl (zs:=[.slice none 0 0]) (by kernel_rfl) rfl (out:=[_]) rfl (fun g11=>(Q3c ([(p,xs.length,c)] : List Hdr) 7 0 rfl rfl rfl (Q0 rfl) rfl rfl rfl rfl rfl (fun F w hφ=>⟨[_],[],rfl,rfl,rfl,rfl⟩) Q5s tR_32 rfl rfl (by simp; omega) (by simp; omega) (H2:=fun p12 c12=>[.blk g11 [.slice p xs.length c] 32,QR Qe (zz.drop 0) none,.blk g [.slice none 0 0,.slice none 0 0,.slice none 0 0,.slice none 0 0,.slice none 0 0,.slice none 0 0,.slice p6 h6.length c6,.slice p7 h7.length c7,.slice none 0 0,.slice none 0 0,.slice none 0 0,.slice none 0 0,.slice none 0 0,.slice none 0 0,.slice none 0 0,.slice none 0 0,.slice none 0 0,.slice none 0 0,.slice none 0 0,.slice p19 h19.length c19,.slice none 0 0,.slice none 0 0,.slice none 0 0,.slice none 0 0,.slice none 0 0,.slice none 0 0,.slice p26 h26.length c26,.slice none 0 0,.slice none 0 0] 109,.own 25 1 QF (.slice p6 h6.length c6) h6,Qk 149 3 (h6.map Q1c),.own 24 1 QF (.slice p7 h7.length c7) h7,Qk 61 3 (h7.map Q1c),.own 32 1 QF (.slice p12 ((h26 ++ ([(p,xs.length,c)] : List Hdr)).length) c12) (h26 ++ ([(p,xs.length,c)] : List Hdr)),Qk 35 6 (h26.map Q1c),.own 35 6 Qe.pair (.slice p xs.length c) zz]) (fun _ _=>rfl) (fun p12 c12=>(Q2k 0 rfl (H':=[_,_,_,_,_,_,_,_,_]) rfl (wP rfl (wF rfl tF_109_26 (wS 1 26 rfl tS_53 (all':=[_,_,_,_,_,_,_,_,_,_,_,_,_,_,_,_,_,_,_,_,_,_,_,_,_,_,_,_,_]) rfl (H':=[_,_,_,_,_,_,_,_,_]) rfl (Q3 (Q2 ?_)))))))))))))))
 refine Q5 [0,1] (S':=[_,_]) rfl (Q4 (Q1 (wP rfl (Q3 (Q2 (Qc (QI (σ:=Option Addr × Nat × List Hdr × Option Addr × Nat × List Hdr × Nat) (fun s=>s.2.2.2.2.2.2 ≤ xs.length ∧ s.2.2.1.length ≤ h6.length + s.2.2.2.2.2.2 * 10001 ∧ Bd s.2.2.1 ∧ s.2.2.2.2.2.1.length ≤ h7.length + s.2.2.2.2.2.2 * 1 ∧ Bd s.2.2.2.2.2.1) (fun s=>xs.length - s.2.2.2.2.2.2) (fun s=>[(4,.int .i64 ((s.2.2.2.2.2.2:Nat):Int)),(0,.pointer (some ⟨g,0,none⟩)),(1,.slice p xs.length c)]) (fun s=>[]) (fun s=>[QR Qe (zz.drop s.2.2.2.2.2.2) none,.blk g [.slice none 0 0,.slice none 0 0,.slice none 0 0,.slice none 0 0,.slice none 0 0,.slice none 0 0,.slice s.1 s.2.2.1.length s.2.1,.slice s.2.2.2.1 s.2.2.2.2.2.1.length s.2.2.2.2.1,.slice none 0 0,.slice none 0 0,.slice none 0 0,.slice none 0 0,.slice none 0 0,.slice none 0 0,.slice none 0 0,.slice none 0 0,.slice none 0 0,.slice none 0 0,.slice none 0 0,.slice p19 h19.length c19,.slice none 0 0,.slice none 0 0,.slice none 0 0,.slice none 0 0,.slice none 0 0,.slice none 0 0,.slice p12 ((h26 ++ ([(p,xs.length,c)] : List Hdr)).length) c12,.slice none 0 0,.slice none 0 0] 109,.own 25 1 QF (.slice s.1 s.2.2.1.length s.2.1) s.2.2.1,Qk 149 3 (s.2.2.1.map Q1c),.own 24 1 QF (.slice s.2.2.2.1 s.2.2.2.2.2.1.length s.2.2.2.2.1) s.2.2.2.2.2.1,Qk 61 3 (s.2.2.2.2.2.1.map Q1c),.own 32 1 QF (.slice p12 ((h26 ++ ([(p,xs.length,c)] : List Hdr)).length) c12) (h26 ++ ([(p,xs.length,c)] : List Hdr)),Qk 35 6 (h26.map Q1c),.own 35 6 Qe.pair (.slice p xs.length c) zz]) (p6,c6,h6,p7,c7,h7,0) ⟨Nat.zero_le _,Nat.le_add_right _ _,hB6,Nat.le_add_right _ _,hB7⟩ [4,0,1] rfl (asK [] rfl) rfl (fun s1 oks1=>(Q4 (Q4 (Q1 (wP rfl (wP rfl (wN rfl QB ?_))))))))))))))
 refine wP rfl (Q3 (Q2 (Q5 [18,4,0,1] (S':=[_,_,_,_]) rfl ?_)))
 refine Qm rfl (fun h18=>?_) (fun h18=>?_)
 ·
  replace h18:=of_decide_eq_true h18
  have hi1:s1.2.2.2.2.2.2 < zz.length:=by omega
  obtain ⟨z1,hz1⟩ : ∃ z,zz[s1.2.2.2.2.2.2]? = some z:=⟨_,List.getElem?_eq_getElem hi1⟩
  have hxs:=hx z1.1 (by rw [← hz0]; exact List.mem_map_of_mem (List.mem_of_getElem? hz1))
  unfold Q80 at hxs
  obtain ⟨hi2,hl6,hb6,hl7,hb7⟩:=oks1
  refine Qj (Q2 (Q4 (Qc (Q1 (wP rfl (wP rfl (wP rfl (Q1r 8 s1.2.2.2.2.2.2 rfl rfl rfl (Q0 rfl) rfl rfl rfl rfl rfl hi1 QB QN (fun g24 eg24=>?_)))))))))
  subst eg24
  refine QU Q4W 8 s1.2.2.2.2.2.2 0 rfl rfl rfl (Q0 rfl) rfl rfl rfl hz1 QN Q4O (v:=fun _=>.agg #[.int .i64 (z1.1.id),.int .i64 (z1.1.seq),.int .i64 (z1.1.r.err),.int .i64 (z1.1.r.num),.slice z1.2.1.1 z1.1.r.facts.length z1.2.1.2,.slice z1.2.2.1 z1.1.r.said.length z1.2.2.2]) (fun _=>rfl) (fun _=>rfl) (fun _ _=>(Qv [.own 149 3 R_V (.slice z1.2.2.1 z1.1.r.said.length z1.2.2.2) z1.1.r.said,Qi Qf 61 3 (.slice z1.2.1.1 z1.1.r.facts.length z1.2.1.2) z1.1.r.facts,QR Qe (zz.drop (s1.2.2.2.2.2.2 + 1)) none,.blk g [.slice none 0 0,.slice none 0 0,.slice none 0 0,.slice none 0 0,.slice none 0 0,.slice none 0 0,.slice s1.1 s1.2.2.1.length s1.2.1,.slice s1.2.2.2.1 s1.2.2.2.2.2.1.length s1.2.2.2.2.1,.slice none 0 0,.slice none 0 0,.slice none 0 0,.slice none 0 0,.slice none 0 0,.slice none 0 0,.slice none 0 0,.slice none 0 0,.slice none 0 0,.slice none 0 0,.slice none 0 0,.slice p19 h19.length c19,.slice none 0 0,.slice none 0 0,.slice none 0 0,.slice none 0 0,.slice none 0 0,.slice none 0 0,.slice p12 ((h26 ++ ([((some ⟨g24,0,none⟩),xs.length,c)] : List Hdr)).length) c12,.slice none 0 0,.slice none 0 0] 109,.own 25 1 QF (.slice s1.1 s1.2.2.1.length s1.2.1) s1.2.2.1,Qk 149 3 (s1.2.2.1.map Q1c),.own 24 1 QF (.slice s1.2.2.2.1 s1.2.2.2.2.2.1.length s1.2.2.2.2.1) s1.2.2.2.2.2.1,Qk 61 3 (s1.2.2.2.2.2.1.map Q1c),.own 32 1 QF (.slice p12 ((h26 ++ ([((some ⟨g24,0,none⟩),xs.length,c)] : List Hdr)).length) c12) (h26 ++ ([((some ⟨g24,0,none⟩),xs.length,c)] : List Hdr)),Qk 35 6 (h26.map Q1c),.own 35 6 Qe.pair (.slice (some ⟨g24,0,none⟩) xs.length c) zz] (fun _ h=>h.bagUncons 0 rfl hz1) (Qv [Qk 149 3 ([Q1c (z1.2.2.1,z1.1.r.said.length,z1.2.2.2)]),Qi Qf 61 3 (.slice z1.2.1.1 z1.1.r.facts.length z1.2.1.2) z1.1.r.facts,QR Qe (zz.drop (s1.2.2.2.2.2.2 + 1)) none,.blk g [.slice none 0 0,.slice none 0 0,.slice none 0 0,.slice none 0 0,.slice none 0 0,.slice none 0 0,.slice s1.1 s1.2.2.1.length s1.2.1,.slice s1.2.2.2.1 s1.2.2.2.2.2.1.length s1.2.2.2.2.1,.slice none 0 0,.slice none 0 0,.slice none 0 0,.slice none 0 0,.slice none 0 0,.slice none 0 0,.slice none 0 0,.slice none 0 0,.slice none 0 0,.slice none 0 0,.slice none 0 0,.slice p19 h19.length c19,.slice none 0 0,.slice none 0 0,.slice none 0 0,.slice none 0 0,.slice none 0 0,.slice none 0 0,.slice p12 ((h26 ++ ([((some ⟨g24,0,none⟩),xs.length,c)] : List Hdr)).length) c12,.slice none 0 0,.slice none 0 0] 109,.own 25 1 QF (.slice s1.1 s1.2.2.1.length s1.2.1) s1.2.2.1,Qk 149 3 (s1.2.2.1.map Q1c),.own 24 1 QF (.slice s1.2.2.2.1 s1.2.2.2.2.2.1.length s1.2.2.2.2.1) s1.2.2.2.2.2.1,Qk 61 3 (s1.2.2.2.2.2.1.map Q1c),.own 32 1 QF (.slice p12 ((h26 ++ ([((some ⟨g24,0,none⟩),xs.length,c)] : List Hdr)).length) c12) (h26 ++ ([((some ⟨g24,0,none⟩),xs.length,c)] : List Hdr)),Qk 35 6 (h26.map Q1c),.own 35 6 Qe.pair (.slice (some ⟨g24,0,none⟩) xs.length c) zz] (fun _ h=>h.flOne 0 rfl) (wC [3,4,5,6,7,1,0] [2,8,9,10] rfl fn_62 rfl (ap_oneSession _ s1.1 s1.2.1 s1.2.2.1 s1.2.2.2.1 s1.2.2.2.2.1 s1.2.2.2.2.2.1 p19 c19 h19 p12 c12 (h26 ++ ([((some ⟨g24,0,none⟩),xs.length,c)] : List Hdr)) z1.1.id z1.1.seq z1.1.r.err z1.1.r.num z1.2.1.1 z1.2.1.2 z1.1.r.facts z1.2.2.1 z1.1.r.said.length z1.2.2.2 (by omega) hb6 (by omega) hb7 hxs.1 hxs.2.1 hxs.2.2) (asK [] rfl) rfl (H':=[_,_,_,_]) rfl ?_))))
  rintro _ _ _ ⟨q6_1,d6_1,k6_1,q7_1,d7_1,k7_1,hl6_1,hb6_1,hl7_1,hb7_1,rfl,rfl,rfl⟩
  refine Q3 (Qa (Q2 (Q1 (wP rfl (wP rfl (Qr (d:=20) (v':=.int .i64 ((s1.2.2.2.2.2.2 + 1:Nat):Int)) (S':=[_,_,_,_,_,_,_,_,_,_,_]) rfl rfl (Qw (a:=s1.2.2.2.2.2.2) (b:=1) (by omega)) (Qs (S':=[_,_,_,_,_,_,_,_,_,_,_]) rfl rfl rfl rfl rfl (Q3 (QE [5,0,1,2,3,4,6,7,8] rfl (H':=[_,_,_,_,_,_,_,_,_]) rfl ?_)))))))))
  refine Q16 (q6_1,d6_1,k6_1,q7_1,d7_1,k7_1,s1.2.2.2.2.2.2 + 1) (by show xs.length - (s1.2.2.2.2.2.2 + 1) < xs.length - s1.2.2.2.2.2.2; omega) ⟨by show s1.2.2.2.2.2.2 + 1 ≤ _; omega,by have:=hl6_1; show List.length (k6_1) ≤ _ + (s1.2.2.2.2.2.2 + 1) * _; omega,hb6_1,by have:=hl7_1; show List.length (k7_1) ≤ _ + (s1.2.2.2.2.2.2 + 1) * _; omega,hb7_1⟩ [4,0,1] rfl (asK [] rfl) rfl
 ·
  replace h18:=of_decide_eq_false h18
  obtain ⟨hi2,hl6,hb6,hl7,hb7⟩:=oks1
  refine QH (Q8 (Q8 (Qh (Q3o [QR Qe (zz.drop s1.2.2.2.2.2.2) none,.blk g [.slice none 0 0,.slice none 0 0,.slice none 0 0,.slice none 0 0,.slice none 0 0,.slice none 0 0,.slice s1.1 s1.2.2.1.length s1.2.1,.slice s1.2.2.2.1 s1.2.2.2.2.2.1.length s1.2.2.2.2.1,.slice none 0 0,.slice none 0 0,.slice none 0 0,.slice none 0 0,.slice none 0 0,.slice none 0 0,.slice none 0 0,.slice none 0 0,.slice none 0 0,.slice none 0 0,.slice none 0 0,.slice p19 h19.length c19,.slice none 0 0,.slice none 0 0,.slice none 0 0,.slice none 0 0,.slice none 0 0,.slice none 0 0,.slice p12 ((h26 ++ ([(p,xs.length,c)] : List Hdr)).length) c12,.slice none 0 0,.slice none 0 0] 109,.own 25 1 QF (.slice s1.1 s1.2.2.1.length s1.2.1) s1.2.2.1,Qk 149 3 (s1.2.2.1.map Q1c),.own 24 1 QF (.slice s1.2.2.2.1 s1.2.2.2.2.2.1.length s1.2.2.2.2.1) s1.2.2.2.2.2.1,Qk 61 3 (s1.2.2.2.2.2.1.map Q1c),.own 32 1 QF (.slice p12 ((h26 ++ ([(p,xs.length,c)] : List Hdr)).length) c12) (h26 ++ ([(p,xs.length,c)] : List Hdr)),Qk 35 6 (h26.map Q1c),Qk 35 6 [Q1c (p,xs.length,c)]] (fun _ h=>by have h2:=h.flOne 8 rfl; exact h2) (Q3o [QR Qe (zz.drop s1.2.2.2.2.2.2) none,.blk g [.slice none 0 0,.slice none 0 0,.slice none 0 0,.slice none 0 0,.slice none 0 0,.slice none 0 0,.slice s1.1 s1.2.2.1.length s1.2.1,.slice s1.2.2.2.1 s1.2.2.2.2.2.1.length s1.2.2.2.2.1,.slice none 0 0,.slice none 0 0,.slice none 0 0,.slice none 0 0,.slice none 0 0,.slice none 0 0,.slice none 0 0,.slice none 0 0,.slice none 0 0,.slice none 0 0,.slice none 0 0,.slice p19 h19.length c19,.slice none 0 0,.slice none 0 0,.slice none 0 0,.slice none 0 0,.slice none 0 0,.slice none 0 0,.slice p12 ((h26 ++ ([(p,xs.length,c)] : List Hdr)).length) c12,.slice none 0 0,.slice none 0 0] 109,.own 25 1 QF (.slice s1.1 s1.2.2.1.length s1.2.1) s1.2.2.1,Qk 149 3 (s1.2.2.1.map Q1c),.own 24 1 QF (.slice s1.2.2.2.1 s1.2.2.2.2.2.1.length s1.2.2.2.2.1) s1.2.2.2.2.2.1,Qk 61 3 (s1.2.2.2.2.2.1.map Q1c),.own 32 1 QF (.slice p12 ((h26 ++ ([(p,xs.length,c)] : List Hdr)).length) c12) (h26 ++ ([(p,xs.length,c)] : List Hdr)),Qk 35 6 ((h26 ++ [(p,xs.length,c)]).map Q1c)] (fun _ h=>h.flPush 7 8 rfl rfl rfl) (Q5v (Hr:=[.blk g [.slice none 0 0,.slice none 0 0,.slice none 0 0,.slice none 0 0,.slice none 0 0,.slice none 0 0,.slice s1.1 s1.2.2.1.length s1.2.1,.slice s1.2.2.2.1 s1.2.2.2.2.2.1.length s1.2.2.2.2.1,.slice none 0 0,.slice none 0 0,.slice none 0 0,.slice none 0 0,.slice none 0 0,.slice none 0 0,.slice none 0 0,.slice none 0 0,.slice none 0 0,.slice none 0 0,.slice none 0 0,.slice p19 h19.length c19,.slice none 0 0,.slice none 0 0,.slice none 0 0,.slice none 0 0,.slice none 0 0,.slice none 0 0,.slice p12 ((h26 ++ ([(p,xs.length,c)] : List Hdr)).length) c12,.slice none 0 0,.slice none 0 0] 109,.own 25 1 QF (.slice s1.1 s1.2.2.1.length s1.2.1) s1.2.2.1,Qk 149 3 (s1.2.2.1.map Q1c),.own 24 1 QF (.slice s1.2.2.2.1 s1.2.2.2.2.2.1.length s1.2.2.2.2.1) s1.2.2.2.2.2.1,Qk 61 3 (s1.2.2.2.2.2.1.map Q1c),.own 32 1 QF (.slice p12 ((h26 ++ ([(p,xs.length,c)] : List Hdr)).length) c12) (h26 ++ ([(p,xs.length,c)] : List Hdr)),Qk 35 6 ((h26 ++ [(p,xs.length,c)]).map Q1c)]) [1,2,3,4,5,6,7] Tryz.results43 ?_ (asK [] rfl) rfl rfl (.inr rfl)))))))
  exact ⟨_,_,_,_,_,_,_,_,_,by have h9:=hl6; have h8:s1.2.2.2.2.2.2 * 10001 ≤ 10000 * 10001:=Nat.mul_le_mul_right _ (Nat.le_trans hi2 hn); omega,hb6,by have h9:=hl7; have h8:s1.2.2.2.2.2.2 * 1 ≤ 10000 * 1:=Nat.mul_le_mul_right _ (Nat.le_trans hi2 hn); omega,hb7,by simp,hB26.push hn,rfl,rfl,rfl⟩
theorem ap_ApartSessions (p:Option Addr) (n c:Nat) (zs:List ((List SessD) × (Option Addr × Nat))) (hzn:n = zs.length) (hz8:zs.length ≤ 8) (hx : ∀ z ∈ zs,z.1.length ≤ 10000 ∧ ∀ y ∈ z.1,Q80 y):Q1v Tryz.prog 18 [.slice p n c] [] [.own 32 1 Q2o.pair (.slice p n c) zs,QR Q2o (zs.drop 0) none] (fun v Φr Hr=>∃ (r6:List Twin) (r7:List Twin) (r19:List Twin) (r26:List Twin),v = .bool true ∧ Φr = [] ∧ Hr = [Qk 149 3 r6,Qk 61 3 r7,Qk 27 4 r19,Qk 35 6 r26]):=by
 subst hzn
 refine Qx Tryz.func18 rfl Tryz.ntmps18 rfl (S:=[_]) rfl (fun C=>(Q4 (Q1 (wP rfl (Q3 (Q2 (Q4 (Q1 (Q2t rfl rfl rfl (Q0 rfl) rfl tZ_109 tP_109 rfl (out:=[_,_,_,_,_,_,_,_,_,_,_,_,_,_,_,_,_,_,_,_,_,_,_,_,_,_,_,_,_]) rfl (wB rfl (fun g6=>(wP rfl (Q3 (Q2 (Q5 [3,2,0] (S':=[_,_,_]) rfl ?_)))))))))))))))
 refine Q4 (Q4 (Q1 (wP rfl (Q3 (Q2 (Qc (Q6D [Qk 35 6 [],.blk g6 [.slice none 0 0,.slice none 0 0,.slice none 0 0,.slice none 0 0,.slice none 0 0,.slice none 0 0,.slice none 0 0,.slice none 0 0,.slice none 0 0,.slice none 0 0,.slice none 0 0,.slice none 0 0,.slice none 0 0,.slice none 0 0,.slice none 0 0,.slice none 0 0,.slice none 0 0,.slice none 0 0,.slice none 0 0,.slice none 0 0,.slice none 0 0,.slice none 0 0,.slice none 0 0,.slice none 0 0,.slice none 0 0,.slice none 0 0,.slice none 0 0,.slice none 0 0,.slice none 0 0] 109,.own 32 1 Q2o.pair (.slice p zs.length c) zs,QR Q2o (zs.drop 0) none] (fun _ h=>h.flNil 35 6) (Q5q 32 1 QF (Q6D [Qk 27 4 [],.own 32 1 QF (.slice none 0 0) [],Qk 35 6 [],.blk g6 [.slice none 0 0,.slice none 0 0,.slice none 0 0,.slice none 0 0,.slice none 0 0,.slice none 0 0,.slice none 0 0,.slice none 0 0,.slice none 0 0,.slice none 0 0,.slice none 0 0,.slice none 0 0,.slice none 0 0,.slice none 0 0,.slice none 0 0,.slice none 0 0,.slice none 0 0,.slice none 0 0,.slice none 0 0,.slice none 0 0,.slice none 0 0,.slice none 0 0,.slice none 0 0,.slice none 0 0,.slice none 0 0,.slice none 0 0,.slice none 0 0,.slice none 0 0,.slice none 0 0] 109,.own 32 1 Q2o.pair (.slice p zs.length c) zs,QR Q2o (zs.drop 0) none] (fun _ h=>h.flNil 27 4) (Q5q 77 1 QF (Q6D [Qk 61 3 [],.own 77 1 QF (.slice none 0 0) [],Qk 27 4 [],.own 32 1 QF (.slice none 0 0) [],Qk 35 6 [],.blk g6 [.slice none 0 0,.slice none 0 0,.slice none 0 0,.slice none 0 0,.slice none 0 0,.slice none 0 0,.slice none 0 0,.slice none 0 0,.slice none 0 0,.slice none 0 0,.slice none 0 0,.slice none 0 0,.slice none 0 0,.slice none 0 0,.slice none 0 0,.slice none 0 0,.slice none 0 0,.slice none 0 0,.slice none 0 0,.slice none 0 0,.slice none 0 0,.slice none 0 0,.slice none 0 0,.slice none 0 0,.slice none 0 0,.slice none 0 0,.slice none 0 0,.slice none 0 0,.slice none 0 0] 109,.own 32 1 Q2o.pair (.slice p zs.length c) zs,QR Q2o (zs.drop 0) none] (fun _ h=>h.flNil 61 3) (Q5q 24 1 QF (Q6D [Qk 149 3 [],.own 24 1 QF (.slice none 0 0) [],Qk 61 3 [],.own 77 1 QF (.slice none 0 0) [],Qk 27 4 [],.own 32 1 QF (.slice none 0 0) [],Qk 35 6 [],.blk g6 [.slice none 0 0,.slice none 0 0,.slice none 0 0,.slice none 0 0,.slice none 0 0,.slice none 0 0,.slice none 0 0,.slice none 0 0,.slice none 0 0,.slice none 0 0,.slice none 0 0,.slice none 0 0,.slice none 0 0,.slice none 0 0,.slice none 0 0,.slice none 0 0,.slice none 0 0,.slice none 0 0,.slice none 0 0,.slice none 0 0,.slice none 0 0,.slice none 0 0,.slice none 0 0,.slice none 0 0,.slice none 0 0,.slice none 0 0,.slice none 0 0,.slice none 0 0,.slice none 0 0] 109,.own 32 1 Q2o.pair (.slice p zs.length c) zs,QR Q2o (zs.drop 0) none] (fun _ h=>h.flNil 149 3) ?_)))))))))))))
 refine Q5q 25 1 QF (QI (σ:=Option Addr × Nat × List Hdr × Option Addr × Nat × List Hdr × Option Addr × Nat × List Hdr × Option Addr × Nat × List Hdr × Nat) (fun s=>s.2.2.2.2.2.2.2.2.2.2.2.2 ≤ zs.length ∧ s.2.2.1.length ≤ s.2.2.2.2.2.2.2.2.2.2.2.2 * 100010000 ∧ Bd s.2.2.1 ∧ s.2.2.2.2.2.1.length ≤ s.2.2.2.2.2.2.2.2.2.2.2.2 * 10000 ∧ Bd s.2.2.2.2.2.1 ∧ s.2.2.2.2.2.2.2.2.1.length ≤ s.2.2.2.2.2.2.2.2.2.2.2.2 * 0 ∧ Bd s.2.2.2.2.2.2.2.2.1 ∧ s.2.2.2.2.2.2.2.2.2.2.2.1.length ≤ s.2.2.2.2.2.2.2.2.2.2.2.2 * 1 ∧ Bd s.2.2.2.2.2.2.2.2.2.2.2.1) (fun s=>zs.length - s.2.2.2.2.2.2.2.2.2.2.2.2) (fun s=>[(4,.int .i64 ((s.2.2.2.2.2.2.2.2.2.2.2.2:Nat):Int)),(3,.pointer (some ⟨g6,0,none⟩)),(2,.bool false),(0,.slice p zs.length c)]) (fun s=>[]) (fun s=>[.own 25 1 QF (.slice s.1 s.2.2.1.length s.2.1) s.2.2.1,Qk 149 3 (s.2.2.1.map Q1c),.own 24 1 QF (.slice s.2.2.2.1 s.2.2.2.2.2.1.length s.2.2.2.2.1) s.2.2.2.2.2.1,Qk 61 3 (s.2.2.2.2.2.1.map Q1c),.own 77 1 QF (.slice s.2.2.2.2.2.2.1 s.2.2.2.2.2.2.2.2.1.length s.2.2.2.2.2.2.2.1) s.2.2.2.2.2.2.2.2.1,Qk 27 4 (s.2.2.2.2.2.2.2.2.1.map Q1c),.own 32 1 QF (.slice s.2.2.2.2.2.2.2.2.2.1 s.2.2.2.2.2.2.2.2.2.2.2.1.length s.2.2.2.2.2.2.2.2.2.2.1) s.2.2.2.2.2.2.2.2.2.2.2.1,Qk 35 6 (s.2.2.2.2.2.2.2.2.2.2.2.1.map Q1c),.blk g6 [.slice none 0 0,.slice none 0 0,.slice none 0 0,.slice none 0 0,.slice none 0 0,.slice none 0 0,.slice s.1 s.2.2.1.length s.2.1,.slice s.2.2.2.1 s.2.2.2.2.2.1.length s.2.2.2.2.1,.slice none 0 0,.slice none 0 0,.slice none 0 0,.slice none 0 0,.slice none 0 0,.slice none 0 0,.slice none 0 0,.slice none 0 0,.slice none 0 0,.slice none 0 0,.slice none 0 0,.slice s.2.2.2.2.2.2.1 s.2.2.2.2.2.2.2.2.1.length s.2.2.2.2.2.2.2.1,.slice none 0 0,.slice none 0 0,.slice none 0 0,.slice none 0 0,.slice none 0 0,.slice none 0 0,.slice s.2.2.2.2.2.2.2.2.2.1 s.2.2.2.2.2.2.2.2.2.2.2.1.length s.2.2.2.2.2.2.2.2.2.2.1,.slice none 0 0,.slice none 0 0] 109,.own 32 1 Q2o.pair (.slice p zs.length c) zs,QR Q2o (zs.drop s.2.2.2.2.2.2.2.2.2.2.2.2) none]) (none,0,[],none,0,[],none,0,[],none,0,[],0) ⟨Nat.zero_le _,Nat.zero_le _,Bd.nil,Nat.zero_le _,Bd.nil,Nat.zero_le _,Bd.nil,Nat.zero_le _,Bd.nil⟩ [4,3,2,0] rfl (asK [] rfl) rfl (fun s1 oks1=>(Q4 (Q4 (Q1 (wP rfl (wP rfl (wN rfl Q5s (wP rfl (Q3 (Q2 (Q5 [10,4,3,2,0] (S':=[_,_,_,_,_]) rfl ?_))))))))))))
 refine Qm rfl (fun h10=>?_) (fun h10=>?_)
 ·
  replace h10:=of_decide_eq_true h10
  obtain ⟨hi2,hl6,hb6,hl7,hb7,hl19,hb19,hl26,hb26⟩:=oks1
  have hi1:s1.2.2.2.2.2.2.2.2.2.2.2.2 < zs.length:=by omega
  obtain ⟨z1,hz1⟩ : ∃ z,zs[s1.2.2.2.2.2.2.2.2.2.2.2.2]? = some z:=⟨_,List.getElem?_eq_getElem hi1⟩
  have hxs:=hx z1 (List.mem_of_getElem? hz1)
  refine Qj (Q2 (Q4 (Qc (Q1 (wP rfl (wP rfl (wP rfl (Q1r 9 s1.2.2.2.2.2.2.2.2.2.2.2.2 rfl rfl rfl (Q0 rfl) rfl rfl rfl rfl rfl hi1 Q5s Q1L (fun g16 eg16=>?_)))))))))
  subst eg16
  refine QU Q4W 9 s1.2.2.2.2.2.2.2.2.2.2.2.2 0 rfl rfl rfl (Q0 rfl) rfl rfl rfl hz1 Q1L Q3Q (v:=fun _=>.slice z1.2.1 z1.1.length z1.2.2) (fun _=>rfl) (fun _=>rfl) (fun _ _=>(Qv [Qi Qe 35 6 (.slice z1.2.1 z1.1.length z1.2.2) z1.1,.own 25 1 QF (.slice s1.1 s1.2.2.1.length s1.2.1) s1.2.2.1,Qk 149 3 (s1.2.2.1.map Q1c),.own 24 1 QF (.slice s1.2.2.2.1 s1.2.2.2.2.2.1.length s1.2.2.2.2.1) s1.2.2.2.2.2.1,Qk 61 3 (s1.2.2.2.2.2.1.map Q1c),.own 77 1 QF (.slice s1.2.2.2.2.2.2.1 s1.2.2.2.2.2.2.2.2.1.length s1.2.2.2.2.2.2.2.1) s1.2.2.2.2.2.2.2.2.1,Qk 27 4 (s1.2.2.2.2.2.2.2.2.1.map Q1c),.own 32 1 QF (.slice s1.2.2.2.2.2.2.2.2.2.1 s1.2.2.2.2.2.2.2.2.2.2.2.1.length s1.2.2.2.2.2.2.2.2.2.2.1) s1.2.2.2.2.2.2.2.2.2.2.2.1,Qk 35 6 (s1.2.2.2.2.2.2.2.2.2.2.2.1.map Q1c),.blk g6 [.slice none 0 0,.slice none 0 0,.slice none 0 0,.slice none 0 0,.slice none 0 0,.slice none 0 0,.slice s1.1 s1.2.2.1.length s1.2.1,.slice s1.2.2.2.1 s1.2.2.2.2.2.1.length s1.2.2.2.2.1,.slice none 0 0,.slice none 0 0,.slice none 0 0,.slice none 0 0,.slice none 0 0,.slice none 0 0,.slice none 0 0,.slice none 0 0,.slice none 0 0,.slice none 0 0,.slice none 0 0,.slice s1.2.2.2.2.2.2.1 s1.2.2.2.2.2.2.2.2.1.length s1.2.2.2.2.2.2.2.1,.slice none 0 0,.slice none 0 0,.slice none 0 0,.slice none 0 0,.slice none 0 0,.slice none 0 0,.slice s1.2.2.2.2.2.2.2.2.2.1 s1.2.2.2.2.2.2.2.2.2.2.2.1.length s1.2.2.2.2.2.2.2.2.2.2.1,.slice none 0 0,.slice none 0 0] 109,.own 32 1 Q2o.pair (.slice (some ⟨g16,0,none⟩) zs.length c) zs,QR Q2o (zs.drop (s1.2.2.2.2.2.2.2.2.2.2.2.2 + 1)) none] (fun _ h=>h.bagUncons 10 rfl hz1) (wC [9,1,2,3,4,7,8,0] [5,6,10,11] rfl fn_43 rfl (ap_putSessions _ s1.1 s1.2.1 s1.2.2.1 s1.2.2.2.1 s1.2.2.2.2.1 s1.2.2.2.2.2.1 s1.2.2.2.2.2.2.1 s1.2.2.2.2.2.2.2.1 s1.2.2.2.2.2.2.2.2.1 s1.2.2.2.2.2.2.2.2.2.1 s1.2.2.2.2.2.2.2.2.2.2.1 s1.2.2.2.2.2.2.2.2.2.2.2.1 z1.2.1 z1.2.2 z1.1 (by omega) hb6 (by omega) hb7 (by omega) hb26 hxs.1 hxs.2) (asK [] rfl) rfl (H':=[_,_,_,_]) rfl ?_)))
  rintro _ _ _ ⟨q6_1,d6_1,k6_1,q7_1,d7_1,k7_1,q26_1,d26_1,k26_1,hl6_1,hb6_1,hl7_1,hb7_1,hl26_1,hb26_1,rfl,rfl,rfl⟩
  refine Q3 (Qa (Q2 (Q1 (wP rfl (wP rfl (Qr (d:=12) (v':=.int .i64 ((s1.2.2.2.2.2.2.2.2.2.2.2.2 + 1:Nat):Int)) (S':=[_,_,_,_,_,_,_,_,_,_,_,_]) rfl rfl (Qw (a:=s1.2.2.2.2.2.2.2.2.2.2.2.2) (b:=1) (by omega)) (Qs (S':=[_,_,_,_,_,_,_,_,_,_,_,_]) rfl rfl rfl rfl rfl (Q3 (QE [1,2,3,4,7,8,5,6,0,9,10] rfl (H':=[_,_,_,_,_,_,_,_,_,_,_]) rfl ?_)))))))))
  refine Q16 (q6_1,d6_1,k6_1,q7_1,d7_1,k7_1,s1.2.2.2.2.2.2.1,s1.2.2.2.2.2.2.2.1,s1.2.2.2.2.2.2.2.2.1,q26_1,d26_1,k26_1,s1.2.2.2.2.2.2.2.2.2.2.2.2 + 1) (by show zs.length - (s1.2.2.2.2.2.2.2.2.2.2.2.2 + 1) < zs.length - s1.2.2.2.2.2.2.2.2.2.2.2.2; omega) ⟨by show s1.2.2.2.2.2.2.2.2.2.2.2.2 + 1 ≤ _; omega,by have:=hl6_1; show List.length (k6_1) ≤ (s1.2.2.2.2.2.2.2.2.2.2.2.2 + 1) * _; omega,hb6_1,by have:=hl7_1; show List.length (k7_1) ≤ (s1.2.2.2.2.2.2.2.2.2.2.2.2 + 1) * _; omega,hb7_1,by have:=hl19; show List.length (s1.2.2.2.2.2.2.2.2.1) ≤ (s1.2.2.2.2.2.2.2.2.2.2.2.2 + 1) * _; omega,hb19,by have:=hl26_1; show List.length (k26_1) ≤ (s1.2.2.2.2.2.2.2.2.2.2.2.2 + 1) * _; omega,hb26_1⟩ [4,3,2,0] rfl (asK [] rfl) rfl
 ·
  replace h10:=of_decide_eq_false h10
  obtain ⟨hi2,hl6,hb6,hl7,hb7,hl19,hb19,hl26,hb26⟩:=oks1
  refine QH (Q8 (Q8 (Qh (Q2 (Q4 (Q1 (wP rfl (wC [8,0,1,2,3,4,5,6,7] [9,10] rfl fn_44 rfl (ap_apart _ s1.1 s1.2.1 s1.2.2.1 s1.2.2.2.1 s1.2.2.2.2.1 s1.2.2.2.2.2.1 s1.2.2.2.2.2.2.1 s1.2.2.2.2.2.2.2.1 s1.2.2.2.2.2.2.2.2.1 s1.2.2.2.2.2.2.2.2.2.1 s1.2.2.2.2.2.2.2.2.2.2.1 s1.2.2.2.2.2.2.2.2.2.2.2.1 (by omega) hb6 (by omega) hb7 (by omega) hb19 (by omega) hb26) (asK [] rfl) rfl (H':=[_,_]) rfl ?_))))))))
  rintro _ _ _ ⟨r6,r7,r19,r26,hE6,hE7,hE19,hE26,rfl,rfl,rfl⟩
  refine Qs (S':=[_,_,_,_,_,_]) rfl rfl rfl rfl rfl (Q3 (Q2 (Q5 [2,10,4,3,0] (S':=[_,_,_,_,_]) rfl (Qn (Qp (Hr:=[Qk 149 3 r6,Qk 61 3 r7,Qk 27 4 r19,Qk 35 6 r26]) [0,1,2,3] Tryz.results18 (Qd rfl) ?_ (asK [] rfl) rfl rfl (.inl rfl))))))
  exact ⟨_,_,_,_,rfl,rfl,rfl⟩
theorem QK (N:Nat) (a0:Int) (qp0:Option Addr) (qc1:Nat) (l1:List SessD) (a2:Bool) (qp2:Option Addr) (qc3:Nat) (l3:List Ropewalklaw27_DoD) (o0:Bool) (hm:QY N a0 l1 a2 l3 = some o0):Q1v Tryz.prog 4 [.int .i64 a0,.slice qp0 l1.length qc1,.bool a2,.slice qp2 l3.length qc3] [.sli 6 Qt qp0 qc1 l1,.sli 7 Q1u qp2 qc3 l3] [] (fun v Φr Hr=>v = .bool o0 ∧ Φr = [] ∧ Hr = []):=by
 unfold QY at hm
 refine Qx Tryz.func4 rfl Tryz.ntmps4 rfl (S:=[_,_,_,_]) rfl (fun C=>(Q4 (Q1 (wP rfl (Q3 (Q2 (Q5 [0,1,2,3] (S':=[_,_,_,_]) rfl (Q4 ?_))))))))
 obtain ⟨bj_1,hm,hLj_1⟩:=Q2F hm
 refine Q14 (σ:=Unit) (fun _=>bj_1 = .inl ()) (fun _=>[(0,.int .i64 a0),(1,.slice qp0 l1.length qc1),(2,.bool a2),(3,.slice qp2 l3.length qc3)]) (fun _=>[.sli 6 Qt qp0 qc1 l1,.sli 7 Q1u qp2 qc3 l3]) (fun _=>[]) ?_ ?_
 ·
  refine Q4 (Q1 (wP rfl (Q3 (Q2 (Qc (QI (σ:=Nat × Nat) (fun (nu1,u1_9)=>Q2s (Q2p N l1) nu1 u1_9 = some bj_1) (fun (nu1,u1_9)=>nu1) (fun (nu1,u1_9)=>[(9,.int .i64 ((u1_9:Nat):Int)),(0,.int .i64 a0),(1,.slice qp0 l1.length qc1),(2,.bool a2),(3,.slice qp2 l3.length qc3)]) (fun (nu1,u1_9)=>[.sli 6 Qt qp0 qc1 l1,.sli 7 Q1u qp2 qc3 l3]) (fun (nu1,u1_9)=>[]) (N,0) hm [9,0,1,2,3] rfl (asK [0,1] rfl) rfl (fun s_ hm=>?_)))))))
  obtain ⟨nu1,u1_9⟩:=s_
  try dsimp only at hm ⊢
  obtain ⟨mu1,bu1,hnu1,hq,hLu1⟩:=Q1m hm
  clear hm
  subst hnu1
  replace hm:=hq
  clear hq
  unfold Q2p at hm
  try dsimp only at hm
  refine Q4 (Q4 (Q1 (wP rfl (wP rfl (wN rfl QB (wP rfl (Qr (d:=23) (v':=.bool (decide (u1_9 < l1.length))) (S':=[_,_,_,_,_,_,_,_]) rfl rfl (Q3a (a:=u1_9) (b:=l1.length)) (Q3 (Q2 (Q5 [23,9,0,1,2,3] (S':=[_,_,_,_,_,_]) rfl ?_))))))))))
  refine Qm rfl (fun hb23=>?_) (fun hb23=>?_)
  ·
   replace hm:=QQ hm hb23
   refine Q5 [9,0,1,2,3] (S':=[_,_,_,_,_]) rfl (Qj (Q2 (Q4 (Qc (Q4 ?_)))))
   obtain ⟨bj_2,hm,hLj_2⟩:=Q6 hm
   refine Q14 (σ:=Bool) (fun j_2_35=>bj_2 = j_2_35) (fun j_2_35=>[(9,.int .i64 ((u1_9:Nat):Int)),(0,.int .i64 a0),(1,.slice qp0 l1.length qc1),(2,.bool a2),(3,.slice qp2 l3.length qc3),(35,.bool j_2_35)]) (fun j_2_35=>[.sli 6 Qt qp0 qc1 l1,.sli 7 Q1u qp2 qc3 l3]) (fun j_2_35=>[]) ?_ ?_
   ·
    refine Q1 (wP rfl (wP rfl (Qr (d:=27) (v':=.bool (decide (40 < u1_9))) (S':=[_,_,_,_,_,_]) rfl rfl (natgt (a:=u1_9) (b:=40)) (wP rfl ?_))))
    refine QA (d:=28) (S':=[_,_,_,_,_,_,_]) rfl rfl (fun hs28=>?_) (fun hs28=>?_)
    ·
     replace hm:=QQ hm hs28
     refine wO rfl (wO rfl (wO rfl (wO rfl (wO rfl (wO rfl (wP rfl (Q3 ?_)))))))
     have hE:=(Option.some.inj hm).symm
     refine Ql true hE [9,0,1,2,3,35] rfl (asK [0,1] rfl) rfl
    ·
     replace hm:=QP hm hs28
     refine wP rfl (wP rfl ?_)
     obtain ⟨x31,hx31,hm⟩:=Q6 hm
     refine Q3A 0 u1_9 rfl rfl rfl (Q0 rfl) rfl rfl rfl rfl rfl hx31 QB QN (fun b31 q31 cs31 hlx31=>(Q4L Q17 1 rfl (fun r31 er31 _=>?_)))
     subst er31
     refine wF rfl Q4b (Q4M 2 2 rfl rfl rfl (Q0 rfl) rfl rfl rfl (cs:=[_,_,_,_]) rfl Q11 Q1W rfl rfl ?_)
     obtain ⟨v34,hc34,hm⟩:=Q6 hm
     refine wC [] [] rfl fn_7 rfl (Q6w N x31.r.err x31.r.num r31.1.1 r31.1.2 x31.r.facts r31.2.1 r31.2.2 x31.r.said _ hc34) (asK [0,1] rfl) rfl (H':=[]) rfl ?_
     rintro _ _ _ ⟨rfl,rfl,rfl⟩
     refine wP rfl (Q3 ?_)
     have hE:=(Option.some.inj hm).symm
     refine Ql v34 hE [9,0,1,2,3,35] rfl (asK [4,5] rfl) rfl
   ·
    rintro j_2_35 hE
    try dsimp only
    have hm:=hLj_2
    rw [hE] at hm
    refine Qm rfl (fun hb35=>?_) (fun hb35=>?_)
    ·
     replace hm:=QQ hm hb35
     refine Q5 [] (S':=[]) rfl (Q4 (Q1 ?_))
     obtain ⟨v36,hc36,hm⟩:=Q6 hm
     refine wC [] [] rfl fn_6 rfl (Q3X N _ hc36) (asK [] rfl) rfl (H':=[]) rfl ?_
     rintro _ _ _ ⟨rfl,rfl,rfl⟩
     refine wP rfl (Q3 (Q2 (Q5 [8] (S':=[_]) rfl (Qn (Qu (Qb (Qb (Qu (Qb ?_)))))))))
     have hE:=(Option.some.inj hm).symm
     replace hE:=Qy hLu1 hE
     replace hE:=Qy hLj_1 hE
     replace hE:=hE.symm
     subst hE
     refine Qp (Hr:=[]) [] Tryz.results4 (Qd rfl) ⟨rfl,rfl,rfl⟩ (asK [] rfl) rfl rfl (.inl rfl)
    ·
     replace hm:=QP hm hb35
     refine Q5 [9,0,1,2,3] (S':=[_,_,_,_,_]) rfl (Qj (Qa (Q2 (Q1 (wP rfl (wP rfl ?_))))))
     obtain ⟨hg25,hm⟩:=Qq hm
     refine Qr (d:=25) (v':=.int .i64 ((u1_9 + 1:Nat):Int)) (S':=[_,_,_,_,_,_]) rfl rfl (Qw (a:=u1_9) (b:=1) hg25) (Qs (S':=[_,_,_,_,_,_]) rfl rfl rfl rfl rfl (Q3 ?_))
     have hE:=(Option.some.inj hm).symm
     replace hE:=QZ hLu1 hE
     refine Q1n (_,u1_9 + 1) (Nat.lt_succ_self _) hE [9,0,1,2,3] rfl (asK [0,1] rfl) rfl
  ·
   replace hm:=QP hm hb23
   refine Q5 [0,1,2,3] (S':=[_,_,_,_]) rfl (QH (Q8 (Q8 (Qh ?_))))
   have hE:=(Option.some.inj hm).symm
   replace hE:=Qy hLu1 hE
   refine Ql () hE [0,1,2,3] rfl (asK [0,1] rfl) rfl
 ·
  rintro _ hE
  try dsimp only
  have hm:=QZ hLj_1 hE
  try dsimp only at hm
  refine Q4 (Q1 ?_)
  obtain ⟨_,hc37,hm⟩:=Q6 hm
  try dsimp only at hm
  refine wC [] [] rfl fn_8 rfl (Q8l N  hc37) (asK [] rfl) rfl (H':=[]) rfl ?_
  rintro _ _ _ ⟨c37_0,rfl,rfl,rfl⟩
  obtain ⟨_,hc38,hm⟩:=Q6 hm
  try dsimp only at hm
  refine wC [] [0] rfl fn_9 rfl (Q8m N  hc38) (asK [] rfl) rfl (H':=[_]) rfl ?_
  rintro _ _ _ ⟨c38_0,rfl,rfl,rfl⟩
  refine wP rfl (wP rfl (Q3 (Q2 (Q5 [11,10,0,1,2,3] (S':=[_,_,_,_,_,_]) rfl (Q4 ?_)))))
  obtain ⟨bj_3,hm,hLj_3⟩:=Q2F hm
  unfold Q2w at hm
  refine Q14 (σ:=(List SessD) × Int × (List SessD) × Int × Nat × (Option Addr) × Nat × Nat × Nat × (Option Addr) × Nat × Nat) (fun (j_3_11_f0_l,j_3_11_f1,j_3_10_f0_l,j_3_10_f1,j_3_11_g,j_3_11_f0_p,j_3_11_f0_c,j_3_11_f0_n,j_3_10_g,j_3_10_f0_p,j_3_10_f0_c,j_3_10_f0_n)=>bj_3 = .inl (j_3_11_f0_l,j_3_11_f1,j_3_10_f0_l,j_3_10_f1)) (fun (j_3_11_f0_l,j_3_11_f1,j_3_10_f0_l,j_3_10_f1,j_3_11_g,j_3_11_f0_p,j_3_11_f0_c,j_3_11_f0_n,j_3_10_g,j_3_10_f0_p,j_3_10_f0_c,j_3_10_f0_n)=>[(11,.pointer (some ⟨j_3_11_g,0,none⟩)),(10,.pointer (some ⟨j_3_10_g,0,none⟩)),(3,.slice qp2 l3.length qc3)]) (fun (j_3_11_f0_l,j_3_11_f1,j_3_10_f0_l,j_3_10_f1,j_3_11_g,j_3_11_f0_p,j_3_11_f0_c,j_3_11_f0_n,j_3_10_g,j_3_10_f0_p,j_3_10_f0_c,j_3_10_f0_n)=>[.sli 7 Q1u qp2 qc3 l3]) (fun (j_3_11_f0_l,j_3_11_f1,j_3_10_f0_l,j_3_10_f1,j_3_11_g,j_3_11_f0_p,j_3_11_f0_c,j_3_11_f0_n,j_3_10_g,j_3_10_f0_p,j_3_10_f0_c,j_3_10_f0_n)=>[.blk j_3_11_g [.slice j_3_11_f0_p j_3_11_f0_n j_3_11_f0_c,.int .i64 j_3_11_f1] 67,Qi Qe 35 6 (.slice j_3_11_f0_p j_3_11_f0_n j_3_11_f0_c) j_3_11_f0_l,.blk j_3_10_g [.slice j_3_10_f0_p j_3_10_f0_n j_3_10_f0_c,.int .i64 j_3_10_f1] 65,Qi Qe 35 6 (.slice j_3_10_f0_p j_3_10_f0_n j_3_10_f0_c) j_3_10_f0_l]) ?_ ?_
  ·
   refine Q4 (Q1 (wP rfl (Q3 (Q2 (Q5 [39,11,10,0,1,3] (S':=[_,_,_,_,_,_]) rfl ?_)))))
   refine Qm rfl (fun hb39=>?_) (fun hb39=>?_)
   ·
    replace hm:=QQ hm hb39
    refine Q5 [0,1,3] (S':=[_,_,_]) rfl (Q4 (Q1 (wP rfl ?_)))
    obtain ⟨v41,hc41,hm⟩:=Q6 hm
    refine wC [] [0,1] rfl fn_10 rfl (Q76 N qp0 qc1 l1 _ hc41) (asK [0] rfl) rfl (H':=[_,_]) rfl ?_
    rintro _ _ _ ⟨p41_0,c41_1,c41_2,rfl,rfl,rfl⟩
    refine wP rfl (Q3 (Q2 (Q5 [12,0,1,3] (S':=[_,_,_,_]) rfl (Q4 (Q1 (wP rfl (wP rfl (QG 0 rfl (fun hzt4 _=>?_)))))))))
    subst hzt4
    obtain ⟨hzl4,hm⟩:=Qq hm
    refine Q4q 0 (v':=.slice p41_0 (((v41.map Q3E).take l1.length).length) c41_1) rfl (by rw [Q5L hzl4]) (Q4q 2 (v':=.slice p41_0 (((v41.map Q3E).take l1.length).length) c41_1) rfl (by rw [Q5L hzl4]) ?_)
    obtain ⟨_ | v45,hc45,hm⟩:=Q6 hm
    ·
     try dsimp only at hm
     refine Q3h [] [0,1,2] [0] rfl rfl rfl (Q0 rfl) rfl rfl fn_11 rfl (w_session_Of_s0 N a0 p41_0 c41_1 ((v41.map Q3E).take l1.length) hc45) (fun F w hφ hh=>(QD (Q7V (Q7T Q8H (hh _ (QS (k:=0) rfl)) (fun _ h=>h) (fun _ h=>h)) l1.length) Q1f)) (fun _ _ _ hR=>by obtain ⟨rfl,rfl,rfl⟩:=hR; exact ⟨rfl,(fun _ h=>Q2h h)⟩) rfl rfl (H':=[_,_,_]) rfl ?_
     rintro _ _ _ ⟨rfl,rfl,rfl⟩
     refine wP rfl (wP rfl (wP rfl (wP rfl (wP rfl (Q3 (Q2 (Q5 [14,13,12,0,1,3] (S':=[_,_,_,_,_,_]) rfl (Q4 (Q1 (wP rfl (wP rfl ?_)))))))))))
     obtain ⟨_ | v51,hc51,hm⟩:=Q6 hm
     ·
      try dsimp only at hm
      refine wC [] [0,1,2] rfl fn_12 rfl (Q6P N a0 qp0 qc1 l1 hc51) (asK [0] rfl) rfl (H':=[_,_,_]) rfl ?_
      rintro _ _ _ ⟨rfl,rfl,rfl⟩
      refine wP rfl (wP rfl (wP rfl (wP rfl (wP rfl (Q3 (Q2 (Q5 [16,15,14,13,12,1,3] (S':=[_,_,_,_,_,_,_]) rfl (Q4 (Q4 ?_)))))))))
      obtain ⟨bj_6,hm,hLj_6⟩:=Q6 hm
      refine Q14 (σ:=Bool) (fun j_6_69=>bj_6 = j_6_69) (fun j_6_69=>[(15,.pointer none),(14,.int .i64 4),(13,.pointer none),(12,.slice p41_0 (((v41.map Q3E).take l1.length).length) c41_1),(3,.slice qp2 l3.length qc3),(69,.bool j_6_69)]) (fun j_6_69=>[.sli 7 Q1u qp2 qc3 l3]) (fun j_6_69=>[Qi Q18 35 6 (.slice p41_0 v41.length c41_1) v41]) ?_ ?_
      ·
       refine Q1 (wP rfl (wP rfl (wP rfl (Qr (d:=56) (v':=.bool false) (S':=[_,_,_,_,_,_,_,_,_]) rfl rfl rfl (wP rfl (wP rfl (wP rfl ?_)))))))
       obtain ⟨v60,hc60,hm⟩:=Q6 hm
       refine Q3h [] [0,1,2] [0] rfl rfl rfl (Q0 rfl) rfl rfl fn_13 rfl (Q5r N p41_0 c41_1 v41 (((v41.map Q3E).take l1.length).length) qp0 qc1 l1 _ hc60) (fun F w hφ hh=>(QD (Q1M Q8u (hh _ (QS (k:=0) rfl)) (fun _ h=>h) (fun _ h=>h)) (QD (hφ _ (QS (k:=0) rfl)) Q1f))) (fun _ _ _ hR=>by obtain ⟨rfl,rfl,rfl⟩:=hR; exact ⟨rfl,(fun _ h=>Q2h h)⟩) rfl rfl (H':=[_,_,_]) rfl ?_
       rintro _ _ _ ⟨rfl,rfl,rfl⟩
       refine wP rfl (wP rfl (wP rfl ?_))
       refine QA (d:=63) (S':=[_,_,_,_,_,_,_,_,_,_,_,_,_,_,_,_]) rfl rfl (fun hs63=>?_) (fun hs63=>?_)
       ·
        replace hm:=QQ hm hs63
        refine wO rfl (wO rfl (wO rfl (wO rfl (wO rfl (wP rfl (Q3 ?_))))))
        have hE:=(Option.some.inj hm).symm
        refine QE [0] rfl (H':=[_]) rfl ?_
        refine Ql true hE [15,14,13,12,3,69] rfl (asK [1] rfl) rfl
       ·
        replace hm:=QP hm hs63
        refine wP rfl (Q7J rfl rfl rfl (Q0 rfl) rfl rfl rfl (neqP tQ_38 _ _ _) (wP rfl (wP rfl (Qr (d:=67) (v':=.bool false) (S':=[_,_,_,_,_,_,_,_,_,_,_,_,_,_,_,_,_,_,_,_]) rfl rfl rfl (Q7J rfl rfl rfl (Q0 rfl) rfl rfl rfl (neqB _ _ false false) (wP rfl (Q3 ?_)))))))
        have hE:=(Option.some.inj hm).symm
        refine QE [0] rfl (H':=[_]) rfl ?_
        refine Ql (false != false) hE [15,14,13,12,3,69] rfl (asK [1] rfl) rfl
      ·
       rintro j_6_69 hE
       try dsimp only
       have hm:=hLj_6
       rw [hE] at hm
       refine Qm rfl (fun hb69=>?_) (fun hb69=>?_)
       ·
        replace hm:=QQ hm hb69
        refine Q5 [] (S':=[]) rfl (Q4 (Q1 (wP rfl (Q3 (Q2 (Qn (Qb (Qb ?_))))))))
        have hE:=(Option.some.inj hm).symm
        replace hE:=Qy hLj_3 hE
        replace hE:=hE.symm
        subst hE
        refine Qp (Hr:=[]) [] Tryz.results4 (Qd rfl) ⟨rfl,rfl,rfl⟩ (asK [] rfl) rfl rfl (.inl rfl)
       ·
        replace hm:=QP hm hb69
        refine Q5 [15,14,13,12,3] (S':=[_,_,_,_,_]) rfl (Qj (Q2 (Q4 (Q4 (Q1 (wP rfl (wP rfl (Qr (d:=71) (v':=.bool true) (S':=[_,_,_,_,_,_]) rfl rfl rfl (wP rfl (wO rfl (wO rfl (wP rfl (Q3 ?_)))))))))))))
        refine Q2 (Q5 [75,15,13,12,3] (S':=[_,_,_,_,_]) rfl (wc_true rfl (Q5 [] (S':=[]) rfl (Q4 (Q1 ?_)))))
        obtain ⟨v76,hc76,hm⟩:=Q6 hm
        refine wC [] [0] rfl fn_6 rfl (Q3X N _ hc76) (asK [] rfl) rfl (H':=[_]) rfl ?_
        rintro _ _ _ ⟨rfl,rfl,rfl⟩
        refine wP rfl (Q3 (Q2 (Q5 [8] (S':=[_]) rfl (Qn (Qb (Qb ?_))))))
        have hE:=(Option.some.inj hm).symm
        replace hE:=Qy hLj_3 hE
        replace hE:=hE.symm
        subst hE
        refine Qp (Hr:=[]) [] Tryz.results4 (Qd rfl) ⟨rfl,rfl,rfl⟩ (asK [] rfl) rfl rfl (.inl rfl)
     ·
      try dsimp only at hm
      refine wC [] [0,1,2] rfl fn_12 rfl (Q6O N a0 qp0 qc1 l1 _ hc51) (asK [0] rfl) rfl (H':=[_,_,_]) rfl ?_
      rintro _ _ _ ⟨c51_0,p51_1,c51_2,c51_3,rfl,rfl,rfl⟩
      refine wP rfl (wP rfl (wP rfl (wP rfl (wP rfl (Q3 (Q2 (Q5 [16,15,14,13,12,1,3] (S':=[_,_,_,_,_,_,_]) rfl (Q4 (Q4 (Q1 (wP rfl (wP rfl (wP rfl ?_)))))))))))))
      refine Qr (d:=56) (v':=.bool true) (S':=[_,_,_,_,_,_,_,_,_]) rfl rfl rfl (wP rfl (wO rfl (wO rfl (wO rfl (wO rfl (wP rfl (wP rfl (wO rfl (wO rfl (wO rfl (wO rfl (wO rfl (wP rfl ?_)))))))))))))
      refine Q3 (Q2 (Q5 [69,15,14,13,12,3] (S':=[_,_,_,_,_,_]) rfl (wc_true rfl (Q5 [] (S':=[]) rfl (Q4 (Q1 (wP rfl (Q3 (Q2 (Qn (Qb (Qb ?_))))))))))))
      have hE:=(Option.some.inj hm).symm
      replace hE:=Qy hLj_3 hE
      replace hE:=hE.symm
      subst hE
      refine Qp (Hr:=[]) [] Tryz.results4 (Qd rfl) ⟨rfl,rfl,rfl⟩ (asK [] rfl) rfl rfl (.inl rfl)
    ·
     try dsimp only at hm
     refine Q3h [] [0,1,2] [0] rfl rfl rfl (Q0 rfl) rfl rfl fn_11 rfl (w_session_Of_s1 N a0 p41_0 c41_1 ((v41.map Q3E).take l1.length) _ hc45) (fun F w hφ hh=>(QD (Q7V (Q7T Q8H (hh _ (QS (k:=0) rfl)) (fun _ h=>h) (fun _ h=>h)) l1.length) Q1f)) (fun _ _ _ hR=>by obtain ⟨_,_,_,rfl,rfl,rfl⟩:=hR; exact ⟨rfl,(Q4B (Q8p) (Q4B (Q68 Q5B) (fun _ h=>Q2h h)))⟩) rfl rfl (H':=[_,_,_]) rfl ?_
     rintro _ _ _ ⟨c45_0,p45_1,c45_2,rfl,rfl,rfl⟩
     refine wP rfl (wP rfl (wP rfl (wP rfl (wP rfl (Q3 (Q2 (Q5 [14,13,12,0,1,3] (S':=[_,_,_,_,_,_]) rfl (Q4 (Q1 (wP rfl (wP rfl ?_)))))))))))
     obtain ⟨_ | v51,hc51,hm⟩:=Q6 hm
     ·
      try dsimp only at hm
      refine wC [] [0,1,2,3,4] rfl fn_12 rfl (Q6P N a0 qp0 qc1 l1 hc51) (asK [0] rfl) rfl (H':=[_,_,_,_,_]) rfl ?_
      rintro _ _ _ ⟨rfl,rfl,rfl⟩
      refine wP rfl (wP rfl (wP rfl (wP rfl (wP rfl (Q3 (Q2 (Q5 [16,15,14,13,12,1,3] (S':=[_,_,_,_,_,_,_]) rfl (Q4 (Q4 (Q1 (wP rfl (wP rfl (wP rfl ?_)))))))))))))
      refine Qr (d:=56) (v':=.bool true) (S':=[_,_,_,_,_,_,_,_,_]) rfl rfl rfl (wP rfl (wO rfl (wO rfl (wO rfl (wO rfl (wP rfl (wP rfl (wO rfl (wO rfl (wO rfl (wO rfl (wO rfl (wP rfl ?_)))))))))))))
      refine Q3 (Q2 (Q5 [69,15,14,13,12,3] (S':=[_,_,_,_,_,_]) rfl (wc_true rfl (Q5 [] (S':=[]) rfl (Q4 (Q1 (wP rfl (Q3 (Q2 (Qn (Qb (Qb ?_))))))))))))
      have hE:=(Option.some.inj hm).symm
      replace hE:=Qy hLj_3 hE
      replace hE:=hE.symm
      subst hE
      refine Qp (Hr:=[]) [] Tryz.results4 (Qd rfl) ⟨rfl,rfl,rfl⟩ (asK [] rfl) rfl rfl (.inl rfl)
     ·
      try dsimp only at hm
      refine wC [] [0,1,2,3,4] rfl fn_12 rfl (Q6O N a0 qp0 qc1 l1 _ hc51) (asK [0] rfl) rfl (H':=[_,_,_,_,_]) rfl ?_
      rintro _ _ _ ⟨c51_0,p51_1,c51_2,c51_3,rfl,rfl,rfl⟩
      refine wP rfl (wP rfl (wP rfl (wP rfl (wP rfl (Q3 (Q2 (Q5 [16,15,14,13,12,1,3] (S':=[_,_,_,_,_,_,_]) rfl (Q4 (Q4 ?_)))))))))
      obtain ⟨bj_8,hm,hLj_8⟩:=Q6 hm
      refine Q14 (σ:=Bool) (fun j_8_69=>bj_8 = j_8_69) (fun j_8_69=>[(15,.pointer (some ⟨c51_0,0,none⟩)),(14,.int .i64 0),(13,.pointer (some ⟨c45_0,0,none⟩)),(12,.slice p41_0 (((v41.map Q3E).take l1.length).length) c41_1),(3,.slice qp2 l3.length qc3),(69,.bool j_8_69)]) (fun j_8_69=>[.sli 7 Q1u qp2 qc3 l3]) (fun j_8_69=>[.blk c51_0 [.slice p51_1 c51_3 c51_2,.int .i64 a0] 67,Qi Qe 35 6 (.slice p51_1 c51_3 c51_2) v51,.blk c45_0 [.slice p45_1 (((v41.map Q3E).take l1.length).length) c45_2,.int .i64 a0] 65,Qi Qe 35 6 (.slice p45_1 (((v41.map Q3E).take l1.length).length) c45_2) v45,Qi Q18 35 6 (.slice p41_0 v41.length c41_1) v41]) ?_ ?_
      ·
       refine Q1 (wP rfl (wP rfl (wP rfl (Qr (d:=56) (v':=.bool false) (S':=[_,_,_,_,_,_,_,_,_]) rfl rfl rfl (wP rfl (wP rfl (wP rfl ?_)))))))
       obtain ⟨v60,hc60,hm⟩:=Q6 hm
       refine Q3h [] [0,1,2,3,4,5,6] [4] rfl rfl rfl (Q0 rfl) rfl rfl fn_13 rfl (Q5r N p41_0 c41_1 v41 (((v41.map Q3E).take l1.length).length) qp0 qc1 l1 _ hc60) (fun F w hφ hh=>(QD (Q1M Q8u (hh _ (QS (k:=0) rfl)) (fun _ h=>h) (fun _ h=>h)) (QD (hφ _ (QS (k:=0) rfl)) Q1f))) (fun _ _ _ hR=>by obtain ⟨rfl,rfl,rfl⟩:=hR; exact ⟨rfl,(fun _ h=>Q2h h)⟩) rfl rfl (H':=[_,_,_,_,_,_,_]) rfl ?_
       rintro _ _ _ ⟨rfl,rfl,rfl⟩
       refine wP rfl (wP rfl (wP rfl ?_))
       refine QA (d:=63) (S':=[_,_,_,_,_,_,_,_,_,_,_,_,_,_,_,_]) rfl rfl (fun hs63=>?_) (fun hs63=>?_)
       ·
        replace hm:=QQ hm hs63
        refine wO rfl (wO rfl (wO rfl (wO rfl (wO rfl (wP rfl (Q3 ?_))))))
        have hE:=(Option.some.inj hm).symm
        refine QE [0,1,2,3,4] rfl (H':=[_,_,_,_,_]) rfl ?_
        refine Ql true hE [15,14,13,12,3,69] rfl (asK [1] rfl) rfl
       ·
        replace hm:=QP hm hs63
        refine wP rfl (Q7J rfl rfl rfl (Q0 rfl) rfl rfl rfl (neqP tQ_38 _ _ _) (wP rfl (wP rfl (Qr (d:=67) (v':=.bool true) (S':=[_,_,_,_,_,_,_,_,_,_,_,_,_,_,_,_,_,_,_,_]) rfl rfl rfl (Q7J rfl rfl rfl (Q0 rfl) rfl rfl rfl (neqB _ _ true true) (wP rfl (Q3 ?_)))))))
        have hE:=(Option.some.inj hm).symm
        refine QE [0,1,2,3,4] rfl (H':=[_,_,_,_,_]) rfl ?_
        refine Ql (true != true) hE [15,14,13,12,3,69] rfl (asK [1] rfl) rfl
      ·
       rintro j_8_69 hE
       try dsimp only
       have hm:=hLj_8
       rw [hE] at hm
       refine Qm rfl (fun hb69=>?_) (fun hb69=>?_)
       ·
        replace hm:=QQ hm hb69
        refine Q5 [] (S':=[]) rfl (Q4 (Q1 (wP rfl (Q3 (Q2 (Qn (Qb (Qb ?_))))))))
        have hE:=(Option.some.inj hm).symm
        replace hE:=Qy hLj_3 hE
        replace hE:=hE.symm
        subst hE
        refine Qp (Hr:=[]) [] Tryz.results4 (Qd rfl) ⟨rfl,rfl,rfl⟩ (asK [] rfl) rfl rfl (.inl rfl)
       ·
        replace hm:=QP hm hb69
        refine Q5 [15,14,13,12,3] (S':=[_,_,_,_,_]) rfl (Qj (Q2 (Q4 (Q4 (Q1 (wP rfl (wP rfl (Qr (d:=71) (v':=.bool false) (S':=[_,_,_,_,_,_]) rfl rfl rfl (wP rfl (wP rfl (Q7J rfl rfl rfl (Q0 rfl) rfl rfl rfl (eqlP tQ_38 _ _ _) (wP rfl (Q3 ?_)))))))))))))
        refine Q2 (Q5 [75,15,13,12,3] (S':=[_,_,_,_,_]) rfl (Q58 rfl (Q5 [15,13,12,3] (S':=[_,_,_,_]) rfl (Qj (Q2 (Q4 (Q1 (wP rfl ?_))))))))
        obtain ⟨v78,hc78,hm⟩:=Q6 hm
        refine wC [4] [0,1,2,3] rfl fn_14 rfl (Q6W N p41_0 v41.length c41_1 v41 (((v41.map Q3E).take l1.length).length) _ hc78) (asK [] rfl) rfl (H':=[_,_,_,_]) rfl ?_
        rintro _ _ _ ⟨rfl,rfl,rfl⟩
        refine Q3 (Q2 (Q5 [15,13,3] (S':=[_,_,_]) rfl (Q1 (wP rfl (wP rfl (wP rfl (wP rfl (Q3 ?_))))))))
        have hE:=(Option.some.inj hm).symm
        refine QE [1,2,3,4] rfl (H':=[_,_,_,_]) rfl ?_
        refine Ql (v51,a0,v45,a0,c51_0,p51_1,c51_2,c51_3,c45_0,p45_1,c45_2,((v41.map Q3E).take l1.length).length) hE [11,10,3] rfl (asK [0] rfl) rfl
   ·
    replace hm:=QP hm hb39
    refine Q5 [11,10,3] (S':=[_,_,_]) rfl (Qj ?_)
    have hE:=(Option.some.inj hm).symm
    refine Q3o [Qi Qe 35 6 (.slice none 0 0) [],_,_] (fun _ h=>h.treeNil Qe 35 6) (Q3o [Qi Qe 35 6 (.slice none 0 0) [],_,_,_] (fun _ h=>h.treeNil Qe 35 6) (QE [2,1,3,0] rfl (H':=[_,_,_,_]) rfl ?_))
    refine Ql ([],1,[],1,c38_0,none,0,0,c37_0,none,0,0) hE [11,10,3] rfl (asK [1] rfl) rfl
  ·
   rintro ⟨j_3_11_f0_l,j_3_11_f1,j_3_10_f0_l,j_3_10_f1,j_3_11_g,j_3_11_f0_p,j_3_11_f0_c,j_3_11_f0_n,j_3_10_g,j_3_10_f0_p,j_3_10_f0_c,j_3_10_f0_n⟩ hE
   try dsimp only
   have hm:=QZ hLj_3 hE
   try dsimp only at hm
   refine Q4 ?_
   obtain ⟨bj_9,hm,hLj_9⟩:=Q2F hm
   refine Q14 (σ:=(List SessD) × Int × (List SessD) × Int × (Option Addr) × Nat × Nat × (Option Addr) × Nat × Nat) (fun (j_9_11_f0_l,j_9_11_f1,j_9_10_f0_l,j_9_10_f1,j_9_11_f0_p,j_9_11_f0_c,j_9_11_f0_n,j_9_10_f0_p,j_9_10_f0_c,j_9_10_f0_n)=>bj_9 = .inl (j_9_11_f0_l,j_9_11_f1,j_9_10_f0_l,j_9_10_f1)) (fun (j_9_11_f0_l,j_9_11_f1,j_9_10_f0_l,j_9_10_f1,j_9_11_f0_p,j_9_11_f0_c,j_9_11_f0_n,j_9_10_f0_p,j_9_10_f0_c,j_9_10_f0_n)=>[(11,.pointer (some ⟨j_3_11_g,0,none⟩)),(10,.pointer (some ⟨j_3_10_g,0,none⟩))]) (fun (j_9_11_f0_l,j_9_11_f1,j_9_10_f0_l,j_9_10_f1,j_9_11_f0_p,j_9_11_f0_c,j_9_11_f0_n,j_9_10_f0_p,j_9_10_f0_c,j_9_10_f0_n)=>[]) (fun (j_9_11_f0_l,j_9_11_f1,j_9_10_f0_l,j_9_10_f1,j_9_11_f0_p,j_9_11_f0_c,j_9_11_f0_n,j_9_10_f0_p,j_9_10_f0_c,j_9_10_f0_n)=>[.blk j_3_11_g [.slice j_9_11_f0_p j_9_11_f0_n j_9_11_f0_c,.int .i64 j_9_11_f1] 67,.own 35 6 Qt (.slice j_9_11_f0_p j_9_11_f0_n j_9_11_f0_c) j_9_11_f0_l,.blk j_3_10_g [.slice j_9_10_f0_p j_9_10_f0_n j_9_10_f0_c,.int .i64 j_9_10_f1] 65,Qi Qe 35 6 (.slice j_9_10_f0_p j_9_10_f0_n j_9_10_f0_c) j_9_10_f0_l]) ?_ ?_
   ·
    refine Q4 (Q1 (wP rfl (Q3 (Q2 (Qc (Q6D [_,.own 35 6 Qt (.slice j_3_11_f0_p j_3_11_f0_n j_3_11_f0_c) j_3_11_f0_l,_,_] (fun _ h=>h.letgo Q2z 1 rfl) (QI (σ:=Nat × Nat × (List SessD) × Int × (List SessD) × Int × (Option Addr) × Nat × Nat × (Option Addr) × Nat × Nat) (fun (nu2,u2_17,u2_11_f0_l,u2_11_f1,u2_10_f0_l,u2_10_f1,u2_11_f0_p,u2_11_f0_c,u2_11_f0_n,u2_10_f0_p,u2_10_f0_c,u2_10_f0_n)=>Q2s (Q2r N l3) nu2 (u2_17,u2_11_f0_l,u2_11_f1,u2_10_f0_l,u2_10_f1) = some bj_9) (fun (nu2,u2_17,u2_11_f0_l,u2_11_f1,u2_10_f0_l,u2_10_f1,u2_11_f0_p,u2_11_f0_c,u2_11_f0_n,u2_10_f0_p,u2_10_f0_c,u2_10_f0_n)=>nu2) (fun (nu2,u2_17,u2_11_f0_l,u2_11_f1,u2_10_f0_l,u2_10_f1,u2_11_f0_p,u2_11_f0_c,u2_11_f0_n,u2_10_f0_p,u2_10_f0_c,u2_10_f0_n)=>[(17,.int .i64 ((u2_17:Nat):Int)),(11,.pointer (some ⟨j_3_11_g,0,none⟩)),(10,.pointer (some ⟨j_3_10_g,0,none⟩)),(3,.slice qp2 l3.length qc3)]) (fun (nu2,u2_17,u2_11_f0_l,u2_11_f1,u2_10_f0_l,u2_10_f1,u2_11_f0_p,u2_11_f0_c,u2_11_f0_n,u2_10_f0_p,u2_10_f0_c,u2_10_f0_n)=>[.sli 7 Q1u qp2 qc3 l3]) (fun (nu2,u2_17,u2_11_f0_l,u2_11_f1,u2_10_f0_l,u2_10_f1,u2_11_f0_p,u2_11_f0_c,u2_11_f0_n,u2_10_f0_p,u2_10_f0_c,u2_10_f0_n)=>[.blk j_3_11_g [.slice u2_11_f0_p u2_11_f0_n u2_11_f0_c,.int .i64 u2_11_f1] 67,.own 35 6 Qt (.slice u2_11_f0_p u2_11_f0_n u2_11_f0_c) u2_11_f0_l,.blk j_3_10_g [.slice u2_10_f0_p u2_10_f0_n u2_10_f0_c,.int .i64 u2_10_f1] 65,Qi Qe 35 6 (.slice u2_10_f0_p u2_10_f0_n u2_10_f0_c) u2_10_f0_l]) (N,0,j_3_11_f0_l,j_3_11_f1,j_3_10_f0_l,j_3_10_f1,j_3_11_f0_p,j_3_11_f0_c,j_3_11_f0_n,j_3_10_f0_p,j_3_10_f0_c,j_3_10_f0_n) hm [17,11,10,3] rfl (asK [0] rfl) rfl (fun s_ hm=>?_))))))))
    obtain ⟨nu2,u2_17,u2_11_f0_l,u2_11_f1,u2_10_f0_l,u2_10_f1,u2_11_f0_p,u2_11_f0_c,u2_11_f0_n,u2_10_f0_p,u2_10_f0_c,u2_10_f0_n⟩:=s_
    try dsimp only at hm ⊢
    obtain ⟨mu2,bu2,hnu2,hq,hLu2⟩:=Q1m hm
    clear hm
    subst hnu2
    replace hm:=hq
    clear hq
    unfold Q2r at hm
    try dsimp only at hm
    refine Q4 (Q4 ?_)
    obtain ⟨bj_10,hm,hLj_10⟩:=Q6 hm
    refine Q14 (σ:=Bool) (fun j_10_88=>bj_10 = j_10_88) (fun j_10_88=>[(17,.int .i64 ((u2_17:Nat):Int)),(11,.pointer (some ⟨j_3_11_g,0,none⟩)),(10,.pointer (some ⟨j_3_10_g,0,none⟩)),(3,.slice qp2 l3.length qc3),(88,.bool j_10_88)]) (fun j_10_88=>[.sli 7 Q1u qp2 qc3 l3]) (fun j_10_88=>[.blk j_3_11_g [.slice u2_11_f0_p u2_11_f0_n u2_11_f0_c,.int .i64 u2_11_f1] 67,.own 35 6 Qt (.slice u2_11_f0_p u2_11_f0_n u2_11_f0_c) u2_11_f0_l,.blk j_3_10_g [.slice u2_10_f0_p u2_10_f0_n u2_10_f0_c,.int .i64 u2_10_f1] 65,Qi Qe 35 6 (.slice u2_10_f0_p u2_10_f0_n u2_10_f0_c) u2_10_f0_l]) ?_ ?_
    ·
     refine Q1 (wP rfl (wP rfl (wN rfl tE_30 (wP rfl (Qr (d:=84) (v':=.bool (decide (u2_17 < l3.length))) (S':=[_,_,_,_,_,_,_]) rfl rfl (Q3a (a:=u2_17) (b:=l3.length)) (wP rfl ?_))))))
     refine QA (d:=85) (S':=[_,_,_,_,_,_,_,_]) rfl rfl (fun hs85=>?_) (fun hs85=>?_)
     ·
      replace hm:=QQ hm hs85
      refine wP rfl (wP rfl (Qr (d:=87) (v':=.bool (decide (u2_17 < 120))) (S':=[_,_,_,_,_,_,_,_,_,_]) rfl rfl (Q3a (a:=u2_17) (b:=120)) (wP rfl (Q3 ?_))))
      have hE:=(Option.some.inj hm).symm
      refine Ql (decide (u2_17 < 120)) hE [17,11,10,3,88] rfl (asK [0] rfl) rfl
     ·
      replace hm:=QP hm hs85
      refine wO rfl (wO rfl (wP rfl (Q3 ?_)))
      have hE:=(Option.some.inj hm).symm
      refine Ql false hE [17,11,10,3,88] rfl (asK [0] rfl) rfl
    ·
     rintro j_10_88 hE
     try dsimp only
     have hm:=hLj_10
     rw [hE] at hm
     refine Qm rfl (fun hb88=>?_) (fun hb88=>?_)
     ·
      replace hm:=QQ hm hb88
      refine Q5 [17,11,10,3] (S':=[_,_,_,_]) rfl (Qj (Q2 (Q4 (Qc (Q4 (Q4 (Q1 (wP rfl (wP rfl ?_)))))))))
      obtain ⟨x93,hx93,hm⟩:=Q6 hm
      refine Q3A 0 u2_17 rfl rfl rfl (Q0 rfl) rfl rfl rfl rfl rfl hx93 tE_30 tS_29 (fun b93 q93 cs93 hlx93=>(Q4L Q6f 1 rfl (fun r93 er93 _=>?_)))
      subst er93
      refine wF rfl tF_29_3 (Q4M 2 3 rfl rfl rfl (Q0 rfl) rfl rfl rfl (cs:=[_,_,_,_]) rfl Q11 Q1W rfl rfl ?_)
      obtain ⟨v96,hc96,hm⟩:=Q6 hm
      refine wC [] [0,1,2,3] rfl fn_7 rfl (Q6w N x93.reply.err x93.reply.num r93.1.1 r93.1.2 x93.reply.facts r93.2.1 r93.2.2 x93.reply.said _ hc96) (asK [0,1] rfl) rfl (H':=[_,_,_,_]) rfl ?_
      rintro _ _ _ ⟨rfl,rfl,rfl⟩
      refine Q3 (Q2 (Q5 [96,17,11,10,3] (S':=[_,_,_,_,_]) rfl ?_))
      refine Qm rfl (fun hb96=>?_) (fun hb96=>?_)
      ·
       replace hm:=QQ hm hb96
       refine Q5 [] (S':=[]) rfl (Q4 (Q1 ?_))
       obtain ⟨v97,hc97,hm⟩:=Q6 hm
       refine wC [] [0,1,2,3] rfl fn_6 rfl (Q3X N _ hc97) (asK [] rfl) rfl (H':=[_,_,_,_]) rfl ?_
       rintro _ _ _ ⟨rfl,rfl,rfl⟩
       refine wP rfl (Q3 (Q2 (Q5 [8] (S':=[_]) rfl (Qn (Qb (Qu (Qb (Qb (Qu (Qb ?_))))))))))
       have hE:=(Option.some.inj hm).symm
       replace hE:=Qy hLu2 hE
       replace hE:=Qy hLj_9 hE
       replace hE:=hE.symm
       subst hE
       refine Qp (Hr:=[]) [] Tryz.results4 (Qd rfl) ⟨rfl,rfl,rfl⟩ (asK [] rfl) rfl rfl (.inl rfl)
      ·
       replace hm:=QP hm hb96
       refine Q5 [17,11,10,3] (S':=[_,_,_,_]) rfl (Qj (Q2 (Q4 ?_)))
       obtain ⟨bj_11,hm,hLj_11⟩:=Q6 hm
       refine Q14 (σ:=(List SessD) × Int × (List SessD) × Int × Bool × (Option Addr) × Nat × Nat × (Option Addr) × Nat × Nat) (fun (j_11_11_f0_l,j_11_11_f1,j_11_10_f0_l,j_11_10_f1,j_11_111,j_11_11_f0_p,j_11_11_f0_c,j_11_11_f0_n,j_11_10_f0_p,j_11_10_f0_c,j_11_10_f0_n)=>bj_11 = (j_11_11_f0_l,j_11_11_f1,j_11_10_f0_l,j_11_10_f1,j_11_111)) (fun (j_11_11_f0_l,j_11_11_f1,j_11_10_f0_l,j_11_10_f1,j_11_111,j_11_11_f0_p,j_11_11_f0_c,j_11_11_f0_n,j_11_10_f0_p,j_11_10_f0_c,j_11_10_f0_n)=>[(17,.int .i64 ((u2_17:Nat):Int)),(11,.pointer (some ⟨j_3_11_g,0,none⟩)),(10,.pointer (some ⟨j_3_10_g,0,none⟩)),(3,.slice qp2 l3.length qc3),(111,.bool j_11_111)]) (fun (j_11_11_f0_l,j_11_11_f1,j_11_10_f0_l,j_11_10_f1,j_11_111,j_11_11_f0_p,j_11_11_f0_c,j_11_11_f0_n,j_11_10_f0_p,j_11_10_f0_c,j_11_10_f0_n)=>[.sli 7 Q1u qp2 qc3 l3]) (fun (j_11_11_f0_l,j_11_11_f1,j_11_10_f0_l,j_11_10_f1,j_11_111,j_11_11_f0_p,j_11_11_f0_c,j_11_11_f0_n,j_11_10_f0_p,j_11_10_f0_c,j_11_10_f0_n)=>[.blk j_3_11_g [.slice j_11_11_f0_p j_11_11_f0_n j_11_11_f0_c,.int .i64 j_11_11_f1] 67,.own 35 6 Qt (.slice j_11_11_f0_p j_11_11_f0_n j_11_11_f0_c) j_11_11_f0_l,.blk j_3_10_g [.slice j_11_10_f0_p j_11_10_f0_n j_11_10_f0_c,.int .i64 j_11_10_f1] 65,Qi Qe 35 6 (.slice j_11_10_f0_p j_11_10_f0_n j_11_10_f0_c) j_11_10_f0_l]) ?_ ?_
       ·
        refine Q1 (wP rfl (wP rfl (wP rfl (wP rfl ?_))))
        obtain ⟨x102,hx102,hm⟩:=Q6 hm
        refine Q3A 4 u2_17 rfl rfl rfl (Q0 rfl) rfl rfl rfl rfl rfl hx102 tE_30 tS_29 (fun b102 q102 cs102 hlx102=>(Q4L Q6f 1 rfl (fun r102 er102 _=>?_)))
        subst er102
        refine Q4M 2 0 rfl rfl rfl (Q0 rfl) rfl rfl rfl (cs:=[_,_,_,_,_,_,_]) rfl tS_29 tA_29 rfl rfl ?_
        obtain ⟨⟨v104_0,v104_1,v104_2,v104_3,v104_4⟩,hc104,hm⟩:=Q6 hm
        try dsimp only at hm
        refine wC [2,3,0,1] [] rfl fn_15 rfl (Q7B N j_3_10_g u2_10_f0_p u2_10_f0_n u2_10_f0_c u2_10_f0_l u2_10_f1 j_3_11_g u2_11_f0_p u2_11_f0_n u2_11_f0_c u2_11_f0_l u2_11_f1 x102.op x102.id x102.seq x102.reply.err x102.reply.num r102.1.1 r102.1.2 x102.reply.facts r102.2.1 r102.2.2 x102.reply.said _ _ _ _ _ hc104) (asK [0,1] rfl) rfl (H':=[]) rfl ?_
        rintro _ _ _ ⟨p104_0,c104_1,c104_2,p104_3,c104_4,c104_5,rfl,rfl,rfl⟩
        refine wP rfl (wP rfl ?_)
        refine QA (d:=106) (S':=[_,_,_,_,_,_,_,_,_,_,_,_]) rfl rfl (fun hs106=>?_) (fun hs106=>?_)
        ·
         replace hm:=QQ hm hs106
         refine wO rfl (wO rfl (wO rfl (wO rfl (wP rfl (Q3 ?_)))))
         have hE:=(Option.some.inj hm).symm
         refine QE [2,3,0,1] rfl (H':=[_,_,_,_]) rfl ?_
         refine Ql (v104_3,v104_4,v104_1,v104_2,true,p104_3,c104_4,c104_5,p104_0,c104_1,c104_2) hE [17,11,10,3,111] rfl (asK [8] rfl) rfl
        ·
         replace hm:=QP hm hs106
         refine wP rfl (wP rfl ?_)
         obtain ⟨v109,hc109,hm⟩:=Q6 hm
         refine wC [0,1,2,3] [] rfl fn_16 rfl (Q6y N j_3_10_g p104_0 c104_2 c104_1 v104_1 v104_2 j_3_11_g p104_3 c104_5 c104_4 v104_3 v104_4 _ hc109) (asK [] rfl) rfl (H':=[]) rfl ?_
         rintro _ _ _ ⟨rfl,rfl,rfl⟩
         refine wP rfl (wP rfl (Q3 ?_))
         have hE:=(Option.some.inj hm).symm
         refine QE [2,3,0,1] rfl (H':=[_,_,_,_]) rfl ?_
         refine Ql (v104_3,v104_4,v104_1,v104_2,!v109,p104_3,c104_4,c104_5,p104_0,c104_1,c104_2) hE [17,11,10,3,111] rfl (asK [8] rfl) rfl
       ·
        rintro ⟨j_11_11_f0_l,j_11_11_f1,j_11_10_f0_l,j_11_10_f1,j_11_111,j_11_11_f0_p,j_11_11_f0_c,j_11_11_f0_n,j_11_10_f0_p,j_11_10_f0_c,j_11_10_f0_n⟩ hE
        try dsimp only
        have hm:=hLj_11
        rw [hE] at hm
        try dsimp only at hm
        refine Qm rfl (fun hb111=>?_) (fun hb111=>?_)
        ·
         replace hm:=QQ hm hb111
         refine Q5 [] (S':=[]) rfl (Q4 (Q1 (wP rfl (Q3 (Q2 (Qn (Qu (Qb (Qb (Qu (Qb ?_)))))))))))
         have hE:=(Option.some.inj hm).symm
         replace hE:=Qy hLu2 hE
         replace hE:=Qy hLj_9 hE
         replace hE:=hE.symm
         subst hE
         refine Qp (Hr:=[]) [] Tryz.results4 (Qd rfl) ⟨rfl,rfl,rfl⟩ (asK [] rfl) rfl rfl (.inl rfl)
        ·
         replace hm:=QP hm hb111
         refine Q5 [17,11,10,3] (S':=[_,_,_,_]) rfl (Qj (Qa (Q2 (Q1 (wP rfl (wP rfl ?_))))))
         obtain ⟨hg90,hm⟩:=Qq hm
         refine Qr (d:=90) (v':=.int .i64 ((u2_17 + 1:Nat):Int)) (S':=[_,_,_,_,_]) rfl rfl (Qw (a:=u2_17) (b:=1) hg90) (Qs (S':=[_,_,_,_,_]) rfl rfl rfl rfl rfl (Q3 ?_))
         have hE:=(Option.some.inj hm).symm
         replace hE:=QZ hLu2 hE
         refine Q1n (_,u2_17 + 1,j_11_11_f0_l,j_11_11_f1,j_11_10_f0_l,j_11_10_f1,j_11_11_f0_p,j_11_11_f0_c,j_11_11_f0_n,j_11_10_f0_p,j_11_10_f0_c,j_11_10_f0_n) (Nat.lt_succ_self _) hE [17,11,10,3] rfl (asK [0] rfl) rfl
     ·
      replace hm:=QP hm hb88
      refine Q5 [11,10] (S':=[_,_]) rfl (QH (Q8 (Q8 (Qh ?_))))
      have hE:=(Option.some.inj hm).symm
      replace hE:=Qy hLu2 hE
      refine Ql (u2_11_f0_l,u2_11_f1,u2_10_f0_l,u2_10_f1,u2_11_f0_p,u2_11_f0_c,u2_11_f0_n,u2_10_f0_p,u2_10_f0_c,u2_10_f0_n) hE [11,10] rfl (asK [] rfl) rfl
   ·
    rintro ⟨j_9_11_f0_l,j_9_11_f1,j_9_10_f0_l,j_9_10_f1,j_9_11_f0_p,j_9_11_f0_c,j_9_11_f0_n,j_9_10_f0_p,j_9_10_f0_c,j_9_10_f0_n⟩ hE
    try dsimp only
    have hm:=QZ hLj_9 hE
    try dsimp only at hm
    refine Q4 (Q1 (wP rfl ?_))
    obtain ⟨v113,hc113,hm⟩:=Q6 hm
    refine wC [2,3] [0,1] rfl fn_17 rfl (Q5O N j_3_10_g j_9_10_f0_p j_9_10_f0_n j_9_10_f0_c j_9_10_f0_l j_9_10_f1 _ hc113) (asK [] rfl) rfl (H':=[_,_]) rfl ?_
    rintro _ _ _ ⟨p113_0,c113_1,c113_2,rfl,rfl,rfl⟩
    refine wP rfl ?_
    obtain ⟨v115,hc115,hm⟩:=Q6 hm
    refine wC [1,2] [0,3,4] rfl fn_17 rfl (Q5O N j_3_10_g j_9_10_f0_p j_9_10_f0_n j_9_10_f0_c j_9_10_f0_l j_9_10_f1 _ hc115) (asK [] rfl) rfl (H':=[_,_,_]) rfl ?_
    rintro _ _ _ ⟨p115_0,c115_1,c115_2,rfl,rfl,rfl⟩
    refine wP rfl (wP rfl (Q3 (Q2 (Q5 [19,18,11,10] (S':=[_,_,_,_]) rfl (Q4 (Q1 (wP rfl (wP rfl (QJ rfl rfl rfl (Q0 rfl) rfl Q5s Q1L tZ_32 rfl (zs:=[.slice none 0 0,.slice none 0 0]) (by kernel_rfl) rfl (out:=[_,_]) rfl (fun g118=>(QG 4 rfl (fun hzt8 _=>?_))))))))))))
    subst hzt8
    refine QG 1 rfl (fun hzt9 _=>?_)
    subst hzt9
    refine Q6t (sz:=1) (m:=2) Q2o.pair ([(v113,(p113_0,c113_1)),(v115,(p115_0,c115_1))]) 0 rfl (fun F w hφ=>⟨[.slice p113_0 v113.length c113_1],[.slice p115_0 v115.length c115_1],rfl,rfl,rfl,⟨[.slice p115_0 v115.length c115_1],[],rfl,rfl,rfl,rfl⟩⟩) rfl (by decide) (H':=[_,_,_,_,_,_,_]) rfl (Qv [QR Q2o [] none,_,_,_,_,_,_,_] (fun _ h=>h.bagNil Q2o) (Q13 [5,0,1,2,3,4,6,7] rfl (H':=[_,_,_,_,_,_,_,_]) rfl (Qv [QR Q2o ([(v113,(p113_0,c113_1))]) none,_,_,_,_,_,_] (fun _ h=>Qo.bagPush (T:=Q2o) (x:=v113) (r:=(p113_0,c113_1)) (zs:=[]) (H:=[_,_,_,_,_,_,_]) h 0 rfl) (Q13 [2,0,1,3,4,5,6] rfl (H':=[_,_,_,_,_,_,_]) rfl (Qv [QR Q2o (([(v113,(p113_0,c113_1))]) ++ [(v115,(p115_0,c115_1))]) none,_,_,_,_,_] (fun _ h=>Qo.bagPush (T:=Q2o) (x:=v115) (r:=(p115_0,c115_1)) (zs:=[(v113,(p113_0,c113_1))]) (H:=[_,_,_,_,_,_]) h 0 rfl) (Q15 0 (φ':=QR Q2o ([(v113,(p113_0,c113_1)),(v115,(p115_0,c115_1))]) none) rfl rfl (H':=[_,_,_,_,_,_]) rfl (Qv [Qi Q2o 32 1 (.slice (some ⟨g118,0,none⟩) 2 2) ([v113,v115]),_,_,_,_] (fun _ h=>h.treeIn 1 0 rfl rfl rfl rfl) (QG 0 rfl (fun hzt10 _=>(Q4q 0 (v':=.slice (some ⟨g118,0,none⟩) ([v113,v115].length) 2) rfl (by rw [hzt10]) (Q15 0 (φ':=Qi Q2o 32 1 (.slice (some ⟨g118,0,none⟩) ([v113,v115].length) 2) ([v113,v115])) rfl (by rw [hzt10]) (H':=[_,_,_,_,_]) rfl ?_)))))))))))
    obtain ⟨hap119,hm⟩:=Qq hm
    refine Q1q 0 rfl (fun zz119 hzz119=>(wC [1,0] [2,3,4,5] rfl fn_18 rfl (ap_ApartSessions (some ⟨g118,0,none⟩) ([v113,v115].length) 2 zz119 (by rw [Q12 hzz119]) (by rw [Q12 hzz119]; exact hap119.1) (fun z hz=>hap119.2 z.1 (by rw [← hzz119]; exact List.mem_map_of_mem hz))) (asK [] rfl) rfl (H':=[_,_,_,_]) rfl ?_))
    rintro _ _ _ ⟨r6_119,r7_119,r19_119,r26_119,rfl,rfl,rfl⟩
    refine Q2k 0 rfl (H':=[_,_,_,_,_,_,_]) rfl (Q2k 0 rfl (H':=[_,_,_,_,_,_]) rfl (Q2k 0 rfl (H':=[_,_,_,_,_]) rfl (Q2k 0 rfl (H':=[_,_,_,_]) rfl (wP rfl (wP rfl (wP rfl ?_))))))
    obtain ⟨v123,hc123,hm⟩:=Q6 hm
    refine wC [0,1,2,3] [] rfl fn_16 rfl (Q6y N j_3_10_g j_9_10_f0_p j_9_10_f0_n j_9_10_f0_c j_9_10_f0_l j_9_10_f1 j_3_11_g j_9_11_f0_p j_9_11_f0_n j_9_11_f0_c j_9_11_f0_l j_9_11_f1 _ hc123) (asK [] rfl) rfl (H':=[]) rfl ?_
    rintro _ _ _ ⟨rfl,rfl,rfl⟩
    refine wP rfl (wP rfl ?_)
    refine QA (d:=125) (S':=[_,_,_,_,_,_,_,_,_,_,_,_,_]) rfl rfl (fun hs125=>?_) (fun hs125=>?_)
    ·
     replace hm:=QQ hm hs125
     obtain ⟨v126,hc126,hm⟩:=Q6 hm
     refine wC [] [0,1,2,3] rfl fn_6 rfl (Q3X N _ hc126) (asK [] rfl) rfl (H':=[_,_,_,_]) rfl ?_
     rintro _ _ _ ⟨rfl,rfl,rfl⟩
     refine wP rfl (wP rfl (Q3 (Q2 (Q5 [8] (S':=[_]) rfl (Qn ?_)))))
     have hE:=(Option.some.inj hm).symm
     replace hE:=hE.symm
     subst hE
     refine Qp (Hr:=[]) [] Tryz.results4 (Qd rfl) ⟨rfl,rfl,rfl⟩ (asK [] rfl) rfl rfl (.inl rfl)
    ·
     replace hm:=QP hm hs125
     refine wO rfl (wP rfl (wP rfl (Q3 (Q2 (Q5 [8] (S':=[_]) rfl (Qn ?_))))))
     have hE:=(Option.some.inj hm).symm
     replace hE:=hE.symm
     subst hE
     refine Qp (Hr:=[]) [] Tryz.results4 (Qd rfl) ⟨rfl,rfl,rfl⟩ (asK [] rfl) rfl rfl (.inl rfl)
end Go.Proofs.YtjfpefddanmliaaGreat
