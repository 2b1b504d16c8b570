import Derived.Test.YtjfpefddanmliaaGreatXW3
namespace Go.Proofs.YtjfpefddanmliaaGreat
open Go.RowKit
set_option maxRecDepth 100000
set_option maxHeartbeats 4000000
theorem Q6m (N:Nat) (qg0:Nat) (qp1:Option Addr) (qn2:Nat) (qc3:Nat) (l0:List SessD) (a1:Int) (a2:Int) (a3:Int) (o0:Int) (o1:Int) (o4:List FactD) (o8:List V) (o10:Bool) (o11:Nat) (hm:Q1E N l0 a1 a2 a3 = some (o0,o1,o4,o8,o10,o11)):Q1v Tryz.prog 20 [.pointer (some ⟨qg0,0,none⟩),.int .i64 a2,.int .i64 a3] [] [.blk qg0 [.slice qp1 qn2 qc3,.int .i64 a1] 65,Qi Qe 35 6 (.slice qp1 qn2 qc3) l0] (fun v Φr Hr=>∃ (o2:Option Addr) (o3:Nat) (o5:Nat) (o6:Option Addr) (o7:Nat) (o9:Nat),v = .tuple #[.agg #[.int .i64 o0,.int .i64 o1,.slice o2 o5 o3,.slice o6 o9 o7],.bool o10,.int .i64 ((o11:Nat):Int)] ∧ Φr = [] ∧ Hr = [Qi Qf 61 3 (.slice o2 o5 o3) o4,.own 149 3 R_V (.slice o6 o9 o7) o8,.blk qg0 [.slice qp1 qn2 qc3,.int .i64 a1] 65,Qi Qe 35 6 (.slice qp1 qn2 qc3) l0]):=by
 unfold Q1E at hm
 refine Qx Tryz.func20 rfl Tryz.ntmps20 rfl (S:=[_,_,_]) rfl (fun C=>(Q4 (Q1 (Q2a rfl rfl rfl (Q0 rfl) rfl Q5Q rfl (fun g6=>(wP rfl (wP rfl (Q3 (Q2 (Q5 [6,0,1,2] (S':=[_,_,_,_]) rfl (Q4 (Q1 (wP rfl (wP rfl ?_))))))))))))))
 obtain ⟨⟨v14_0,v14_1⟩,hc14,hm⟩:=Q6 hm
 try dsimp only at hm
 refine wC [1,2] [0] rfl fn_45 rfl (Q5p N qg0 qp1 qn2 qc3 l0 a1 a2 _ _ hc14) (asK [] rfl) rfl (H':=[_]) rfl ?_
 rintro _ _ _ ⟨rfl,rfl,rfl⟩
 refine wP rfl (wP rfl (wP rfl (wP rfl (wP rfl (Q3 (Q2 (Q5 [8,9,6,0,2] (S':=[_,_,_,_,_]) rfl (Q4 (Q4 (Q1 (wP rfl (wP rfl (Qr (d:=18) (v':=.bool (v14_1 != 0)) (S':=[_,_,_,_,_,_]) rfl rfl (natne (a:=v14_1) (b:=0)) ?_)))))))))))))
 refine Q3 (Q2 (Q5 [18,8,9,6,0,2] (S':=[_,_,_,_,_,_]) rfl ?_))
 refine Qm rfl (fun hb18=>?_) (fun hb18=>?_)
 ·
  replace hm:=QQ hm hb18
  refine Q5 [8,6] (S':=[_,_]) rfl (Q4 (Q1 (Q1e 2 0 rfl rfl rfl (Q0 rfl) rfl rfl rfl (cs:=[_,_,_,_]) rfl Q11 Q1W rfl rfl (wP rfl (wS 2 0 rfl Q11 (all':=[_,_,_,_]) rfl (H':=[_,_,_]) rfl (wP rfl (Qs (S':=[_,_,_,_]) rfl rfl rfl rfl rfl (Q3 (Q2 (Q5 [8,7,6] (S':=[_,_,_]) rfl (Qn (Qb ?_))))))))))))
  have hE:=(Option.some.inj hm).symm
  obtain ⟨hE0,hF1⟩:=Prod.mk.inj hE
  obtain ⟨hE1,hF2⟩:=Prod.mk.inj hF1
  obtain ⟨hE2,hF3⟩:=Prod.mk.inj hF2
  obtain ⟨hE3,hF4⟩:=Prod.mk.inj hF3
  obtain ⟨hE4,hE5⟩:=Prod.mk.inj hF4
  clear hE hF1 hF2 hF3 hF4
  replace hE0:=hE0.symm
  subst hE0
  replace hE1:=hE1.symm
  subst hE1
  replace hE2:=hE2.symm
  subst hE2
  replace hE3:=hE3.symm
  subst hE3
  replace hE4:=hE4.symm
  subst hE4
  replace hE5:=hE5.symm
  subst hE5
  refine Q3o [Qi Qf 61 3 (.slice none 0 0) [],_,_,_] (fun _ h=>h.treeNil Qf 61 3) (Q6b 149 3 R_V ?_)
  refine Q52 (Hr:=[_,_,_,_]) [1,0,2,3] Tryz.results20 (Q3y 4 rfl rfl Q11 Q1W rfl rfl) (Qd rfl) (Qd rfl) ⟨none,0,0,none,0,0,rfl,rfl,rfl⟩ (asK [] rfl) rfl rfl (.inl rfl)
 ·
  replace hm:=QP hm hb18
  refine Q5 [9,6,0,2] (S':=[_,_,_,_]) rfl (Qj (Q2 (Q4 (Q4 (Q1 (wP rfl (wP rfl (wF rfl Q4t (wF rfl Q4r (wD 0 0 rfl Q1L Q3Q rfl (wP rfl ?_)))))))))))
  obtain ⟨hn27,hm⟩:=Qq hm
  refine Q1q 1 rfl (fun zz27 hzz27=>?_)
  obtain ⟨x27,hx27,hm⟩:=Q6 hm
  obtain ⟨rr27,hrr27⟩:=Q5x hzz27 hx27
  refine Q1r 2 v14_0.toNat rfl rfl rfl (Q0 rfl) rfl rfl rfl rfl (Q4F hn27) (Q1X hrr27) QB QN (fun g27 eg27=>?_)
  subst eg27
  refine Qv [.own 149 3 R_V (.slice rr27.2.1 x27.r.said.length rr27.2.2) x27.r.said,Qi Qf 61 3 (.slice rr27.1.1 x27.r.facts.length rr27.1.2) x27.r.facts,QR Qe zz27 (some v14_0.toNat),_,_,_] (fun _ h=>h.bagOpen 0 v14_0.toNat rfl hrr27) (QU Q4W 4 v14_0.toNat 0 rfl rfl rfl (Q0 rfl) rfl rfl rfl hrr27 QN Q4O (v:=fun _=>.agg #[.int .i64 (x27.id),.int .i64 (x27.seq),.int .i64 (x27.r.err),.int .i64 (x27.r.num),.slice rr27.1.1 x27.r.facts.length rr27.1.2,.slice rr27.2.1 x27.r.said.length rr27.2.2]) (fun _=>rfl) (fun _=>rfl) (fun _ _=>(Q2a rfl rfl rfl (Q0 rfl) rfl Q4G rfl (fun g10=>(wS 0 0 rfl QN (all':=[_,_,_,_,_,_]) rfl (H':=[_,_,_,_,_,_,_]) rfl (Q3 (Q2 (Q5 [10,6,2] (S':=[_,_,_]) rfl (Qc (Q4 ?_))))))))))
  obtain ⟨bj_1,hm,hLj_1⟩:=Q6 hm
  refine Q14 (σ:=Bool) (fun j_1_29=>bj_1 = j_1_29) (fun j_1_29=>[(10,.pointer (some ⟨g10,0,none⟩)),(6,.pointer (some ⟨g6,0,none⟩)),(2,.int .i64 a3),(29,.bool j_1_29)]) (fun j_1_29=>[]) (fun j_1_29=>[.blk g10 [.int .i64 (x27.id),.int .i64 (x27.seq),.int .i64 (x27.r.err),.int .i64 (x27.r.num),.slice rr27.1.1 x27.r.facts.length rr27.1.2,.slice rr27.2.1 x27.r.said.length rr27.2.2] 35,Qi Qf 61 3 (.slice rr27.1.1 x27.r.facts.length rr27.1.2) x27.r.facts,.own 149 3 R_V (.slice rr27.2.1 x27.r.said.length rr27.2.2) x27.r.said,.blk g6 [.int .i64 0,.int .i64 0,.slice none 0 0,.slice none 0 0] 27,.own 35 6 Qe.pair (.slice (some ⟨g27,0,none⟩) qn2 qc3) zz27,QR Qe zz27 (some v14_0.toNat),.blk qg0 [.slice (some ⟨g27,0,none⟩) qn2 qc3,.int .i64 a1] 65]) ?_ ?_
  ·
   refine Q1 (wP rfl (wP rfl (wP rfl ?_)))
   refine QA (d:=32) (S':=[_,_,_,_,_]) rfl rfl (fun hs32=>?_) (fun hs32=>?_)
   ·
    replace hm:=QQ hm hs32
    refine wO rfl (wO rfl (wO rfl (wO rfl (wP rfl (wP rfl (Q3 ?_))))))
    have hE:=(Option.some.inj hm).symm
    refine QE [0,2,1,6,5,3,4] rfl (H':=[_,_,_,_,_,_,_]) rfl ?_
    refine Ql true hE [10,6,2,29] rfl (asK [] rfl) rfl
   ·
    replace hm:=QP hm hs32
    refine wP rfl (wF rfl Q4h (wD 0 1 rfl Q1g Q1D rfl (wP rfl (wP rfl (wP rfl (Q3 ?_))))))
    have hE:=(Option.some.inj hm).symm
    refine QE [0,2,1,6,5,3,4] rfl (H':=[_,_,_,_,_,_,_]) rfl ?_
    refine Ql (decide (a3 < x27.seq)) hE [10,6,2,29] rfl (asK [] rfl) rfl
  ·
   rintro j_1_29 hE
   try dsimp only
   have hm:=hLj_1
   rw [hE] at hm
   refine Qm rfl (fun hb29=>?_) (fun hb29=>?_)
   ·
    replace hm:=QQ hm hb29
    refine Q5 [6] (S':=[_]) rfl (Q4 (Q1 (Q1e 3 0 rfl rfl rfl (Q0 rfl) rfl rfl rfl (cs:=[_,_,_,_]) rfl Q11 Q1W rfl rfl (wS 3 0 rfl Q11 (all':=[_,_,_,_]) rfl (H':=[_,_,_,_,_,_,_]) rfl (wP rfl (wP rfl (Q3 (Q2 (Q5 [8,7,6] (S':=[_,_,_]) rfl (Qn (Qu (Qb ?_))))))))))))
    have hE:=(Option.some.inj hm).symm
    obtain ⟨hE0,hF1⟩:=Prod.mk.inj hE
    obtain ⟨hE1,hF2⟩:=Prod.mk.inj hF1
    obtain ⟨hE2,hF3⟩:=Prod.mk.inj hF2
    obtain ⟨hE3,hF4⟩:=Prod.mk.inj hF3
    obtain ⟨hE4,hE5⟩:=Prod.mk.inj hF4
    clear hE hF1 hF2 hF3 hF4
    replace hE0:=hE0.symm
    subst hE0
    replace hE1:=hE1.symm
    subst hE1
    replace hE2:=hE2.symm
    subst hE2
    replace hE3:=hE3.symm
    subst hE3
    replace hE4:=hE4.symm
    subst hE4
    replace hE5:=hE5.symm
    subst hE5
    refine Q3o [Qi Qf 61 3 (.slice none 0 0) [],_,_,_,_,_,_,_] (fun _ h=>h.treeNil Qf 61 3) (Q6b 149 3 R_V (QE [4,3,0,1,2,5,6,7,8] rfl (H':=[_,_,_,_,_,_,_,_,_]) rfl (Q3o [_,_,_,_,_,QR Qe (zz27.set v14_0.toNat (x27,rr27)) none,_] (fun _ h=>Qo.bagClose (T:=Qe) (x:=x27) (r:=rr27) (i:=v14_0.toNat) (zs:=zz27) (H:=[_,_,_,_,_,_,_]) h 5 rfl) (Q87 5 (φ':=QR Qe zz27 none) rfl (by rw [set_getZ hrr27]) (H':=[.own 149 3 R_V (.slice none 0 0) [],Qi Qf 61 3 (.slice none 0 0) [],.blk g10 [.int .i64 (x27.id),.int .i64 (x27.seq),.int .i64 (x27.r.err),.int .i64 (x27.r.num),.slice rr27.1.1 x27.r.facts.length rr27.1.2,.slice rr27.2.1 x27.r.said.length rr27.2.2] 35,.blk g6 [.int .i64 0,.int .i64 0,.slice none 0 0,.slice none 0 0] 27,.own 35 6 Qe.pair (.slice (some ⟨g27,0,none⟩) qn2 qc3) zz27,QR Qe zz27 none,.blk qg0 [.slice (some ⟨g27,0,none⟩) qn2 qc3,.int .i64 a1] 65]) rfl (Q3o [_,_,_,_,Qi Qe 35 6 (.slice (some ⟨g27,0,none⟩) qn2 qc3) l0,_] (fun _ h=>h.treeIn 4 5 rfl rfl rfl hzz27) ?_)))))
    refine Q52 (Hr:=[_,_,_,_]) [1,0,5,4] Tryz.results20 (Q3y 3 rfl rfl Q11 Q1W rfl rfl) (Qd rfl) (Qd rfl) ⟨none,0,0,none,0,0,rfl,rfl,rfl⟩ (asK [] rfl) rfl rfl (.inl rfl)
   ·
    replace hm:=QP hm hb29
    refine Q5 [10,6,2] (S':=[_,_,_]) rfl (Q4 (Q1 (wP rfl (wF rfl Q4h (wD 0 1 rfl Q1g Q1D rfl (wP rfl (wP rfl (Q3 (Q2 (Q5 [39,10,6] (S':=[_,_,_]) rfl ?_))))))))))
    refine Qm rfl (fun hb39=>?_) (fun hb39=>?_)
    ·
     replace hm:=QQ hm hb39
     refine Q5 [10,6] (S':=[_,_]) rfl (Q4 (Q1 (wF rfl Q4b (Q1e 0 2 rfl rfl rfl (Q0 rfl) rfl rfl rfl (cs:=[_,_,_,_]) rfl Q11 Q1W rfl rfl ?_))))
     obtain ⟨v46,hc46,hm⟩:=Q6 hm
     refine Q3h [] [0,1,2,3,4,5,6] [1,2] rfl rfl rfl (Q0 rfl) rfl rfl fn_46 rfl (Q5F N x27.r.err x27.r.num rr27.1.1 rr27.1.2 x27.r.facts rr27.2.1 rr27.2.2 x27.r.said _ hc46) (fun F w hφ hh=>(QD (Q1M Q6a (hh _ (QS (k:=0) rfl)) (fun _ h=>h) (fun _ h=>h)) (QD (Q5k (hh _ (QS (k:=1) rfl))) Q1f))) (fun _ _ _ hR=>by obtain ⟨_,_,_,_,rfl,rfl,rfl⟩:=hR; exact ⟨rfl,(Q4B (Q68 T_FactD_free) (Q4B (own_free mkRep_free) (fun _ h=>Q2h h)))⟩) rfl rfl (H':=[_,_,_,_,_,_,_]) rfl ?_
     rintro _ _ _ ⟨p46_0,c46_1,p46_2,c46_3,rfl,rfl,rfl⟩
     refine wS 5 0 rfl Q11 (all':=[_,_,_,_]) rfl (H':=[_,_,_,_,_,_,_,_,_]) rfl (wP rfl (wP rfl (Q3 (Q2 (Q5 [8,7,6] (S':=[_,_,_]) rfl (Qn (Qu (Qb ?_))))))))
     have hE:=(Option.some.inj hm).symm
     obtain ⟨hE0,hF1⟩:=Prod.mk.inj hE
     obtain ⟨hE1,hF2⟩:=Prod.mk.inj hF1
     obtain ⟨hE2,hF3⟩:=Prod.mk.inj hF2
     obtain ⟨hE3,hF4⟩:=Prod.mk.inj hF3
     obtain ⟨hE4,hE5⟩:=Prod.mk.inj hF4
     clear hE hF1 hF2 hF3 hF4
     replace hE0:=hE0.symm
     subst hE0
     replace hE1:=hE1.symm
     subst hE1
     replace hE2:=hE2.symm
     subst hE2
     replace hE3:=hE3.symm
     subst hE3
     replace hE4:=hE4.symm
     subst hE4
     replace hE5:=hE5.symm
     subst hE5
     refine QE [4,3,0,1,2,5,6,7,8] rfl (H':=[_,_,_,_,_,_,_,_,_]) rfl (Q3o [_,_,_,_,_,QR Qe (zz27.set v14_0.toNat (x27,rr27)) none,_] (fun _ h=>Qo.bagClose (T:=Qe) (x:=x27) (r:=rr27) (i:=v14_0.toNat) (zs:=zz27) (H:=[_,_,_,_,_,_,_]) h 5 rfl) (Q87 5 (φ':=QR Qe zz27 none) rfl (by rw [set_getZ hrr27]) (H':=[Qi Qf 61 3 (.slice p46_0 x27.r.facts.length c46_1) v46,.own 149 3 R_V (.slice p46_2 x27.r.said.length c46_3) x27.r.said,.blk g10 [.int .i64 (x27.id),.int .i64 (x27.seq),.int .i64 (x27.r.err),.int .i64 (x27.r.num),.slice rr27.1.1 x27.r.facts.length rr27.1.2,.slice rr27.2.1 x27.r.said.length rr27.2.2] 35,.blk g6 [.int .i64 (x27.r.err),.int .i64 (x27.r.num),.slice p46_0 x27.r.facts.length c46_1,.slice p46_2 x27.r.said.length c46_3] 27,.own 35 6 Qe.pair (.slice (some ⟨g27,0,none⟩) qn2 qc3) zz27,QR Qe zz27 none,.blk qg0 [.slice (some ⟨g27,0,none⟩) qn2 qc3,.int .i64 a1] 65]) rfl (Q3o [_,_,_,_,Qi Qe 35 6 (.slice (some ⟨g27,0,none⟩) qn2 qc3) l0,_] (fun _ h=>h.treeIn 4 5 rfl rfl rfl hzz27) ?_)))
     refine Q52 (Hr:=[_,_,_,_]) [0,1,5,4] Tryz.results20 (Q3y 3 rfl rfl Q11 Q1W rfl rfl) (Qd rfl) (Qd rfl) ⟨p46_0,c46_1,x27.r.facts.length,p46_2,c46_3,x27.r.said.length,rfl,rfl,rfl⟩ (asK [] rfl) rfl rfl (.inl rfl)
    ·
     replace hm:=QP hm hb39
     refine Q5 [6] (S':=[_]) rfl (Qj (Qa (Q2 (Q4 (Q1 (Q1e 3 0 rfl rfl rfl (Q0 rfl) rfl rfl rfl (cs:=[_,_,_,_]) rfl Q11 Q1W rfl rfl (wS 3 0 rfl Q11 (all':=[_,_,_,_]) rfl (H':=[_,_,_,_,_,_,_]) rfl (wP rfl (wP rfl (Q3 (Q2 (Q5 [8,7,6] (S':=[_,_,_]) rfl (Qn ?_)))))))))))))
     have hE:=(Option.some.inj hm).symm
     obtain ⟨hE0,hF1⟩:=Prod.mk.inj hE
     obtain ⟨hE1,hF2⟩:=Prod.mk.inj hF1
     obtain ⟨hE2,hF3⟩:=Prod.mk.inj hF2
     obtain ⟨hE3,hF4⟩:=Prod.mk.inj hF3
     obtain ⟨hE4,hE5⟩:=Prod.mk.inj hF4
     clear hE hF1 hF2 hF3 hF4
     replace hE0:=hE0.symm
     subst hE0
     replace hE1:=hE1.symm
     subst hE1
     replace hE2:=hE2.symm
     subst hE2
     replace hE3:=hE3.symm
     subst hE3
     replace hE4:=hE4.symm
     subst hE4
     replace hE5:=hE5.symm
     subst hE5
     refine Q3o [Qi Qf 61 3 (.slice none 0 0) [],_,_,_,_,_,_,_] (fun _ h=>h.treeNil Qf 61 3) (Q6b 149 3 R_V (QE [4,3,0,1,2,5,6,7,8] rfl (H':=[_,_,_,_,_,_,_,_,_]) rfl (Q3o [_,_,_,_,_,QR Qe (zz27.set v14_0.toNat (x27,rr27)) none,_] (fun _ h=>Qo.bagClose (T:=Qe) (x:=x27) (r:=rr27) (i:=v14_0.toNat) (zs:=zz27) (H:=[_,_,_,_,_,_,_]) h 5 rfl) (Q87 5 (φ':=QR Qe zz27 none) rfl (by rw [set_getZ hrr27]) (H':=[.own 149 3 R_V (.slice none 0 0) [],Qi Qf 61 3 (.slice none 0 0) [],.blk g10 [.int .i64 (x27.id),.int .i64 (x27.seq),.int .i64 (x27.r.err),.int .i64 (x27.r.num),.slice rr27.1.1 x27.r.facts.length rr27.1.2,.slice rr27.2.1 x27.r.said.length rr27.2.2] 35,.blk g6 [.int .i64 0,.int .i64 0,.slice none 0 0,.slice none 0 0] 27,.own 35 6 Qe.pair (.slice (some ⟨g27,0,none⟩) qn2 qc3) zz27,QR Qe zz27 none,.blk qg0 [.slice (some ⟨g27,0,none⟩) qn2 qc3,.int .i64 a1] 65]) rfl (Q3o [_,_,_,_,Qi Qe 35 6 (.slice (some ⟨g27,0,none⟩) qn2 qc3) l0,_] (fun _ h=>h.treeIn 4 5 rfl rfl rfl hzz27) ?_)))))
     refine Q52 (Hr:=[_,_,_,_]) [1,0,5,4] Tryz.results20 (Q3y 3 rfl rfl Q11 Q1W rfl rfl) (Qd rfl) (Qd rfl) ⟨none,0,0,none,0,0,rfl,rfl,rfl⟩ (asK [] rfl) rfl rfl (.inl rfl)
theorem Q4d (N:Nat) (qp0:Option Addr) (qc1:Nat) (l0:List V) (qp2:Option Addr) (qc3:Nat) (l1:List V) (o0:Bool) (hm:Q1j N l0 l1 = some o0):Q1v Tryz.prog 60 [.slice qp0 l0.length qc1,.slice qp2 l1.length qc3] [.sli 3 R_V qp0 qc1 l0,.sli 3 R_V qp2 qc3 l1] [] (fun v Φr Hr=>v = .bool o0 ∧ Φr = [] ∧ Hr = []):=by
 unfold Q1j at hm
 refine Qx Tryz.func60 rfl Tryz.ntmps60 rfl (S:=[_,_]) rfl (fun C=>(Q4 (Q1 (wP rfl (Q3 (Q2 (Q5 [0,1] (S':=[_,_]) rfl (Q4 (Q4 (Q1 (wP rfl (wN rfl Q1S (wP rfl (wN rfl Q1S ?_))))))))))))))
 refine wP rfl (Qr (d:=10) (v':=.bool (l0.length != l1.length)) (S':=[_,_,_,_,_,_]) rfl rfl (natne (a:=l0.length) (b:=l1.length)) (Q3 (Q2 (Q5 [10,0,1] (S':=[_,_,_]) rfl ?_))))
 refine Qm rfl (fun hb10=>?_) (fun hb10=>?_)
 ·
  replace hm:=QQ hm hb10
  refine Q5 [] (S':=[]) rfl (Q4 (Q1 (wP rfl (Q3 (Q2 (Qn (Qb ?_)))))))
  have hE:=(Option.some.inj hm).symm
  replace hE:=hE.symm
  subst hE
  refine Qp (Hr:=[]) [] Tryz.results60 (Qd rfl) ⟨rfl,rfl,rfl⟩ (asK [] rfl) rfl rfl (.inl rfl)
 ·
  replace hm:=QP hm hb10
  refine Q5 [0,1] (S':=[_,_]) rfl (Qj (Q2 (Q4 ?_)))
  obtain ⟨bj_1,hm,hLj_1⟩:=Q2F hm
  refine Q14 (σ:=Unit) (fun _=>bj_1 = .inl ()) (fun _=>[]) (fun _=>[]) (fun _=>[]) ?_ ?_
  ·
   refine Q4 (Q1 (wP rfl (Q3 (Q2 (Qc (QI (σ:=Nat × Nat) (fun (nu1,u1_5)=>Q2s (Q1B N l0 l1) nu1 u1_5 = some bj_1) (fun (nu1,u1_5)=>nu1) (fun (nu1,u1_5)=>[(5,.int .i64 ((u1_5:Nat):Int)),(0,.slice qp0 l0.length qc1),(1,.slice qp2 l1.length qc3)]) (fun (nu1,u1_5)=>[.sli 3 R_V qp0 qc1 l0,.sli 3 R_V qp2 qc3 l1]) (fun (nu1,u1_5)=>[]) (N,0) hm [5,0,1] rfl (asK [0,1] rfl) rfl (fun s_ hm=>?_)))))))
   obtain ⟨nu1,u1_5⟩:=s_
   try dsimp only at hm ⊢
   obtain ⟨mu1,bu1,hnu1,hq,hLu1⟩:=Q1m hm
   clear hm
   subst hnu1
   replace hm:=hq
   clear hq
   unfold Q1B at hm
   try dsimp only at hm
   refine Q4 (Q4 (Q1 (wP rfl (wP rfl (wN rfl Q1S (wP rfl (Qr (d:=14) (v':=.bool (decide (u1_5 < l0.length))) (S':=[_,_,_,_,_,_]) rfl rfl (Q3a (a:=u1_5) (b:=l0.length)) (Q3 (Q2 (Q5 [14,5,0,1] (S':=[_,_,_,_]) rfl ?_))))))))))
   refine Qm rfl (fun hb14=>?_) (fun hb14=>?_)
   ·
    replace hm:=QQ hm hb14
    refine Q5 [5,0,1] (S':=[_,_,_]) rfl (Qj (Q2 (Q4 (Qc (Q4 ?_)))))
    obtain ⟨x19,hx19,hm⟩:=Q6 hm
    obtain ⟨x23,hx23,hm⟩:=Q6 hm
    refine Q1l [0,1,2,3,4,5,6,7,8] rfl rfl (fun hok=>(xP hok 0 rfl (xP hok 1 rfl (Q1y hok 2 0 u1_5 rfl rfl rfl (Q0 rfl) rfl rfl rfl rfl rfl rfl hx19 Q1S Q25 (fun b19 q19 cs19 hlx19=>(Q1K Q50 1 rfl (fun r19 er19 _=>?_)))))))
    subst er19
    refine Q2m hok 3 0 0 rfl rfl rfl (Q0 rfl) rfl rfl rfl rfl (cs:=[_,_,_]) rfl Q25 Q62 rfl rfl (xP hok 4 rfl (xP hok 5 rfl (Q1y hok 6 3 u1_5 rfl rfl rfl (Q0 rfl) rfl rfl rfl rfl rfl rfl hx23 Q1S Q25 (fun b23 q23 cs23 hlx23=>(Q1K Q50 1 rfl (fun r23 er23 _=>?_))))))
    subst er23
    refine Q2m hok 7 0 0 rfl rfl rfl (Q0 rfl) rfl rfl rfl rfl (cs:=[_,_,_]) rfl Q25 Q62 rfl rfl (Q7s hok 8 rfl rfl rfl (Q0 rfl) rfl rfl rfl rfl (neqV _ _ x19 x23) (Q19 hok rfl (Q2 (Q5 [25,5,0,1] (S':=[_,_,_,_]) rfl ?_))))
    refine Qm rfl (fun hb25=>?_) (fun hb25=>?_)
    ·
     replace hm:=QQ hm hb25
     refine Q5 [] (S':=[]) rfl (Q4 (Q1 (wP rfl (Q3 (Q2 (Qn (Qu (Qb (Qb (Qu (Qb ?_)))))))))))
     have hE:=(Option.some.inj hm).symm
     replace hE:=Qy hLu1 hE
     replace hE:=Qy hLj_1 hE
     replace hE:=hE.symm
     subst hE
     refine Qp (Hr:=[]) [] Tryz.results60 (Qd rfl) ⟨rfl,rfl,rfl⟩ (asK [] rfl) rfl rfl (.inl rfl)
    ·
     replace hm:=QP hm hb25
     refine Q5 [5,0,1] (S':=[_,_,_]) rfl (Qj (Qa (Q2 (Q1 (wP rfl (wP rfl ?_))))))
     obtain ⟨hg16,hm⟩:=Qq hm
     refine Qr (d:=16) (v':=.int .i64 ((u1_5 + 1:Nat):Int)) (S':=[_,_,_,_]) rfl rfl (Qw (a:=u1_5) (b:=1) hg16) (Qs (S':=[_,_,_,_]) rfl rfl rfl rfl rfl (Q3 ?_))
     have hE:=(Option.some.inj hm).symm
     replace hE:=QZ hLu1 hE
     refine Q1n (_,u1_5 + 1) (Nat.lt_succ_self _) hE [5,0,1] rfl (asK [4,5] rfl) rfl
   ·
    replace hm:=QP hm hb14
    refine Q5 [] (S':=[]) rfl (QH (Q8 (Q8 (Qh ?_))))
    have hE:=(Option.some.inj hm).symm
    replace hE:=Qy hLu1 hE
    refine Ql () hE [] rfl (asK [] rfl) rfl
  ·
   rintro _ hE
   try dsimp only
   have hm:=QZ hLj_1 hE
   try dsimp only at hm
   refine Q4 (Q1 (wP rfl (Q3 (Q2 (Qn ?_)))))
   have hE:=(Option.some.inj hm).symm
   replace hE:=hE.symm
   subst hE
   refine Qp (Hr:=[]) [] Tryz.results60 (Qd rfl) ⟨rfl,rfl,rfl⟩ (asK [] rfl) rfl rfl (.inl rfl)
theorem Q7O (N:Nat) (a0:Int) (a1:Int) (qp0:Option Addr) (qc1:Nat) (l2:List V) (a3:Int) (a4:Int) (qp2:Option Addr) (qc3:Nat) (l5:List V) (o0:Bool) (hm:Q2V N a0 a1 l2 a3 a4 l5 = some o0):Q1v Tryz.prog 101 [.agg #[.int .i64 a0,.int .i64 a1,.slice qp0 l2.length qc1],.agg #[.int .i64 a3,.int .i64 a4,.slice qp2 l5.length qc3]] [.sli 3 R_V qp0 qc1 l2,.sli 3 R_V qp2 qc3 l5] [] (fun v Φr Hr=>v = .bool o0 ∧ Φr = [] ∧ Hr = []):=by
 unfold Q2V at hm
 refine Qx Tryz.func101 rfl Tryz.ntmps101 rfl (S:=[_,_]) rfl (fun C=>(Q4 (Q1 (wB rfl (fun g2=>(wB rfl (fun g3=>(wP rfl (Q3 (Q2 (Q5 [3,2] (S':=[_,_]) rfl (Q4 (Q1 (wF rfl tF_61_0 (wD 1 0 rfl Q1g Q1D rfl (wF rfl tF_61_0 ?_))))))))))))))))
 refine wD 0 0 rfl Q1g Q1D rfl (wP rfl (wP rfl ?_))
 refine QA (d:=10) (S':=[_,_,_,_,_,_,_]) rfl rfl (fun hs10=>?_) (fun hs10=>?_)
 ·
  replace hm:=QQ hm hs10
  refine wF rfl tF_61_1 (wD 1 1 rfl Q1g Q1D rfl (wF rfl tF_61_1 (wD 0 1 rfl Q1g Q1D rfl (wP rfl (wP rfl (wP rfl ?_))))))
  refine QA (d:=17) (S':=[_,_,_,_,_,_,_,_,_,_,_,_,_,_]) rfl rfl (fun hs17=>?_) (fun hs17=>?_)
  ·
   replace hm:=QQ hm hs17
   refine wF rfl Q5e (wD 1 2 rfl Q1Z Q41 rfl (wF rfl Q5e (wD 0 2 rfl Q1Z Q41 rfl ?_)))
   obtain ⟨v22,hc22,hm⟩:=Q6 hm
   refine wC [] [0,1] rfl fn_60 rfl (Q4d N qp0 qc1 l2 qp2 qc3 l5 _ hc22) (asK [0,1] rfl) rfl (H':=[_,_]) rfl ?_
   rintro _ _ _ ⟨rfl,rfl,rfl⟩
   refine wP rfl (wP rfl (Q3 (Q2 (Q5 [4] (S':=[_]) rfl (Qn ?_)))))
   have hE:=(Option.some.inj hm).symm
   replace hE:=hE.symm
   subst hE
   refine Qp (Hr:=[]) [] Tryz.results101 (Qd rfl) ⟨rfl,rfl,rfl⟩ (asK [] rfl) rfl rfl (.inl rfl)
  ·
   replace hm:=QP hm hs17
   refine wO rfl (wO rfl (wO rfl (wO rfl (wO rfl (wP rfl (wP rfl (Q3 (Q2 (Q5 [4] (S':=[_]) rfl (Qn ?_))))))))))
   have hE:=(Option.some.inj hm).symm
   replace hE:=hE.symm
   subst hE
   refine Qp (Hr:=[]) [] Tryz.results101 (Qd rfl) ⟨rfl,rfl,rfl⟩ (asK [] rfl) rfl rfl (.inl rfl)
 ·
  replace hm:=QP hm hs10
  refine wO rfl (wO rfl (wO rfl (wO rfl (wO rfl (wP rfl (wP rfl (wO rfl (wO rfl (wO rfl (wO rfl (wO rfl (wP rfl (wP rfl ?_)))))))))))))
  refine Q3 (Q2 (Q5 [4] (S':=[_]) rfl (Qn ?_)))
  have hE:=(Option.some.inj hm).symm
  replace hE:=hE.symm
  subst hE
  refine Qp (Hr:=[]) [] Tryz.results101 (Qd rfl) ⟨rfl,rfl,rfl⟩ (asK [] rfl) rfl rfl (.inl rfl)
theorem Q6d (N:Nat) (qp0:Option Addr) (qc1:Nat) (l0:List FactD) (qp2:Option Addr) (qc3:Nat) (l1:List FactD) (o0:Bool) (hm:Q23 N l0 l1 = some o0):Q1v Tryz.prog 59 [.slice qp0 l0.length qc1,.slice qp2 l1.length qc3] [.sli 3 QO qp0 qc1 l0,.sli 3 QO qp2 qc3 l1] [] (fun v Φr Hr=>v = .bool o0 ∧ Φr = [] ∧ Hr = []):=by
 unfold Q23 at hm
 refine Qx Tryz.func59 rfl Tryz.ntmps59 rfl (S:=[_,_]) rfl (fun C=>(Q4 (Q1 (wP rfl (Q3 (Q2 (Q5 [0,1] (S':=[_,_]) rfl (Q4 (Q4 (Q1 (wP rfl (wN rfl Q1s (wP rfl (wN rfl Q1s ?_))))))))))))))
 refine wP rfl (Qr (d:=10) (v':=.bool (l0.length != l1.length)) (S':=[_,_,_,_,_,_]) rfl rfl (natne (a:=l0.length) (b:=l1.length)) (Q3 (Q2 (Q5 [10,0,1] (S':=[_,_,_]) rfl ?_))))
 refine Qm rfl (fun hb10=>?_) (fun hb10=>?_)
 ·
  replace hm:=QQ hm hb10
  refine Q5 [] (S':=[]) rfl (Q4 (Q1 (wP rfl (Q3 (Q2 (Qn (Qb ?_)))))))
  have hE:=(Option.some.inj hm).symm
  replace hE:=hE.symm
  subst hE
  refine Qp (Hr:=[]) [] Tryz.results59 (Qd rfl) ⟨rfl,rfl,rfl⟩ (asK [] rfl) rfl rfl (.inl rfl)
 ·
  replace hm:=QP hm hb10
  refine Q5 [0,1] (S':=[_,_]) rfl (Qj (Q2 (Q4 ?_)))
  obtain ⟨bj_1,hm,hLj_1⟩:=Q2F hm
  refine Q14 (σ:=Unit) (fun _=>bj_1 = .inl ()) (fun _=>[]) (fun _=>[]) (fun _=>[]) ?_ ?_
  ·
   refine Q4 (Q1 (wP rfl (Q3 (Q2 (Qc (QI (σ:=Nat × Nat) (fun (nu1,u1_5)=>Q2s (Q1Y N l0 l1) nu1 u1_5 = some bj_1) (fun (nu1,u1_5)=>nu1) (fun (nu1,u1_5)=>[(5,.int .i64 ((u1_5:Nat):Int)),(0,.slice qp0 l0.length qc1),(1,.slice qp2 l1.length qc3)]) (fun (nu1,u1_5)=>[.sli 3 QO qp0 qc1 l0,.sli 3 QO qp2 qc3 l1]) (fun (nu1,u1_5)=>[]) (N,0) hm [5,0,1] rfl (asK [0,1] rfl) rfl (fun s_ hm=>?_)))))))
   obtain ⟨nu1,u1_5⟩:=s_
   try dsimp only at hm ⊢
   obtain ⟨mu1,bu1,hnu1,hq,hLu1⟩:=Q1m hm
   clear hm
   subst hnu1
   replace hm:=hq
   clear hq
   unfold Q1Y at hm
   try dsimp only at hm
   refine Q4 (Q4 (Q1 (wP rfl (wP rfl (wN rfl Q1s (wP rfl (Qr (d:=14) (v':=.bool (decide (u1_5 < l0.length))) (S':=[_,_,_,_,_,_]) rfl rfl (Q3a (a:=u1_5) (b:=l0.length)) (Q3 (Q2 (Q5 [14,5,0,1] (S':=[_,_,_,_]) rfl ?_))))))))))
   refine Qm rfl (fun hb14=>?_) (fun hb14=>?_)
   ·
    replace hm:=QQ hm hb14
    refine Q5 [5,0,1] (S':=[_,_,_]) rfl (Qj (Q2 (Q4 (Qc (Q4 ?_)))))
    obtain ⟨x19,hx19,hm⟩:=Q6 hm
    obtain ⟨x23,hx23,hm⟩:=Q6 hm
    obtain ⟨v25,hc25,hm⟩:=Q6 hm
    refine Q1l [0,1,2,3,4,5,6,7,9] rfl rfl (fun hok=>(xP hok 0 rfl (xP hok 1 rfl (Q1y hok 2 0 u1_5 rfl rfl rfl (Q0 rfl) rfl rfl rfl rfl rfl rfl hx19 Q1s Q1G (fun b19 q19 cs19 hlx19=>(Q1K Q4u 1 rfl (fun r19 er19 _=>?_)))))))
    subst er19
    refine Q2m hok 3 1 0 rfl rfl rfl (Q0 rfl) rfl rfl rfl rfl (cs:=[_,_,_]) rfl Q1G Q59 rfl rfl (xP hok 4 rfl (xP hok 5 rfl (Q1y hok 6 4 u1_5 rfl rfl rfl (Q0 rfl) rfl rfl rfl rfl rfl rfl hx23 Q1s Q1G (fun b23 q23 cs23 hlx23=>(Q1K Q4u 1 rfl (fun r23 er23 _=>?_))))))
    subst er23
    refine Q2m hok 7 1 0 rfl rfl rfl (Q0 rfl) rfl rfl rfl rfl (cs:=[_,_,_]) rfl Q1G Q59 rfl rfl (xS hok 8 rfl (wC [] [] rfl Q8e rfl (Q7O N x19.id x19.ty r19.1 r19.2 x19.args x23.id x23.ty r23.1 r23.2 x23.args _ hc25) (asK [3,0] rfl) rfl (H':=[]) rfl ?_))
    rintro _ _ _ ⟨rfl,rfl,rfl⟩
    refine Q3 (QT [0,1,2,3,4,5,6,7] [] rfl rfl (xP hok 9 rfl (Q19 hok rfl (Q2 (Q5 [26,5,0,1] (S':=[_,_,_,_]) rfl ?_)))))
    refine Qm rfl (fun hb26=>?_) (fun hb26=>?_)
    ·
     replace hm:=QQ hm hb26
     refine Q5 [] (S':=[]) rfl (Q4 (Q1 (wP rfl (Q3 (Q2 (Qn (Qu (Qb (Qb (Qu (Qb ?_)))))))))))
     have hE:=(Option.some.inj hm).symm
     replace hE:=Qy hLu1 hE
     replace hE:=Qy hLj_1 hE
     replace hE:=hE.symm
     subst hE
     refine Qp (Hr:=[]) [] Tryz.results59 (Qd rfl) ⟨rfl,rfl,rfl⟩ (asK [] rfl) rfl rfl (.inl rfl)
    ·
     replace hm:=QP hm hb26
     refine Q5 [5,0,1] (S':=[_,_,_]) rfl (Qj (Qa (Q2 (Q1 (wP rfl (wP rfl ?_))))))
     obtain ⟨hg16,hm⟩:=Qq hm
     refine Qr (d:=16) (v':=.int .i64 ((u1_5 + 1:Nat):Int)) (S':=[_,_,_,_]) rfl rfl (Qw (a:=u1_5) (b:=1) hg16) (Qs (S':=[_,_,_,_]) rfl rfl rfl rfl rfl (Q3 ?_))
     have hE:=(Option.some.inj hm).symm
     replace hE:=QZ hLu1 hE
     refine Q1n (_,u1_5 + 1) (Nat.lt_succ_self _) hE [5,0,1] rfl (asK [6,7] rfl) rfl
   ·
    replace hm:=QP hm hb14
    refine Q5 [] (S':=[]) rfl (QH (Q8 (Q8 (Qh ?_))))
    have hE:=(Option.some.inj hm).symm
    replace hE:=Qy hLu1 hE
    refine Ql () hE [] rfl (asK [] rfl) rfl
  ·
   rintro _ hE
   try dsimp only
   have hm:=QZ hLj_1 hE
   try dsimp only at hm
   refine Q4 (Q1 (wP rfl (Q3 (Q2 (Qn ?_)))))
   have hE:=(Option.some.inj hm).symm
   replace hE:=hE.symm
   subst hE
   refine Qp (Hr:=[]) [] Tryz.results59 (Qd rfl) ⟨rfl,rfl,rfl⟩ (asK [] rfl) rfl rfl (.inl rfl)
theorem Q4Z (N:Nat) (a0:Int) (a1:Int) (qp0:Option Addr) (qc1:Nat) (l2:List FactD) (qp2:Option Addr) (qc3:Nat) (l3:List V) (a4:Int) (a5:Int) (qp4:Option Addr) (qc5:Nat) (l6:List FactD) (qp6:Option Addr) (qc7:Nat) (l7:List V) (o0:Bool) (hm:Q21 N a0 a1 l2 l3 a4 a5 l6 l7 = some o0):Q1v Tryz.prog 38 [.agg #[.int .i64 a0,.int .i64 a1,.slice qp0 l2.length qc1,.slice qp2 l3.length qc3],.agg #[.int .i64 a4,.int .i64 a5,.slice qp4 l6.length qc5,.slice qp6 l7.length qc7]] [.sli 3 QO qp0 qc1 l2,.sli 3 R_V qp2 qc3 l3,.sli 3 QO qp4 qc5 l6,.sli 3 R_V qp6 qc7 l7] [] (fun v Φr Hr=>v = .bool o0 ∧ Φr = [] ∧ Hr = []):=by
 unfold Q21 at hm
 refine Qx Tryz.func38 rfl Tryz.ntmps38 rfl (S:=[_,_]) rfl (fun C=>(Q4 (Q1 (wB rfl (fun g2=>(wB rfl (fun g3=>(wP rfl (Q3 (Q2 (Q5 [3,2] (S':=[_,_]) rfl (Q4 ?_))))))))))))
 obtain ⟨bj_1,hm,hLj_1⟩:=Q6 hm
 unfold Q44 at hm
 refine Q14 (σ:=Bool) (fun j_1_4=>bj_1 = j_1_4) (fun j_1_4=>[(4,.bool j_1_4)]) (fun j_1_4=>[]) (fun j_1_4=>[]) ?_ ?_
 ·
  refine Q1 (wF rfl tF_27_0 (wD 1 0 rfl tS_23 tA_23 rfl (wF rfl tF_27_0 (wD 0 0 rfl tS_23 tA_23 rfl (wP rfl (wP rfl ?_))))))
  refine QA (d:=10) (S':=[_,_,_,_,_,_,_]) rfl rfl (fun hs10=>?_) (fun hs10=>?_)
  ·
   replace hm:=QQ hm hs10
   refine wF rfl Q86 (wD 1 1 rfl Q1g Q1D rfl (wF rfl Q86 (wD 0 1 rfl Q1g Q1D rfl (wP rfl (wP rfl (wP rfl ?_))))))
   refine QA (d:=17) (S':=[_,_,_,_,_,_,_,_,_,_,_,_,_,_]) rfl rfl (fun hs17=>?_) (fun hs17=>?_)
   ·
    replace hm:=QQ hm hs17
    refine wF rfl Q4g (wD 1 2 rfl Q31 Q4R rfl (wF rfl Q4g (wD 0 2 rfl Q31 Q4R rfl ?_)))
    obtain ⟨v22,hc22,hm⟩:=Q6 hm
    refine wC [] [0,1] rfl fn_59 rfl (Q6d N qp0 qc1 l2 qp4 qc5 l6 _ hc22) (asK [0,2] rfl) rfl (H':=[_,_]) rfl ?_
    rintro _ _ _ ⟨rfl,rfl,rfl⟩
    refine wP rfl (wP rfl ?_)
    refine QA (d:=24) (S':=[_,_,_,_,_,_,_,_,_,_,_,_,_,_,_,_,_,_,_,_,_]) rfl rfl (fun hs24=>?_) (fun hs24=>?_)
    ·
     replace hm:=QQ hm hs24
     refine wF rfl Q5b (wD 1 3 rfl Q1Z Q41 rfl (wF rfl Q5b (wD 0 3 rfl Q1Z Q41 rfl ?_)))
     obtain ⟨v29,hc29,hm⟩:=Q6 hm
     refine wC [] [0,1] rfl fn_60 rfl (Q4d N qp2 qc3 l3 qp6 qc7 l7 _ hc29) (asK [1,3] rfl) rfl (H':=[_,_]) rfl ?_
     rintro _ _ _ ⟨rfl,rfl,rfl⟩
     refine wP rfl (wP rfl (Q3 ?_))
     have hE:=(Option.some.inj hm).symm
     refine QE [] rfl (H':=[]) rfl ?_
     refine Ql v29 hE [4] rfl (asK [] rfl) rfl
    ·
     replace hm:=QP hm hs24
     refine wO rfl (wO rfl (wO rfl (wO rfl (wO rfl (wP rfl (wP rfl (Q3 ?_)))))))
     have hE:=(Option.some.inj hm).symm
     refine QE [] rfl (H':=[]) rfl ?_
     refine Ql false hE [4] rfl (asK [] rfl) rfl
   ·
    replace hm:=QP hm hs17
    refine wO rfl (wO rfl (wO rfl (wO rfl (wO rfl (wP rfl (wP rfl (wO rfl (wO rfl (wO rfl (wO rfl (wO rfl (wP rfl (wP rfl ?_)))))))))))))
    refine Q3 ?_
    have hE:=(Option.some.inj hm).symm
    refine QE [] rfl (H':=[]) rfl ?_
    refine Ql false hE [4] rfl (asK [] rfl) rfl
  ·
   replace hm:=QP hm hs10
   refine wO rfl (wO rfl (wO rfl (wO rfl (wO rfl (wP rfl (wP rfl (wO rfl (wO rfl (wO rfl (wO rfl (wO rfl (wP rfl (wP rfl ?_)))))))))))))
   refine wO rfl (wO rfl (wO rfl (wO rfl (wO rfl (wP rfl (wP rfl (Q3 ?_)))))))
   have hE:=(Option.some.inj hm).symm
   refine QE [] rfl (H':=[]) rfl ?_
   refine Ql false hE [4] rfl (asK [] rfl) rfl
 ·
  rintro j_1_4 hE
  try dsimp only
  have hm:=hLj_1
  rw [hE] at hm
  refine Qn ?_
  have hE:=(Option.some.inj hm).symm
  replace hE:=hE.symm
  subst hE
  refine Qp (Hr:=[]) [] Tryz.results38 (Qd rfl) ⟨rfl,rfl,rfl⟩ (asK [] rfl) rfl rfl (.inl rfl)
theorem ap_putValues (g:Nat) (p6:Option Addr) (c6:Nat) (h6:List Hdr) (p7:Option Addr) (c7:Nat) (h7:List Hdr) (p19:Option Addr) (c19:Nat) (h19:List Hdr) (p26:Option Addr) (c26:Nat) (h26:List Hdr) (p:Option Addr) (n c:Nat) (hL6:h6.length + 1 ≤ 1073741824) (hB6:Bd h6) (hn:n ≤ 10000):Q1v Tryz.prog 146 [.pointer (some ⟨g,0,none⟩),.slice p n c] [] [.blk g [.slice none 0 0,.slice none 0 0,.slice none 0 0,.slice none 0 0,.slice none 0 0,.slice none 0 0,.slice p6 h6.length c6,.slice p7 h7.length c7,.slice none 0 0,.slice none 0 0,.slice none 0 0,.slice none 0 0,.slice none 0 0,.slice none 0 0,.slice none 0 0,.slice none 0 0,.slice none 0 0,.slice none 0 0,.slice none 0 0,.slice p19 h19.length c19,.slice none 0 0,.slice none 0 0,.slice none 0 0,.slice none 0 0,.slice none 0 0,.slice none 0 0,.slice p26 h26.length c26,.slice none 0 0,.slice none 0 0] 109,.own 25 1 QF (.slice p6 h6.length c6) h6,Qk 149 3 (h6.map Q1c),Qk 149 3 ([Q1c (p,n,c)])] (fun v Φr Hr=>∃ (q6:Option Addr) (d6:Nat) (k6:List Hdr),k6.length ≤ h6.length + 1 ∧ Bd k6 ∧ k6 = h6 ++ ([(p,n,c)] : List Hdr) ∧ v = .tuple #[] ∧ Φr = [] ∧ Hr = [.blk g [.slice none 0 0,.slice none 0 0,.slice none 0 0,.slice none 0 0,.slice none 0 0,.slice none 0 0,.slice q6 k6.length d6,.slice p7 h7.length c7,.slice none 0 0,.slice none 0 0,.slice none 0 0,.slice none 0 0,.slice none 0 0,.slice none 0 0,.slice none 0 0,.slice none 0 0,.slice none 0 0,.slice none 0 0,.slice none 0 0,.slice p19 h19.length c19,.slice none 0 0,.slice none 0 0,.slice none 0 0,.slice none 0 0,.slice none 0 0,.slice none 0 0,.slice p26 h26.length c26,.slice none 0 0,.slice none 0 0] 109,.own 25 1 QF (.slice q6 k6.length d6) k6,Qk 149 3 (k6.map Q1c)]):=by
 refine Qx Tryz.func146 rfl Tryz.ntmps146 rfl (S:=[_,_]) rfl (fun C=>(Q1 (wP rfl (wP rfl (wP rfl (wF rfl tF_109_6 (wD 0 6 rfl tS_87 tA_87 rfl (wP rfl (QJ rfl rfl rfl (Q0 rfl) rfl Q5T Q1Z tZ_25 rfl (zs:=[.slice none 0 0]) (by kernel_rfl) rfl (out:=[_]) rfl (fun g10=>(Q3c ([(p,n,c)] : List Hdr) 2 0 rfl rfl rfl (Q0 rfl) rfl rfl rfl rfl rfl (fun F w hφ=>⟨[_],[],rfl,rfl,rfl,rfl⟩) Q5T tR_25 rfl rfl (by simp; omega) (by simp; omega) (H2:=fun p11 c11=>[.blk g10 [.slice p n c] 25,.blk g [.slice none 0 0,.slice none 0 0,.slice none 0 0,.slice none 0 0,.slice none 0 0,.slice none 0 0,.slice p6 h6.length c6,.slice p7 h7.length c7,.slice none 0 0,.slice none 0 0,.slice none 0 0,.slice none 0 0,.slice none 0 0,.slice none 0 0,.slice none 0 0,.slice none 0 0,.slice none 0 0,.slice none 0 0,.slice none 0 0,.slice p19 h19.length c19,.slice none 0 0,.slice none 0 0,.slice none 0 0,.slice none 0 0,.slice none 0 0,.slice none 0 0,.slice p26 h26.length c26,.slice none 0 0,.slice none 0 0] 109,.own 25 1 QF (.slice p11 ((h6 ++ ([(p,n,c)] : List Hdr)).length) c11) (h6 ++ ([(p,n,c)] : List Hdr)),Qk 149 3 (h6.map Q1c),Qk 149 3 ([Q1c (p,n,c)])]) (fun _ _=>rfl) (fun p11 c11=>(Q2k 0 rfl (H':=[_,_,_,_]) rfl (wP rfl (wF rfl tF_109_6 (wS 0 6 rfl tS_87 (all':=[_,_,_,_,_,_,_,_,_,_,_,_,_,_,_,_,_,_,_,_,_,_,_,_,_,_,_,_,_]) rfl (H':=[_,_,_,_]) rfl ?_))))))))))))))))
 refine Q3 (Q3o [.blk g [.slice none 0 0,.slice none 0 0,.slice none 0 0,.slice none 0 0,.slice none 0 0,.slice none 0 0,.slice p11 ((h6 ++ ([(p,n,c)] : List Hdr)).length) c11,.slice p7 h7.length c7,.slice none 0 0,.slice none 0 0,.slice none 0 0,.slice none 0 0,.slice none 0 0,.slice none 0 0,.slice none 0 0,.slice none 0 0,.slice none 0 0,.slice none 0 0,.slice none 0 0,.slice p19 h19.length c19,.slice none 0 0,.slice none 0 0,.slice none 0 0,.slice none 0 0,.slice none 0 0,.slice none 0 0,.slice p26 h26.length c26,.slice none 0 0,.slice none 0 0] 109,.own 25 1 QF (.slice p11 ((h6 ++ ([(p,n,c)] : List Hdr)).length) c11) (h6 ++ ([(p,n,c)] : List Hdr)),Qk 149 3 ((h6 ++ [(p,n,c)]).map Q1c)] (fun _ h=>h.flPush 2 3 rfl rfl rfl) (Q5v (Hr:=[.blk g [.slice none 0 0,.slice none 0 0,.slice none 0 0,.slice none 0 0,.slice none 0 0,.slice none 0 0,.slice p11 ((h6 ++ ([(p,n,c)] : List Hdr)).length) c11,.slice p7 h7.length c7,.slice none 0 0,.slice none 0 0,.slice none 0 0,.slice none 0 0,.slice none 0 0,.slice none 0 0,.slice none 0 0,.slice none 0 0,.slice none 0 0,.slice none 0 0,.slice none 0 0,.slice p19 h19.length c19,.slice none 0 0,.slice none 0 0,.slice none 0 0,.slice none 0 0,.slice none 0 0,.slice none 0 0,.slice p26 h26.length c26,.slice none 0 0,.slice none 0 0] 109,.own 25 1 QF (.slice p11 ((h6 ++ ([(p,n,c)] : List Hdr)).length) c11) (h6 ++ ([(p,n,c)] : List Hdr)),Qk 149 3 ((h6 ++ [(p,n,c)]).map Q1c)]) [0,1,2] Tryz.results146 ?_ (asK [] rfl) rfl rfl (.inr rfl)))
 exact ⟨_,_,_,by simp,hB6.push hn,rfl,rfl,rfl,rfl⟩
theorem ap_oneFact (g:Nat) (p6:Option Addr) (c6:Nat) (h6:List Hdr) (p7:Option Addr) (c7:Nat) (h7:List Hdr) (p19:Option Addr) (c19:Nat) (h19:List Hdr) (p26:Option Addr) (c26:Nat) (h26:List Hdr) (a0:Int) (a1:Int) (p_2:Option Addr) (n_2 c_2:Nat) (hL6:h6.length + 1 ≤ 1073741824) (hB6:Bd h6) (b_2:n_2 ≤ 10000):Q1v Tryz.prog 158 [.pointer (some ⟨g,0,none⟩),.agg #[.int .i64 a0,.int .i64 a1,.slice p_2 n_2 c_2]] [] [.blk g [.slice none 0 0,.slice none 0 0,.slice none 0 0,.slice none 0 0,.slice none 0 0,.slice none 0 0,.slice p6 h6.length c6,.slice p7 h7.length c7,.slice none 0 0,.slice none 0 0,.slice none 0 0,.slice none 0 0,.slice none 0 0,.slice none 0 0,.slice none 0 0,.slice none 0 0,.slice none 0 0,.slice none 0 0,.slice none 0 0,.slice p19 h19.length c19,.slice none 0 0,.slice none 0 0,.slice none 0 0,.slice none 0 0,.slice none 0 0,.slice none 0 0,.slice p26 h26.length c26,.slice none 0 0,.slice none 0 0] 109,.own 25 1 QF (.slice p6 h6.length c6) h6,Qk 149 3 (h6.map Q1c),Qk 149 3 ([Q1c (p_2,n_2,c_2)])] (fun v Φr Hr=>∃ (q6:Option Addr) (d6:Nat) (k6:List Hdr),k6.length ≤ h6.length + 1 ∧ Bd k6 ∧ v = .tuple #[] ∧ Φr = [] ∧ Hr = [.blk g [.slice none 0 0,.slice none 0 0,.slice none 0 0,.slice none 0 0,.slice none 0 0,.slice none 0 0,.slice q6 k6.length d6,.slice p7 h7.length c7,.slice none 0 0,.slice none 0 0,.slice none 0 0,.slice none 0 0,.slice none 0 0,.slice none 0 0,.slice none 0 0,.slice none 0 0,.slice none 0 0,.slice none 0 0,.slice none 0 0,.slice p19 h19.length c19,.slice none 0 0,.slice none 0 0,.slice none 0 0,.slice none 0 0,.slice none 0 0,.slice none 0 0,.slice p26 h26.length c26,.slice none 0 0,.slice none 0 0] 109,.own 25 1 QF (.slice q6 k6.length d6) k6,Qk 149 3 (k6.map Q1c)]):=by
 refine Qx Tryz.func158 rfl Tryz.ntmps158 rfl (S:=[_,_]) rfl (fun C=>(Q4 (Q1 (wB rfl (fun g3=>(Q3 (Q2 (Q1 (wP rfl (wF rfl Q5e (wD 0 2 rfl Q1Z Q41 rfl (wC [1,2,3,4] [0] rfl fn_146 rfl (ap_putValues _ p6 c6 h6 p7 c7 h7 p19 c19 h19 p26 c26 h26 p_2 n_2 c_2 (by omega) hB6 b_2) (asK [] rfl) rfl (H':=[_]) rfl ?_))))))))))))
 rintro _ _ _ ⟨q6_1,d6_1,k6_1,hl6_1,hb6_1,hx_1,rfl,rfl,rfl⟩
 refine Q3 (Q5v (Hr:=[.blk g [.slice none 0 0,.slice none 0 0,.slice none 0 0,.slice none 0 0,.slice none 0 0,.slice none 0 0,.slice q6_1 k6_1.length d6_1,.slice p7 h7.length c7,.slice none 0 0,.slice none 0 0,.slice none 0 0,.slice none 0 0,.slice none 0 0,.slice none 0 0,.slice none 0 0,.slice none 0 0,.slice none 0 0,.slice none 0 0,.slice none 0 0,.slice p19 h19.length c19,.slice none 0 0,.slice none 0 0,.slice none 0 0,.slice none 0 0,.slice none 0 0,.slice none 0 0,.slice p26 h26.length c26,.slice none 0 0,.slice none 0 0] 109,.own 25 1 QF (.slice q6_1 k6_1.length d6_1) k6_1,Qk 149 3 (k6_1.map Q1c)]) [0,1,2] Tryz.results158 ?_ (asK [] rfl) rfl rfl (.inr rfl))
 exact ⟨_,_,_,by have:=hl6_1; omega,hb6_1,rfl,rfl,rfl⟩
theorem ap_putFacts (g:Nat) (p6:Option Addr) (c6:Nat) (h6:List Hdr) (p7:Option Addr) (c7:Nat) (h7:List Hdr) (p19:Option Addr) (c19:Nat) (h19:List Hdr) (p26:Option Addr) (c26:Nat) (h26:List Hdr) (p:Option Addr) (c:Nat) (xs:List FactD) (hL6:h6.length + 10000 ≤ 1073741824) (hB6:Bd h6) (hL7:h7.length + 1 ≤ 1073741824) (hB7:Bd h7) (hn:xs.length ≤ 10000) (hx : ∀ y ∈ xs,Q6n y):Q1v Tryz.prog 145 [.pointer (some ⟨g,0,none⟩),.slice p xs.length c] [] [.blk g [.slice none 0 0,.slice none 0 0,.slice none 0 0,.slice none 0 0,.slice none 0 0,.slice none 0 0,.slice p6 h6.length c6,.slice p7 h7.length c7,.slice none 0 0,.slice none 0 0,.slice none 0 0,.slice none 0 0,.slice none 0 0,.slice none 0 0,.slice none 0 0,.slice none 0 0,.slice none 0 0,.slice none 0 0,.slice none 0 0,.slice p19 h19.length c19,.slice none 0 0,.slice none 0 0,.slice none 0 0,.slice none 0 0,.slice none 0 0,.slice none 0 0,.slice p26 h26.length c26,.slice none 0 0,.slice none 0 0] 109,.own 25 1 QF (.slice p6 h6.length c6) h6,Qk 149 3 (h6.map Q1c),.own 24 1 QF (.slice p7 h7.length c7) h7,Qk 61 3 (h7.map Q1c),Qi Qf 61 3 (.slice p xs.length c) xs] (fun v Φr Hr=>∃ (q6:Option Addr) (d6:Nat) (k6:List Hdr) (q7:Option Addr) (d7:Nat) (k7:List Hdr),k6.length ≤ h6.length + 10000 ∧ Bd k6 ∧ k7.length ≤ h7.length + 1 ∧ Bd k7 ∧ v = .tuple #[] ∧ Φr = [] ∧ Hr = [.blk g [.slice none 0 0,.slice none 0 0,.slice none 0 0,.slice none 0 0,.slice none 0 0,.slice none 0 0,.slice q6 k6.length d6,.slice q7 k7.length d7,.slice none 0 0,.slice none 0 0,.slice none 0 0,.slice none 0 0,.slice none 0 0,.slice none 0 0,.slice none 0 0,.slice none 0 0,.slice none 0 0,.slice none 0 0,.slice none 0 0,.slice p19 h19.length c19,.slice none 0 0,.slice none 0 0,.slice none 0 0,.slice none 0 0,.slice none 0 0,.slice none 0 0,.slice p26 h26.length c26,.slice none 0 0,.slice none 0 0] 109,.own 25 1 QF (.slice q6 k6.length d6) k6,Qk 149 3 (k6.map Q1c),.own 24 1 QF (.slice q7 k7.length d7) k7,Qk 61 3 (k7.map Q1c)]):=by
 refine Qx Tryz.func145 rfl Tryz.ntmps145 rfl (S:=[_,_]) rfl (fun C=>(Q4 (Q1 (Q1q 5 rfl (fun zz hz0=>?_)))))
 have hzl:zz.length = xs.length:=Q12 hz0
 refine wP rfl (wP rfl (wP rfl (wF rfl tF_109_7 (wD 1 7 rfl tS_88 tA_88 rfl (wP rfl (QJ rfl rfl rfl (Q0 rfl) rfl Q5R Q31 tZ_24 rfl (zs:=[.slice none 0 0]) (by kernel_rfl) rfl (out:=[_]) rfl (fun g11=>(Q3c ([(p,xs.length,c)] : List Hdr) 5 0 rfl rfl rfl (Q0 rfl) rfl rfl rfl rfl rfl (fun F w hφ=>⟨[_],[],rfl,rfl,rfl,rfl⟩) Q5R tR_24 rfl rfl (by simp; omega) (by simp; omega) (H2:=fun p12 c12=>[.blk g11 [.slice p xs.length c] 24,QR Qf (zz.drop 0) none,.blk g [.slice none 0 0,.slice none 0 0,.slice none 0 0,.slice none 0 0,.slice none 0 0,.slice none 0 0,.slice p6 h6.length c6,.slice p7 h7.length c7,.slice none 0 0,.slice none 0 0,.slice none 0 0,.slice none 0 0,.slice none 0 0,.slice none 0 0,.slice none 0 0,.slice none 0 0,.slice none 0 0,.slice none 0 0,.slice none 0 0,.slice p19 h19.length c19,.slice none 0 0,.slice none 0 0,.slice none 0 0,.slice none 0 0,.slice none 0 0,.slice none 0 0,.slice p26 h26.length c26,.slice none 0 0,.slice none 0 0] 109,.own 25 1 QF (.slice p6 h6.length c6) h6,Qk 149 3 (h6.map Q1c),.own 24 1 QF (.slice p12 ((h7 ++ ([(p,xs.length,c)] : List Hdr)).length) c12) (h7 ++ ([(p,xs.length,c)] : List Hdr)),Qk 61 3 (h7.map Q1c),.own 61 3 Qf.pair (.slice p xs.length c) zz]) (fun _ _=>rfl) (fun p12 c12=>(Q2k 0 rfl (H':=[_,_,_,_,_,_,_]) rfl (wP rfl (wF rfl tF_109_7 (wS 1 7 rfl tS_88 (all':=[_,_,_,_,_,_,_,_,_,_,_,_,_,_,_,_,_,_,_,_,_,_,_,_,_,_,_,_,_]) rfl (H':=[_,_,_,_,_,_,_]) rfl (Q3 (Q2 ?_)))))))))))))))
 refine Q5 [0,1] (S':=[_,_]) rfl (Q4 (Q1 (wP rfl (Q3 (Q2 (Qc (QI (σ:=Option Addr × Nat × List Hdr × Nat) (fun s=>s.2.2.2 ≤ xs.length ∧ s.2.2.1.length ≤ h6.length + s.2.2.2 * 1 ∧ Bd s.2.2.1) (fun s=>xs.length - s.2.2.2) (fun s=>[(4,.int .i64 ((s.2.2.2:Nat):Int)),(0,.pointer (some ⟨g,0,none⟩)),(1,.slice p xs.length c)]) (fun s=>[]) (fun s=>[QR Qf (zz.drop s.2.2.2) none,.blk g [.slice none 0 0,.slice none 0 0,.slice none 0 0,.slice none 0 0,.slice none 0 0,.slice none 0 0,.slice s.1 s.2.2.1.length s.2.1,.slice p12 ((h7 ++ ([(p,xs.length,c)] : List Hdr)).length) c12,.slice none 0 0,.slice none 0 0,.slice none 0 0,.slice none 0 0,.slice none 0 0,.slice none 0 0,.slice none 0 0,.slice none 0 0,.slice none 0 0,.slice none 0 0,.slice none 0 0,.slice p19 h19.length c19,.slice none 0 0,.slice none 0 0,.slice none 0 0,.slice none 0 0,.slice none 0 0,.slice none 0 0,.slice p26 h26.length c26,.slice none 0 0,.slice none 0 0] 109,.own 25 1 QF (.slice s.1 s.2.2.1.length s.2.1) s.2.2.1,Qk 149 3 (s.2.2.1.map Q1c),.own 24 1 QF (.slice p12 ((h7 ++ ([(p,xs.length,c)] : List Hdr)).length) c12) (h7 ++ ([(p,xs.length,c)] : List Hdr)),Qk 61 3 (h7.map Q1c),.own 61 3 Qf.pair (.slice p xs.length c) zz]) (p6,c6,h6,0) ⟨Nat.zero_le _,Nat.le_add_right _ _,hB6⟩ [4,0,1] rfl (asK [] rfl) rfl (fun s1 oks1=>(Q4 (Q4 (Q1 (wP rfl (wP rfl (wN rfl Q1s ?_))))))))))))))
 refine wP rfl (Q3 (Q2 (Q5 [18,4,0,1] (S':=[_,_,_,_]) rfl ?_)))
 refine Qm rfl (fun h18=>?_) (fun h18=>?_)
 ·
  replace h18:=of_decide_eq_true h18
  have hi1:s1.2.2.2 < zz.length:=by omega
  obtain ⟨z1,hz1⟩ : ∃ z,zz[s1.2.2.2]? = some z:=⟨_,List.getElem?_eq_getElem hi1⟩
  have hxs:=hx z1.1 (by rw [← hz0]; exact List.mem_map_of_mem (List.mem_of_getElem? hz1))
  unfold Q6n at hxs
  obtain ⟨hi2,hl6,hb6⟩:=oks1
  refine Qj (Q2 (Q4 (Qc (Q1 (wP rfl (wP rfl (wP rfl (Q1r 6 s1.2.2.2 rfl rfl rfl (Q0 rfl) rfl rfl rfl rfl rfl hi1 Q1s Q1G (fun g24 eg24=>?_)))))))))
  subst eg24
  refine QU Q4W 6 s1.2.2.2 0 rfl rfl rfl (Q0 rfl) rfl rfl rfl hz1 Q1G Q59 (v:=fun _=>.agg #[.int .i64 (z1.1.id),.int .i64 (z1.1.ty),.slice z1.2.1 z1.1.args.length z1.2.2]) (fun _=>rfl) (fun _=>rfl) (fun _ _=>(Qv [.own 149 3 R_V (.slice z1.2.1 z1.1.args.length z1.2.2) z1.1.args,QR Qf (zz.drop (s1.2.2.2 + 1)) none,.blk g [.slice none 0 0,.slice none 0 0,.slice none 0 0,.slice none 0 0,.slice none 0 0,.slice none 0 0,.slice s1.1 s1.2.2.1.length s1.2.1,.slice p12 ((h7 ++ ([((some ⟨g24,0,none⟩),xs.length,c)] : List Hdr)).length) c12,.slice none 0 0,.slice none 0 0,.slice none 0 0,.slice none 0 0,.slice none 0 0,.slice none 0 0,.slice none 0 0,.slice none 0 0,.slice none 0 0,.slice none 0 0,.slice none 0 0,.slice p19 h19.length c19,.slice none 0 0,.slice none 0 0,.slice none 0 0,.slice none 0 0,.slice none 0 0,.slice none 0 0,.slice p26 h26.length c26,.slice none 0 0,.slice none 0 0] 109,.own 25 1 QF (.slice s1.1 s1.2.2.1.length s1.2.1) s1.2.2.1,Qk 149 3 (s1.2.2.1.map Q1c),.own 24 1 QF (.slice p12 ((h7 ++ ([((some ⟨g24,0,none⟩),xs.length,c)] : List Hdr)).length) c12) (h7 ++ ([((some ⟨g24,0,none⟩),xs.length,c)] : List Hdr)),Qk 61 3 (h7.map Q1c),.own 61 3 Qf.pair (.slice (some ⟨g24,0,none⟩) xs.length c) zz] (fun _ h=>h.bagUncons 0 rfl hz1) (Qv [Qk 149 3 ([Q1c (z1.2.1,z1.1.args.length,z1.2.2)]),QR Qf (zz.drop (s1.2.2.2 + 1)) none,.blk g [.slice none 0 0,.slice none 0 0,.slice none 0 0,.slice none 0 0,.slice none 0 0,.slice none 0 0,.slice s1.1 s1.2.2.1.length s1.2.1,.slice p12 ((h7 ++ ([((some ⟨g24,0,none⟩),xs.length,c)] : List Hdr)).length) c12,.slice none 0 0,.slice none 0 0,.slice none 0 0,.slice none 0 0,.slice none 0 0,.slice none 0 0,.slice none 0 0,.slice none 0 0,.slice none 0 0,.slice none 0 0,.slice none 0 0,.slice p19 h19.length c19,.slice none 0 0,.slice none 0 0,.slice none 0 0,.slice none 0 0,.slice none 0 0,.slice none 0 0,.slice p26 h26.length c26,.slice none 0 0,.slice none 0 0] 109,.own 25 1 QF (.slice s1.1 s1.2.2.1.length s1.2.1) s1.2.2.1,Qk 149 3 (s1.2.2.1.map Q1c),.own 24 1 QF (.slice p12 ((h7 ++ ([((some ⟨g24,0,none⟩),xs.length,c)] : List Hdr)).length) c12) (h7 ++ ([((some ⟨g24,0,none⟩),xs.length,c)] : List Hdr)),Qk 61 3 (h7.map Q1c),.own 61 3 Qf.pair (.slice (some ⟨g24,0,none⟩) xs.length c) zz] (fun _ h=>h.flOne 0 rfl) (wC [2,3,4,0] [1,5,6,7] rfl fn_158 rfl (ap_oneFact _ s1.1 s1.2.1 s1.2.2.1 p12 c12 (h7 ++ ([((some ⟨g24,0,none⟩),xs.length,c)] : List Hdr)) p19 c19 h19 p26 c26 h26 z1.1.id z1.1.ty z1.2.1 z1.1.args.length z1.2.2 (by omega) hb6 hxs) (asK [] rfl) rfl (H':=[_,_,_,_]) rfl ?_))))
  rintro _ _ _ ⟨q6_1,d6_1,k6_1,hl6_1,hb6_1,rfl,rfl,rfl⟩
  refine Q3 (Qa (Q2 (Q1 (wP rfl (wP rfl (Qr (d:=20) (v':=.int .i64 ((s1.2.2.2 + 1:Nat):Int)) (S':=[_,_,_,_,_,_,_,_,_,_,_]) rfl rfl (Qw (a:=s1.2.2.2) (b:=1) (by omega)) (Qs (S':=[_,_,_,_,_,_,_,_,_,_,_]) rfl rfl rfl rfl rfl (Q3 (QE [3,0,1,2,4,5,6] rfl (H':=[_,_,_,_,_,_,_]) rfl ?_)))))))))
  refine Q16 (q6_1,d6_1,k6_1,s1.2.2.2 + 1) (by show xs.length - (s1.2.2.2 + 1) < xs.length - s1.2.2.2; omega) ⟨by show s1.2.2.2 + 1 ≤ _; omega,by have:=hl6_1; show List.length (k6_1) ≤ _ + (s1.2.2.2 + 1) * _; omega,hb6_1⟩ [4,0,1] rfl (asK [] rfl) rfl
 ·
  replace h18:=of_decide_eq_false h18
  obtain ⟨hi2,hl6,hb6⟩:=oks1
  refine QH (Q8 (Q8 (Qh (Q3o [QR Qf (zz.drop s1.2.2.2) none,.blk g [.slice none 0 0,.slice none 0 0,.slice none 0 0,.slice none 0 0,.slice none 0 0,.slice none 0 0,.slice s1.1 s1.2.2.1.length s1.2.1,.slice p12 ((h7 ++ ([(p,xs.length,c)] : List Hdr)).length) c12,.slice none 0 0,.slice none 0 0,.slice none 0 0,.slice none 0 0,.slice none 0 0,.slice none 0 0,.slice none 0 0,.slice none 0 0,.slice none 0 0,.slice none 0 0,.slice none 0 0,.slice p19 h19.length c19,.slice none 0 0,.slice none 0 0,.slice none 0 0,.slice none 0 0,.slice none 0 0,.slice none 0 0,.slice p26 h26.length c26,.slice none 0 0,.slice none 0 0] 109,.own 25 1 QF (.slice s1.1 s1.2.2.1.length s1.2.1) s1.2.2.1,Qk 149 3 (s1.2.2.1.map Q1c),.own 24 1 QF (.slice p12 ((h7 ++ ([(p,xs.length,c)] : List Hdr)).length) c12) (h7 ++ ([(p,xs.length,c)] : List Hdr)),Qk 61 3 (h7.map Q1c),Qk 61 3 [Q1c (p,xs.length,c)]] (fun _ h=>by have h2:=h.flOne 6 rfl; exact h2) (Q3o [QR Qf (zz.drop s1.2.2.2) none,.blk g [.slice none 0 0,.slice none 0 0,.slice none 0 0,.slice none 0 0,.slice none 0 0,.slice none 0 0,.slice s1.1 s1.2.2.1.length s1.2.1,.slice p12 ((h7 ++ ([(p,xs.length,c)] : List Hdr)).length) c12,.slice none 0 0,.slice none 0 0,.slice none 0 0,.slice none 0 0,.slice none 0 0,.slice none 0 0,.slice none 0 0,.slice none 0 0,.slice none 0 0,.slice none 0 0,.slice none 0 0,.slice p19 h19.length c19,.slice none 0 0,.slice none 0 0,.slice none 0 0,.slice none 0 0,.slice none 0 0,.slice none 0 0,.slice p26 h26.length c26,.slice none 0 0,.slice none 0 0] 109,.own 25 1 QF (.slice s1.1 s1.2.2.1.length s1.2.1) s1.2.2.1,Qk 149 3 (s1.2.2.1.map Q1c),.own 24 1 QF (.slice p12 ((h7 ++ ([(p,xs.length,c)] : List Hdr)).length) c12) (h7 ++ ([(p,xs.length,c)] : List Hdr)),Qk 61 3 ((h7 ++ [(p,xs.length,c)]).map Q1c)] (fun _ h=>h.flPush 5 6 rfl rfl rfl) (Q5v (Hr:=[.blk g [.slice none 0 0,.slice none 0 0,.slice none 0 0,.slice none 0 0,.slice none 0 0,.slice none 0 0,.slice s1.1 s1.2.2.1.length s1.2.1,.slice p12 ((h7 ++ ([(p,xs.length,c)] : List Hdr)).length) c12,.slice none 0 0,.slice none 0 0,.slice none 0 0,.slice none 0 0,.slice none 0 0,.slice none 0 0,.slice none 0 0,.slice none 0 0,.slice none 0 0,.slice none 0 0,.slice none 0 0,.slice p19 h19.length c19,.slice none 0 0,.slice none 0 0,.slice none 0 0,.slice none 0 0,.slice none 0 0,.slice none 0 0,.slice p26 h26.length c26,.slice none 0 0,.slice none 0 0] 109,.own 25 1 QF (.slice s1.1 s1.2.2.1.length s1.2.1) s1.2.2.1,Qk 149 3 (s1.2.2.1.map Q1c),.own 24 1 QF (.slice p12 ((h7 ++ ([(p,xs.length,c)] : List Hdr)).length) c12) (h7 ++ ([(p,xs.length,c)] : List Hdr)),Qk 61 3 ((h7 ++ [(p,xs.length,c)]).map Q1c)]) [1,2,3,4,5] Tryz.results145 ?_ (asK [] rfl) rfl rfl (.inr rfl)))))))
  exact ⟨_,_,_,_,_,_,by have h9:=hl6; have h8:s1.2.2.2 * 1 ≤ 10000 * 1:=Nat.mul_le_mul_right _ (Nat.le_trans hi2 hn); omega,hb6,by simp,hB7.push hn,rfl,rfl,rfl⟩
theorem ap_oneReply (g:Nat) (p6:Option Addr) (c6:Nat) (h6:List Hdr) (p7:Option Addr) (c7:Nat) (h7:List Hdr) (p19:Option Addr) (c19:Nat) (h19:List Hdr) (p26:Option Addr) (c26:Nat) (h26:List Hdr) (a0:Int) (a1:Int) (p_2:Option Addr) (c_2:Nat) (l_2:List FactD) (p_3:Option Addr) (n_3 c_3:Nat) (hL6:h6.length + 10001 ≤ 1073741824) (hB6:Bd h6) (hL7:h7.length + 1 ≤ 1073741824) (hB7:Bd h7) (b_2:l_2.length ≤ 10000) (x_2 : ∀ y ∈ l_2,Q6n y) (b_3:n_3 ≤ 10000):Q1v Tryz.prog 103 [.pointer (some ⟨g,0,none⟩),.agg #[.int .i64 a0,.int .i64 a1,.slice p_2 l_2.length c_2,.slice p_3 n_3 c_3]] [] [.blk g [.slice none 0 0,.slice none 0 0,.slice none 0 0,.slice none 0 0,.slice none 0 0,.slice none 0 0,.slice p6 h6.length c6,.slice p7 h7.length c7,.slice none 0 0,.slice none 0 0,.slice none 0 0,.slice none 0 0,.slice none 0 0,.slice none 0 0,.slice none 0 0,.slice none 0 0,.slice none 0 0,.slice none 0 0,.slice none 0 0,.slice p19 h19.length c19,.slice none 0 0,.slice none 0 0,.slice none 0 0,.slice none 0 0,.slice none 0 0,.slice none 0 0,.slice p26 h26.length c26,.slice none 0 0,.slice none 0 0] 109,.own 25 1 QF (.slice p6 h6.length c6) h6,Qk 149 3 (h6.map Q1c),.own 24 1 QF (.slice p7 h7.length c7) h7,Qk 61 3 (h7.map Q1c),Qi Qf 61 3 (.slice p_2 l_2.length c_2) l_2,Qk 149 3 ([Q1c (p_3,n_3,c_3)])] (fun v Φr Hr=>∃ (q6:Option Addr) (d6:Nat) (k6:List Hdr) (q7:Option Addr) (d7:Nat) (k7:List Hdr),k6.length ≤ h6.length + 10001 ∧ Bd k6 ∧ k7.length ≤ h7.length + 1 ∧ Bd k7 ∧ v = .tuple #[] ∧ Φr = [] ∧ Hr = [.blk g [.slice none 0 0,.slice none 0 0,.slice none 0 0,.slice none 0 0,.slice none 0 0,.slice none 0 0,.slice q6 k6.length d6,.slice q7 k7.length d7,.slice none 0 0,.slice none 0 0,.slice none 0 0,.slice none 0 0,.slice none 0 0,.slice none 0 0,.slice none 0 0,.slice none 0 0,.slice none 0 0,.slice none 0 0,.slice none 0 0,.slice p19 h19.length c19,.slice none 0 0,.slice none 0 0,.slice none 0 0,.slice none 0 0,.slice none 0 0,.slice none 0 0,.slice p26 h26.length c26,.slice none 0 0,.slice none 0 0] 109,.own 25 1 QF (.slice q6 k6.length d6) k6,Qk 149 3 (k6.map Q1c),.own 24 1 QF (.slice q7 k7.length d7) k7,Qk 61 3 (k7.map Q1c)]):=by
 refine Qx Tryz.func103 rfl Tryz.ntmps103 rfl (S:=[_,_]) rfl (fun C=>(Q4 (Q1 (wB rfl (fun g3=>(Q3 (Q2 (Q4 (Q1 (wP rfl (wF rfl Q4g (wD 0 2 rfl Q31 Q4R rfl (wC [1,2,3,4,5,6] [0,7] rfl fn_145 rfl (ap_putFacts _ p6 c6 h6 p7 c7 h7 p19 c19 h19 p26 c26 h26 p_2 c_2 l_2 (by omega) hB6 (by omega) hB7 b_2 x_2) (asK [] rfl) rfl (H':=[_,_]) rfl ?_)))))))))))))
 rintro _ _ _ ⟨q6_1,d6_1,k6_1,q7_1,d7_1,k7_1,hl6_1,hb6_1,hl7_1,hb7_1,rfl,rfl,rfl⟩
 refine Q3 (Q2 (Q5 [3,0,1] (S':=[_,_,_]) rfl (Q1 (wP rfl (wF rfl Q5b (wD 5 3 rfl Q1Z Q41 rfl (wC [0,1,2,6] [3,4,5] rfl fn_146 rfl (ap_putValues _ q6_1 d6_1 k6_1 q7_1 d7_1 k7_1 p19 c19 h19 p26 c26 h26 p_3 n_3 c_3 (by omega) hb6_1 b_3) (asK [] rfl) rfl (H':=[_,_,_]) rfl ?_)))))))
 rintro _ _ _ ⟨q6_2,d6_2,k6_2,hl6_2,hb6_2,hx_2,rfl,rfl,rfl⟩
 refine Q3 (Q5v (Hr:=[.blk g [.slice none 0 0,.slice none 0 0,.slice none 0 0,.slice none 0 0,.slice none 0 0,.slice none 0 0,.slice q6_2 k6_2.length d6_2,.slice q7_1 k7_1.length d7_1,.slice none 0 0,.slice none 0 0,.slice none 0 0,.slice none 0 0,.slice none 0 0,.slice none 0 0,.slice none 0 0,.slice none 0 0,.slice none 0 0,.slice none 0 0,.slice none 0 0,.slice p19 h19.length c19,.slice none 0 0,.slice none 0 0,.slice none 0 0,.slice none 0 0,.slice none 0 0,.slice none 0 0,.slice p26 h26.length c26,.slice none 0 0,.slice none 0 0] 109,.own 25 1 QF (.slice q6_2 k6_2.length d6_2) k6_2,Qk 149 3 (k6_2.map Q1c),.own 24 1 QF (.slice q7_1 k7_1.length d7_1) k7_1,Qk 61 3 (k7_1.map Q1c)]) [0,1,2,3,4] Tryz.results103 ?_ (asK [] rfl) rfl rfl (.inr rfl))
 exact ⟨_,_,_,_,_,_,by have:=hl6_1; have:=hl6_2; omega,hb6_2,by have:=hl7_1; omega,hb7_1,rfl,rfl,rfl⟩
theorem ap_putReplies (g:Nat) (p6:Option Addr) (c6:Nat) (h6:List Hdr) (p7:Option Addr) (c7:Nat) (h7:List Hdr) (p19:Option Addr) (c19:Nat) (h19:List Hdr) (p26:Option Addr) (c26:Nat) (h26:List Hdr) (p:Option Addr) (c:Nat) (xs:List ReplyD) (hL6:h6.length + 100010000 ≤ 1073741824) (hB6:Bd h6) (hL7:h7.length + 10000 ≤ 1073741824) (hB7:Bd h7) (hL19:h19.length + 1 ≤ 1073741824) (hB19:Bd h19) (hn:xs.length ≤ 10000) (hx : ∀ y ∈ xs,Q6v y):Q1v Tryz.prog 61 [.pointer (some ⟨g,0,none⟩),.slice p xs.length c] [] [.blk g [.slice none 0 0,.slice none 0 0,.slice none 0 0,.slice none 0 0,.slice none 0 0,.slice none 0 0,.slice p6 h6.length c6,.slice p7 h7.length c7,.slice none 0 0,.slice none 0 0,.slice none 0 0,.slice none 0 0,.slice none 0 0,.slice none 0 0,.slice none 0 0,.slice none 0 0,.slice none 0 0,.slice none 0 0,.slice none 0 0,.slice p19 h19.length c19,.slice none 0 0,.slice none 0 0,.slice none 0 0,.slice none 0 0,.slice none 0 0,.slice none 0 0,.slice p26 h26.length c26,.slice none 0 0,.slice none 0 0] 109,.own 25 1 QF (.slice p6 h6.length c6) h6,Qk 149 3 (h6.map Q1c),.own 24 1 QF (.slice p7 h7.length c7) h7,Qk 61 3 (h7.map Q1c),.own 77 1 QF (.slice p19 h19.length c19) h19,Qk 27 4 (h19.map Q1c),Qi Q2D 27 4 (.slice p xs.length c) xs] (fun v Φr Hr=>∃ (q6:Option Addr) (d6:Nat) (k6:List Hdr) (q7:Option Addr) (d7:Nat) (k7:List Hdr) (q19:Option Addr) (d19:Nat) (k19:List Hdr),k6.length ≤ h6.length + 100010000 ∧ Bd k6 ∧ k7.length ≤ h7.length + 10000 ∧ Bd k7 ∧ k19.length ≤ h19.length + 1 ∧ Bd k19 ∧ v = .tuple #[] ∧ Φr = [] ∧ Hr = [.blk g [.slice none 0 0,.slice none 0 0,.slice none 0 0,.slice none 0 0,.slice none 0 0,.slice none 0 0,.slice q6 k6.length d6,.slice q7 k7.length d7,.slice none 0 0,.slice none 0 0,.slice none 0 0,.slice none 0 0,.slice none 0 0,.slice none 0 0,.slice none 0 0,.slice none 0 0,.slice none 0 0,.slice none 0 0,.slice none 0 0,.slice q19 k19.length d19,.slice none 0 0,.slice none 0 0,.slice none 0 0,.slice none 0 0,.slice none 0 0,.slice none 0 0,.slice p26 h26.length c26,.slice none 0 0,.slice none 0 0] 109,.own 25 1 QF (.slice q6 k6.length d6) k6,Qk 149 3 (k6.map Q1c),.own 24 1 QF (.slice q7 k7.length d7) k7,Qk 61 3 (k7.map Q1c),.own 77 1 QF (.slice q19 k19.length d19) k19,Qk 27 4 (k19.map Q1c)]):=by
 refine Qx Tryz.func61 rfl Tryz.ntmps61 rfl (S:=[_,_]) rfl (fun C=>(Q4 (Q1 (Q1q 7 rfl (fun zz hz0=>?_)))))
 have hzl:zz.length = xs.length:=Q12 hz0
 refine wP rfl (wP rfl (wP rfl (wF rfl tF_109_19 (wD 1 19 rfl tS_78 tA_78 rfl (wP rfl (QJ rfl rfl rfl (Q0 rfl) rfl Q5o Q4P tZ_77 rfl (zs:=[.slice none 0 0]) (by kernel_rfl) rfl (out:=[_]) rfl (fun g11=>(Q3c ([(p,xs.length,c)] : List Hdr) 7 0 rfl rfl rfl (Q0 rfl) rfl rfl rfl rfl rfl (fun F w hφ=>⟨[_],[],rfl,rfl,rfl,rfl⟩) Q5o tR_77 rfl rfl (by simp; omega) (by simp; omega) (H2:=fun p12 c12=>[.blk g11 [.slice p xs.length c] 77,QR Q2D (zz.drop 0) none,.blk g [.slice none 0 0,.slice none 0 0,.slice none 0 0,.slice none 0 0,.slice none 0 0,.slice none 0 0,.slice p6 h6.length c6,.slice p7 h7.length c7,.slice none 0 0,.slice none 0 0,.slice none 0 0,.slice none 0 0,.slice none 0 0,.slice none 0 0,.slice none 0 0,.slice none 0 0,.slice none 0 0,.slice none 0 0,.slice none 0 0,.slice p19 h19.length c19,.slice none 0 0,.slice none 0 0,.slice none 0 0,.slice none 0 0,.slice none 0 0,.slice none 0 0,.slice p26 h26.length c26,.slice none 0 0,.slice none 0 0] 109,.own 25 1 QF (.slice p6 h6.length c6) h6,Qk 149 3 (h6.map Q1c),.own 24 1 QF (.slice p7 h7.length c7) h7,Qk 61 3 (h7.map Q1c),.own 77 1 QF (.slice p12 ((h19 ++ ([(p,xs.length,c)] : List Hdr)).length) c12) (h19 ++ ([(p,xs.length,c)] : List Hdr)),Qk 27 4 (h19.map Q1c),.own 27 4 Q2D.pair (.slice p xs.length c) zz]) (fun _ _=>rfl) (fun p12 c12=>(Q2k 0 rfl (H':=[_,_,_,_,_,_,_,_,_]) rfl (wP rfl (wF rfl tF_109_19 (wS 1 19 rfl tS_78 (all':=[_,_,_,_,_,_,_,_,_,_,_,_,_,_,_,_,_,_,_,_,_,_,_,_,_,_,_,_,_]) rfl (H':=[_,_,_,_,_,_,_,_,_]) rfl (Q3 (Q2 ?_)))))))))))))))
 refine Q5 [0,1] (S':=[_,_]) rfl (Q4 (Q1 (wP rfl (Q3 (Q2 (Qc (QI (σ:=Option Addr × Nat × List Hdr × Option Addr × Nat × List Hdr × Nat) (fun s=>s.2.2.2.2.2.2 ≤ xs.length ∧ s.2.2.1.length ≤ h6.length + s.2.2.2.2.2.2 * 10001 ∧ Bd s.2.2.1 ∧ s.2.2.2.2.2.1.length ≤ h7.length + s.2.2.2.2.2.2 * 1 ∧ Bd s.2.2.2.2.2.1) (fun s=>xs.length - s.2.2.2.2.2.2) (fun s=>[(4,.int .i64 ((s.2.2.2.2.2.2:Nat):Int)),(0,.pointer (some ⟨g,0,none⟩)),(1,.slice p xs.length c)]) (fun s=>[]) (fun s=>[QR Q2D (zz.drop s.2.2.2.2.2.2) none,.blk g [.slice none 0 0,.slice none 0 0,.slice none 0 0,.slice none 0 0,.slice none 0 0,.slice none 0 0,.slice s.1 s.2.2.1.length s.2.1,.slice s.2.2.2.1 s.2.2.2.2.2.1.length s.2.2.2.2.1,.slice none 0 0,.slice none 0 0,.slice none 0 0,.slice none 0 0,.slice none 0 0,.slice none 0 0,.slice none 0 0,.slice none 0 0,.slice none 0 0,.slice none 0 0,.slice none 0 0,.slice p12 ((h19 ++ ([(p,xs.length,c)] : List Hdr)).length) c12,.slice none 0 0,.slice none 0 0,.slice none 0 0,.slice none 0 0,.slice none 0 0,.slice none 0 0,.slice p26 h26.length c26,.slice none 0 0,.slice none 0 0] 109,.own 25 1 QF (.slice s.1 s.2.2.1.length s.2.1) s.2.2.1,Qk 149 3 (s.2.2.1.map Q1c),.own 24 1 QF (.slice s.2.2.2.1 s.2.2.2.2.2.1.length s.2.2.2.2.1) s.2.2.2.2.2.1,Qk 61 3 (s.2.2.2.2.2.1.map Q1c),.own 77 1 QF (.slice p12 ((h19 ++ ([(p,xs.length,c)] : List Hdr)).length) c12) (h19 ++ ([(p,xs.length,c)] : List Hdr)),Qk 27 4 (h19.map Q1c),.own 27 4 Q2D.pair (.slice p xs.length c) zz]) (p6,c6,h6,p7,c7,h7,0) ⟨Nat.zero_le _,Nat.le_add_right _ _,hB6,Nat.le_add_right _ _,hB7⟩ [4,0,1] rfl (asK [] rfl) rfl (fun s1 oks1=>(Q4 (Q4 (Q1 (wP rfl (wP rfl (wN rfl Q6F ?_))))))))))))))
 refine wP rfl (Q3 (Q2 (Q5 [18,4,0,1] (S':=[_,_,_,_]) rfl ?_)))
 refine Qm rfl (fun h18=>?_) (fun h18=>?_)
 ·
  replace h18:=of_decide_eq_true h18
  have hi1:s1.2.2.2.2.2.2 < zz.length:=by omega
  obtain ⟨z1,hz1⟩ : ∃ z,zz[s1.2.2.2.2.2.2]? = some z:=⟨_,List.getElem?_eq_getElem hi1⟩
  have hxs:=hx z1.1 (by rw [← hz0]; exact List.mem_map_of_mem (List.mem_of_getElem? hz1))
  unfold Q6v at hxs
  obtain ⟨hi2,hl6,hb6,hl7,hb7⟩:=oks1
  refine Qj (Q2 (Q4 (Qc (Q1 (wP rfl (wP rfl (wP rfl (Q1r 8 s1.2.2.2.2.2.2 rfl rfl rfl (Q0 rfl) rfl rfl rfl rfl rfl hi1 Q6F Q11 (fun g24 eg24=>?_)))))))))
  subst eg24
  refine QU Q4W 8 s1.2.2.2.2.2.2 0 rfl rfl rfl (Q0 rfl) rfl rfl rfl hz1 Q11 Q1W (v:=fun _=>.agg #[.int .i64 (z1.1.err),.int .i64 (z1.1.num),.slice z1.2.1.1 z1.1.facts.length z1.2.1.2,.slice z1.2.2.1 z1.1.said.length z1.2.2.2]) (fun _=>rfl) (fun _=>rfl) (fun _ _=>(Qv [.own 149 3 R_V (.slice z1.2.2.1 z1.1.said.length z1.2.2.2) z1.1.said,Qi Qf 61 3 (.slice z1.2.1.1 z1.1.facts.length z1.2.1.2) z1.1.facts,QR Q2D (zz.drop (s1.2.2.2.2.2.2 + 1)) none,.blk g [.slice none 0 0,.slice none 0 0,.slice none 0 0,.slice none 0 0,.slice none 0 0,.slice none 0 0,.slice s1.1 s1.2.2.1.length s1.2.1,.slice s1.2.2.2.1 s1.2.2.2.2.2.1.length s1.2.2.2.2.1,.slice none 0 0,.slice none 0 0,.slice none 0 0,.slice none 0 0,.slice none 0 0,.slice none 0 0,.slice none 0 0,.slice none 0 0,.slice none 0 0,.slice none 0 0,.slice none 0 0,.slice p12 ((h19 ++ ([((some ⟨g24,0,none⟩),xs.length,c)] : List Hdr)).length) c12,.slice none 0 0,.slice none 0 0,.slice none 0 0,.slice none 0 0,.slice none 0 0,.slice none 0 0,.slice p26 h26.length c26,.slice none 0 0,.slice none 0 0] 109,.own 25 1 QF (.slice s1.1 s1.2.2.1.length s1.2.1) s1.2.2.1,Qk 149 3 (s1.2.2.1.map Q1c),.own 24 1 QF (.slice s1.2.2.2.1 s1.2.2.2.2.2.1.length s1.2.2.2.2.1) s1.2.2.2.2.2.1,Qk 61 3 (s1.2.2.2.2.2.1.map Q1c),.own 77 1 QF (.slice p12 ((h19 ++ ([((some ⟨g24,0,none⟩),xs.length,c)] : List Hdr)).length) c12) (h19 ++ ([((some ⟨g24,0,none⟩),xs.length,c)] : List Hdr)),Qk 27 4 (h19.map Q1c),.own 27 4 Q2D.pair (.slice (some ⟨g24,0,none⟩) xs.length c) zz] (fun _ h=>h.bagUncons 0 rfl hz1) (Qv [Qk 149 3 ([Q1c (z1.2.2.1,z1.1.said.length,z1.2.2.2)]),Qi Qf 61 3 (.slice z1.2.1.1 z1.1.facts.length z1.2.1.2) z1.1.facts,QR Q2D (zz.drop (s1.2.2.2.2.2.2 + 1)) none,.blk g [.slice none 0 0,.slice none 0 0,.slice none 0 0,.slice none 0 0,.slice none 0 0,.slice none 0 0,.slice s1.1 s1.2.2.1.length s1.2.1,.slice s1.2.2.2.1 s1.2.2.2.2.2.1.length s1.2.2.2.2.1,.slice none 0 0,.slice none 0 0,.slice none 0 0,.slice none 0 0,.slice none 0 0,.slice none 0 0,.slice none 0 0,.slice none 0 0,.slice none 0 0,.slice none 0 0,.slice none 0 0,.slice p12 ((h19 ++ ([((some ⟨g24,0,none⟩),xs.length,c)] : List Hdr)).length) c12,.slice none 0 0,.slice none 0 0,.slice none 0 0,.slice none 0 0,.slice none 0 0,.slice none 0 0,.slice p26 h26.length c26,.slice none 0 0,.slice none 0 0] 109,.own 25 1 QF (.slice s1.1 s1.2.2.1.length s1.2.1) s1.2.2.1,Qk 149 3 (s1.2.2.1.map Q1c),.own 24 1 QF (.slice s1.2.2.2.1 s1.2.2.2.2.2.1.length s1.2.2.2.2.1) s1.2.2.2.2.2.1,Qk 61 3 (s1.2.2.2.2.2.1.map Q1c),.own 77 1 QF (.slice p12 ((h19 ++ ([((some ⟨g24,0,none⟩),xs.length,c)] : List Hdr)).length) c12) (h19 ++ ([((some ⟨g24,0,none⟩),xs.length,c)] : List Hdr)),Qk 27 4 (h19.map Q1c),.own 27 4 Q2D.pair (.slice (some ⟨g24,0,none⟩) xs.length c) zz] (fun _ h=>h.flOne 0 rfl) (wC [3,4,5,6,7,1,0] [2,8,9,10] rfl fn_103 rfl (ap_oneReply _ s1.1 s1.2.1 s1.2.2.1 s1.2.2.2.1 s1.2.2.2.2.1 s1.2.2.2.2.2.1 p12 c12 (h19 ++ ([((some ⟨g24,0,none⟩),xs.length,c)] : List Hdr)) p26 c26 h26 z1.1.err z1.1.num z1.2.1.1 z1.2.1.2 z1.1.facts z1.2.2.1 z1.1.said.length z1.2.2.2 (by omega) hb6 (by omega) hb7 hxs.1 hxs.2.1 hxs.2.2) (asK [] rfl) rfl (H':=[_,_,_,_]) rfl ?_))))
  rintro _ _ _ ⟨q6_1,d6_1,k6_1,q7_1,d7_1,k7_1,hl6_1,hb6_1,hl7_1,hb7_1,rfl,rfl,rfl⟩
  refine Q3 (Qa (Q2 (Q1 (wP rfl (wP rfl (Qr (d:=20) (v':=.int .i64 ((s1.2.2.2.2.2.2 + 1:Nat):Int)) (S':=[_,_,_,_,_,_,_,_,_,_,_]) rfl rfl (Qw (a:=s1.2.2.2.2.2.2) (b:=1) (by omega)) (Qs (S':=[_,_,_,_,_,_,_,_,_,_,_]) rfl rfl rfl rfl rfl (Q3 (QE [5,0,1,2,3,4,6,7,8] rfl (H':=[_,_,_,_,_,_,_,_,_]) rfl ?_)))))))))
  refine Q16 (q6_1,d6_1,k6_1,q7_1,d7_1,k7_1,s1.2.2.2.2.2.2 + 1) (by show xs.length - (s1.2.2.2.2.2.2 + 1) < xs.length - s1.2.2.2.2.2.2; omega) ⟨by show s1.2.2.2.2.2.2 + 1 ≤ _; omega,by have:=hl6_1; show List.length (k6_1) ≤ _ + (s1.2.2.2.2.2.2 + 1) * _; omega,hb6_1,by have:=hl7_1; show List.length (k7_1) ≤ _ + (s1.2.2.2.2.2.2 + 1) * _; omega,hb7_1⟩ [4,0,1] rfl (asK [] rfl) rfl
 ·
  replace h18:=of_decide_eq_false h18
  obtain ⟨hi2,hl6,hb6,hl7,hb7⟩:=oks1
  refine QH (Q8 (Q8 (Qh (Q3o [QR Q2D (zz.drop s1.2.2.2.2.2.2) none,.blk g [.slice none 0 0,.slice none 0 0,.slice none 0 0,.slice none 0 0,.slice none 0 0,.slice none 0 0,.slice s1.1 s1.2.2.1.length s1.2.1,.slice s1.2.2.2.1 s1.2.2.2.2.2.1.length s1.2.2.2.2.1,.slice none 0 0,.slice none 0 0,.slice none 0 0,.slice none 0 0,.slice none 0 0,.slice none 0 0,.slice none 0 0,.slice none 0 0,.slice none 0 0,.slice none 0 0,.slice none 0 0,.slice p12 ((h19 ++ ([(p,xs.length,c)] : List Hdr)).length) c12,.slice none 0 0,.slice none 0 0,.slice none 0 0,.slice none 0 0,.slice none 0 0,.slice none 0 0,.slice p26 h26.length c26,.slice none 0 0,.slice none 0 0] 109,.own 25 1 QF (.slice s1.1 s1.2.2.1.length s1.2.1) s1.2.2.1,Qk 149 3 (s1.2.2.1.map Q1c),.own 24 1 QF (.slice s1.2.2.2.1 s1.2.2.2.2.2.1.length s1.2.2.2.2.1) s1.2.2.2.2.2.1,Qk 61 3 (s1.2.2.2.2.2.1.map Q1c),.own 77 1 QF (.slice p12 ((h19 ++ ([(p,xs.length,c)] : List Hdr)).length) c12) (h19 ++ ([(p,xs.length,c)] : List Hdr)),Qk 27 4 (h19.map Q1c),Qk 27 4 [Q1c (p,xs.length,c)]] (fun _ h=>by have h2:=h.flOne 8 rfl; exact h2) (Q3o [QR Q2D (zz.drop s1.2.2.2.2.2.2) none,.blk g [.slice none 0 0,.slice none 0 0,.slice none 0 0,.slice none 0 0,.slice none 0 0,.slice none 0 0,.slice s1.1 s1.2.2.1.length s1.2.1,.slice s1.2.2.2.1 s1.2.2.2.2.2.1.length s1.2.2.2.2.1,.slice none 0 0,.slice none 0 0,.slice none 0 0,.slice none 0 0,.slice none 0 0,.slice none 0 0,.slice none 0 0,.slice none 0 0,.slice none 0 0,.slice none 0 0,.slice none 0 0,.slice p12 ((h19 ++ ([(p,xs.length,c)] : List Hdr)).length) c12,.slice none 0 0,.slice none 0 0,.slice none 0 0,.slice none 0 0,.slice none 0 0,.slice none 0 0,.slice p26 h26.length c26,.slice none 0 0,.slice none 0 0] 109,.own 25 1 QF (.slice s1.1 s1.2.2.1.length s1.2.1) s1.2.2.1,Qk 149 3 (s1.2.2.1.map Q1c),.own 24 1 QF (.slice s1.2.2.2.1 s1.2.2.2.2.2.1.length s1.2.2.2.2.1) s1.2.2.2.2.2.1,Qk 61 3 (s1.2.2.2.2.2.1.map Q1c),.own 77 1 QF (.slice p12 ((h19 ++ ([(p,xs.length,c)] : List Hdr)).length) c12) (h19 ++ ([(p,xs.length,c)] : List Hdr)),Qk 27 4 ((h19 ++ [(p,xs.length,c)]).map Q1c)] (fun _ h=>h.flPush 7 8 rfl rfl rfl) (Q5v (Hr:=[.blk g [.slice none 0 0,.slice none 0 0,.slice none 0 0,.slice none 0 0,.slice none 0 0,.slice none 0 0,.slice s1.1 s1.2.2.1.length s1.2.1,.slice s1.2.2.2.1 s1.2.2.2.2.2.1.length s1.2.2.2.2.1,.slice none 0 0,.slice none 0 0,.slice none 0 0,.slice none 0 0,.slice none 0 0,.slice none 0 0,.slice none 0 0,.slice none 0 0,.slice none 0 0,.slice none 0 0,.slice none 0 0,.slice p12 ((h19 ++ ([(p,xs.length,c)] : List Hdr)).length) c12,.slice none 0 0,.slice none 0 0,.slice none 0 0,.slice none 0 0,.slice none 0 0,.slice none 0 0,.slice p26 h26.length c26,.slice none 0 0,.slice none 0 0] 109,.own 25 1 QF (.slice s1.1 s1.2.2.1.length s1.2.1) s1.2.2.1,Qk 149 3 (s1.2.2.1.map Q1c),.own 24 1 QF (.slice s1.2.2.2.1 s1.2.2.2.2.2.1.length s1.2.2.2.2.1) s1.2.2.2.2.2.1,Qk 61 3 (s1.2.2.2.2.2.1.map Q1c),.own 77 1 QF (.slice p12 ((h19 ++ ([(p,xs.length,c)] : List Hdr)).length) c12) (h19 ++ ([(p,xs.length,c)] : List Hdr)),Qk 27 4 ((h19 ++ [(p,xs.length,c)]).map Q1c)]) [1,2,3,4,5,6,7] Tryz.results61 ?_ (asK [] rfl) rfl rfl (.inr rfl)))))))
  exact ⟨_,_,_,_,_,_,_,_,_,by have h9:=hl6; have h8:s1.2.2.2.2.2.2 * 10001 ≤ 10000 * 10001:=Nat.mul_le_mul_right _ (Nat.le_trans hi2 hn); omega,hb6,by have h9:=hl7; have h8:s1.2.2.2.2.2.2 * 1 ≤ 10000 * 1:=Nat.mul_le_mul_right _ (Nat.le_trans hi2 hn); omega,hb7,by simp,hB19.push hn,rfl,rfl,rfl⟩
def Q39 (k i:Int):Int:=IntKind.wrap .i64 ((IntKind.wrap .i64 (1000003 * (IntKind.wrap .i64 (k + 7)))) + i)
theorem Q5g (k i:Int):Q1v Tryz.prog 97 [.int .i64 k,.int .i64 i] [] [] (fun v Φr Hr=>v = .agg #[.int .u8 0,.int .i64 (Q39 k i),.string ((⟨#[]⟩ : ByteArray))] ∧ Φr = [] ∧ Hr = []):=Q3C 0 k i rfl
def Q2i (k i:Nat):List Value:=[.int .u8 0,.int .i64 (Q39 ((k:Nat):Int) ((i:Nat):Int)),.string ((⟨#[]⟩ : ByteArray))]
theorem fl_flatValues (p:Option Addr) (c:Nat) (hs:List Hdr) (hL:hs.length ≤ 1073741824) (hb : ∀ h ∈ hs,h.2.1 ≤ 1073741824):Q1v Tryz.prog 69 [.slice p hs.length c] [] [.own 25 1 QF (.slice p hs.length c) hs,Qk 149 3 (hs.map Q1c)] (fun v Φr Hr=>∃ rows,FlE hs Q2i rows ∧ v = .bool true ∧ Φr = [] ∧ Hr = [Qk 149 3 rows]):=by
 refine Qx Tryz.func69 rfl Tryz.ntmps69 rfl (S:=[_]) rfl (fun C=>(Q4 (Q1 (wP rfl (Q3 (Q2 (Q4 (Q4 (Q1 (wP rfl (Q3 (Q2 (Qc (QI (σ:=List Twin × Nat) (fun s=>s.2 ≤ hs.length ∧ FlA hs Q2i s.2 0 s.1) (fun s=>hs.length - s.2) (fun s=>[(3,.int .i64 ((s.2:Nat):Int)),(2,.bool false),(0,.slice p hs.length c)]) (fun s=>[]) (fun s=>[.own 25 1 QF (.slice p hs.length c) hs,Qk 149 3 s.1]) (hs.map Q1c,0) ⟨Nat.zero_le _,FlA.start⟩ [3,2,0] rfl (asK [] rfl) rfl (fun s1 oks1=>?_)))))))))))))))
 refine Q4 (Q4 (Q1 (wP rfl (wP rfl (wN rfl Q5T (wP rfl (Q3 (Q2 (Q5 [19,3,2,0] (S':=[_,_,_,_]) rfl ?_)))))))))
 refine Qm rfl (fun h19=>?_) (fun h19=>?_)
 ·
  replace h19:=of_decide_eq_true h19
  have hk1:s1.2 < hs.length:=by omega
  obtain ⟨y1,hy1⟩ : ∃ y,hs[s1.2]? = some y:=⟨_,List.getElem?_eq_getElem hk1⟩
  have hB1:y1.2.1 ≤ 1073741824:=hb _ (List.mem_of_getElem? hy1)
  refine Qj (Q2 (Q4 (Qc (Q4 (Q1 (wP rfl (Q3 (Q2 (Qc (QI (σ:=List Twin × Nat) (fun s=>s.2 ≤ y1.2.1 ∧ FlA hs Q2i s1.2 s.2 s.1) (fun s=>y1.2.1 - s.2) (fun s=>[(4,.int .i64 ((s.2:Nat):Int)),(19,.bool (decide (((s1.2:Nat):Int) < ((hs.length:Nat):Int)))),(3,.int .i64 ((s1.2:Nat):Int)),(2,.bool false),(0,.slice p hs.length c)]) (fun s=>[]) (fun s=>[.own 25 1 QF (.slice p hs.length c) hs,Qk 149 3 s.1]) (s1.1,0) ⟨Nat.zero_le _,oks1.2⟩ [4,19,3,2,0] rfl (asK [] rfl) rfl (fun s2 oks2=>(Q4 (Q4 (Q1 ?_))))))))))))))
  refine wP rfl (wP rfl (wP rfl (Q1r 0 s1.2 rfl rfl rfl (Q0 rfl) rfl rfl rfl rfl rfl hk1 Q5T Q1Z (fun g25 eg25=>?_))))
  subst eg25
  refine QU QW 0 s1.2 0 rfl rfl rfl (Q0 rfl) rfl rfl rfl hy1 Q1Z Q41 (v:=fun _=>.slice y1.1 y1.2.1 y1.2.2) (fun _=>rfl) (fun _=>rfl) (fun _ _=>(wN rfl Q1S (wP rfl (Q3 (Q2 (Q5 [28,4,19,3,2,0] (S':=[_,_,_,_,_,_]) rfl ?_))))))
  refine Qm rfl (fun h28=>?_) (fun h28=>?_)
  ·
   replace h28:=of_decide_eq_true h28
   obtain ⟨r2,hr2,hh2,hsm2,hl2⟩:=oks2.2.at_ hy1
   refine Qj (Q2 (Q4 (Qc (Q1l [0,1,2,3,4,5,6,8] rfl rfl (fun hok=>(xP hok 0 rfl (xP hok 1 rfl (Q1d hok 2 0 s1.2 rfl rfl rfl (Q0 rfl) rfl rfl rfl rfl rfl rfl hk1 Q5T Q1Z (QV hok 3 QW 0 s1.2 0 rfl rfl rfl (Q0 rfl) rfl rfl rfl rfl hy1 Q1Z Q41 (v:=.slice y1.1 y1.2.1 y1.2.2) rfl rfl (fun _=>(xP hok 4 rfl (xP hok 5 rfl (xP hok 6 rfl (xS hok 7 rfl (wC [] [0,1] rfl fn_97 rfl (Q5g ((s1.2:Nat):Int) ((s2.2:Nat):Int)) (asK [] rfl) rfl (H':=[_,_]) rfl ?_)))))))))))))))
   rintro _ _ _ ⟨rfl,rfl,rfl⟩
   refine Q3 (QT [] [0] rfl rfl (Q51 hok 8 (p:=y1.1) (m:=y1.2.1) (cp:=y1.2.2) 1 s1.2 s2.2 rfl rfl rfl (Q0 rfl) rfl rfl rfl hr2 hh2 rfl rfl rfl (by omega) hl2 Q1S Q25 (fun g39 eg39=>(xS hok 9 rfl (Q8b (cs:=Q2i s1.2 s2.2) 1 s1.2 s2.2 rfl rfl rfl rfl hr2 hsm2 (Q75 hh2 eg39) rfl (by omega) rfl rfl Q25 rfl (one_of rfl) (H':=[_,_]) rfl (Q3 (QT [] [] rfl rfl (Q19 hok rfl (Qa (Q2 (Q1 (wP rfl (wP rfl (Qr (d:=30) (v':=.int .i64 ((s2.2 + 1:Nat):Int)) (S':=[_,_,_,_,_,_,_,_,_,_,_,_,_,_,_,_]) rfl rfl (Qw (a:=s2.2) (b:=1) (by omega)) ?_))))))))))))))
   refine Qs (S':=[_,_,_,_,_,_,_,_,_,_,_,_,_,_,_,_]) rfl rfl rfl rfl rfl (Q3 ?_)
   refine Q16 (s2.1.set s1.2 ⟨r2.h,(r2.l.set s2.2 (some (Q2i s1.2 s2.2))),r2.h,(r2.l.set s2.2 (some (Q2i s1.2 s2.2)))⟩,s2.2 + 1) (by show y1.2.1 - (s2.2 + 1) < _; omega) ⟨by show s2.2 + 1 ≤ _; omega,oks2.2.store hy1 hr2 (by omega)⟩ [4,19,3,2,0] rfl (asK [] rfl) rfl
  ·
   replace h28:=of_decide_eq_false h28
   refine QH (Q8 (Q8 (Qh (Qa (Q2 (Q1 (wP rfl (wP rfl (Qr (d:=21) (v':=.int .i64 ((s1.2 + 1:Nat):Int)) (S':=[_,_,_,_,_,_,_]) rfl rfl (Qw (a:=s1.2) (b:=1) (by omega)) (Qs (S':=[_,_,_,_,_,_,_]) rfl rfl rfl rfl rfl (Q3 ?_)))))))))))
   refine Q16 (s2.1,s1.2 + 1) (by show hs.length - (s1.2 + 1) < _; omega) ⟨by show s1.2 + 1 ≤ _; omega,oks2.2.next hy1 (by omega)⟩ [3,2,0] rfl (asK [] rfl) rfl
 ·
  replace h19:=of_decide_eq_false h19
  refine QH (Q8 (Q8 (Qh (Q2 (Q4 (Q1 (wP rfl (wN rfl Q5T (Q4J (m:=hs.length) QF (none,0,0) rfl rfl rfl (Q0 rfl) rfl rfl rfl rfl rfl Q5T tR_25 rfl rfl (fun _ _=>rfl) (by omega) (by omega) (fun g42=>(wP rfl (Q3 (Q2 (Q5 [5,19,3,2,0] (S':=[_,_,_,_,_]) rfl ?_))))))))))))))
  refine Q4 (Q4 (Q1 (wP rfl (Q3 (Q2 (Qc (QI (σ:=List Hdr × List Twin × Nat) (fun s=>s.2.2 ≤ hs.length ∧ FlB hs Q2i s.1 s.2.2 s.2.1) (fun s=>hs.length - s.2.2) (fun s=>[(6,.int .i64 ((s.2.2:Nat):Int)),(5,.slice (some ⟨g42,0,none⟩) hs.length hs.length),(19,.bool (decide (((s1.2:Nat):Int) < ((hs.length:Nat):Int)))),(3,.int .i64 ((s1.2:Nat):Int)),(2,.bool false),(0,.slice p hs.length c)]) (fun s=>[]) (fun s=>[.own 25 1 QF (.slice (some ⟨g42,0,none⟩) hs.length hs.length) s.1,.own 25 1 QF (.slice p hs.length c) hs,Qk 149 3 s.2.1]) (List.replicate hs.length (none,0,0),s1.1,0) ⟨Nat.zero_le _,oks1.2.grow (by omega) (by simp)⟩ [6,5,19,3,2,0] rfl (asK [] rfl) rfl (fun s3 oks3=>(Q4 (Q4 (Q1 (wP rfl (wP rfl (wN rfl Q5T ?_))))))))))))))
  refine wP rfl (Q3 (Q2 (Q5 [46,6,5,19,3,2,0] (S':=[_,_,_,_,_,_,_]) rfl ?_)))
  refine Qm rfl (fun h46=>?_) (fun h46=>?_)
  ·
   replace h46:=of_decide_eq_true h46
   have hk3:s3.2.2 < hs.length:=by omega
   obtain ⟨y3,hy3⟩ : ∃ y,hs[s3.2.2]? = some y:=⟨_,List.getElem?_eq_getElem hk3⟩
   have hB3:y3.2.1 ≤ 1073741824:=hb _ (List.mem_of_getElem? hy3)
   refine Qj (Q2 (Q4 (Qc (Q4 (Q1 (wP rfl (wP rfl (Q1r 1 s3.2.2 rfl rfl rfl (Q0 rfl) rfl rfl rfl rfl rfl hk3 Q5T Q1Z (fun g51 eg51=>?_)))))))))
   subst eg51
   refine QU QW 1 s3.2.2 0 rfl rfl rfl (Q0 rfl) rfl rfl rfl hy3 Q1Z Q41 (v:=fun _=>.slice y3.1 y3.2.1 y3.2.2) (fun _=>rfl) (fun _=>rfl) (fun _ _=>(wP rfl (Q3 (Q2 (Q5 [7,46,6,5,19,3,2,0] (S':=[_,_,_,_,_,_,_,_]) rfl (Q4 (Q4 (Q1 (wP rfl (Q3 (Q2 (Qc (QI (σ:=List Twin × Hdr × Nat) (fun s=>s.2.2 ≤ 64 ∧ FlC hs Q2i s3.1 s3.2.2 s.2.2 s.2.1 s.1) (fun s=>64 - s.2.2) (fun s=>[(8,.int .i64 ((s.2.2:Nat):Int)),(7,.slice s.2.1.1 s.2.1.2.1 s.2.1.2.2),(46,.bool (decide (((s3.2.2:Nat):Int) < ((hs.length:Nat):Int)))),(6,.int .i64 ((s3.2.2:Nat):Int)),(5,.slice (some ⟨g42,0,none⟩) hs.length hs.length),(19,.bool (decide (((s1.2:Nat):Int) < ((hs.length:Nat):Int)))),(3,.int .i64 ((s1.2:Nat):Int)),(2,.bool false),(0,.slice (some ⟨g51,0,none⟩) hs.length c)]) (fun s=>[]) (fun s=>[.own 25 1 QF (.slice (some ⟨g42,0,none⟩) hs.length hs.length) s3.1,.own 25 1 QF (.slice (some ⟨g51,0,none⟩) hs.length c) hs,Qk 149 3 s.1]) (s3.2.1,y3,0) ⟨Nat.zero_le _,oks3.2.begin hy3⟩ [8,7,46,6,5,19,3,2,0] rfl (asK [] rfl) rfl (fun s4 oks4=>(Q4 ?_)))))))))))))))
   refine Q4 (Q1 (wP rfl (wP rfl (Q3 (Q2 (Q5 [54,8,7,46,6,5,19,3,2,0] (S':=[_,_,_,_,_,_,_,_,_,_]) rfl ?_))))))
   refine Qm rfl (fun h54=>?_) (fun h54=>?_)
   ·
    replace h54:=of_decide_eq_true h54
    obtain ⟨r4,hr4,hh4,hl4,hg4,hm4⟩:=oks4.2.at_ hy3
    refine Qj (Q2 (Q4 (Qc (Q1 (wP rfl (wP rfl (wP rfl (wP rfl (Q2c 1 s3.2.2 rfl rfl rfl (Q0 rfl) rfl rfl rfl rfl rfl hk3 Q5T Q1Z (QU QW 1 s3.2.2 0 rfl rfl rfl (Q0 rfl) rfl rfl rfl hy3 Q1Z Q41 (v:=fun _=>.slice y3.1 y3.2.1 y3.2.2) (fun _=>rfl) (fun _=>rfl) (fun _ _=>(wN rfl Q1S (wP rfl (wP rfl ?_))))))))))))))
    refine Qr (d:=65) (v':=.int .i64 ((y3.2.1 + s4.2.2:Nat):Int)) (S':=[_,_,_,_,_,_,_,_,_,_,_,_,_,_,_,_,_,_]) rfl rfl (Qw (a:=y3.2.1) (b:=s4.2.2) (by omega)) (wC [] [0,1,2] rfl fn_97 rfl (Q5g ((s3.2.2:Nat):Int) ((y3.2.1 + s4.2.2:Nat):Int)) (asK [] rfl) rfl (H':=[_,_,_]) rfl ?_)
    rintro _ _ _ ⟨rfl,rfl,rfl⟩
    refine QJ rfl rfl rfl (Q0 rfl) rfl Q1S Q25 tZ_149 rfl (zs:=[.int .u8 0,.int .i64 0,.string ⟨#[]⟩]) (by kernel_rfl) rfl (out:=[_,_,_]) rfl (fun g67=>(Q8y (cs:=Q2i s3.2.2 (y3.2.1 + s4.2.2)) 3 s3.2.2 0 rfl rfl rfl (Q0 rfl) rfl rfl hr4 (by rw [hg4]; rfl) rfl rfl rfl (one_of rfl) Q1S tR_149 rfl rfl (by rw [hm4]; simp only [Q10,List.length_append,List.length_cons,List.length_nil]; omega) (by rw [hm4]; simp only [Q10,List.length_append,List.length_cons,List.length_nil]; omega) (H2:=fun gh68=>[_,_,_,Qk 149 3 (s4.1.set s3.2.2 ⟨r4.h,r4.l,gh68,r4.m ++ [some (Q2i s3.2.2 (y3.2.1 + s4.2.2))]⟩)]) (fun _=>rfl) (fun gh68=>(Q2k 0 rfl (H':=[_,_,_]) rfl (Qs (S':=[_,_,_,_,_,_,_,_,_,_,_,_,_,_,_,_,_,_,_,_,_]) rfl rfl rfl rfl rfl (Q3 (Qa (Q2 (Q1 (wP rfl (wP rfl (Qr (d:=56) (v':=.int .i64 ((s4.2.2 + 1:Nat):Int)) (S':=[_,_,_,_,_,_,_,_,_,_,_,_,_,_,_,_,_,_,_,_,_,_,_]) rfl rfl (Qw (a:=s4.2.2) (b:=1) (by omega)) (Qs (S':=[_,_,_,_,_,_,_,_,_,_,_,_,_,_,_,_,_,_,_,_,_,_,_]) rfl rfl rfl rfl rfl (Q3 ?_))))))))))))))
    refine Q16 (s4.1.set s3.2.2 ⟨r4.h,r4.l,gh68,r4.m ++ [some (Q2i s3.2.2 (y3.2.1 + s4.2.2))]⟩,gh68,s4.2.2 + 1) (by show 64 - (s4.2.2 + 1) < _; omega) ⟨by show s4.2.2 + 1 ≤ 64; omega,oks4.2.app hy3 hr4 _⟩ [8,7,46,6,5,19,3,2,0] rfl (asK [] rfl) rfl
   ·
    replace h54:=of_decide_eq_false h54
    refine QH (Q8 (Q8 (Qh (Q2 (Q1 (wP rfl (wP rfl (wP rfl (Q2c 0 s3.2.2 rfl rfl rfl (Q0 rfl) rfl rfl rfl rfl rfl (by rw [oks3.2.2.1]; exact hk3) Q5T Q1Z (Q3r (u:=s4.2.1) 0 s3.2.2 rfl rfl rfl rfl rfl (by rw [oks3.2.2.1]; exact hk3) rfl rfl Q1Z rfl (fun _ _ _=>rfl) (H':=[_,_,_]) rfl (Q3 (Qa (Q2 ?_)))))))))))))
    refine Q1 (wP rfl (wP rfl (Qr (d:=48) (v':=.int .i64 ((s3.2.2 + 1:Nat):Int)) (S':=[_,_,_,_,_,_,_,_,_,_,_,_,_,_,_]) rfl rfl (Qw (a:=s3.2.2) (b:=1) (by omega)) (Qs (S':=[_,_,_,_,_,_,_,_,_,_,_,_,_,_,_]) rfl rfl rfl rfl rfl (Q3 ?_)))))
    have hc3:=oks4.2
    rw [show s4.2.2 = 64 from by omega] at hc3
    refine Q16 (s3.1.set s3.2.2 s4.2.1,s4.1,s3.2.2 + 1) (by show hs.length - (s3.2.2 + 1) < _; omega) ⟨by show s3.2.2 + 1 ≤ _; omega,hc3.done hk3⟩ [6,5,19,3,2,0] rfl (asK [] rfl) rfl
  ·
   replace h46:=of_decide_eq_false h46
   refine QH (Q8 (Q8 (Qh (Q2 (Q4 (Q4 (Q1 (wP rfl (Q3 (Q2 (Qc (QI (σ:=Nat) (fun s=>s ≤ hs.length) (fun s=>hs.length - s) (fun s=>[(9,.int .i64 ((s:Nat):Int)),(46,.bool (decide (((s3.2.2:Nat):Int) < ((hs.length:Nat):Int)))),(6,.int .i64 ((s3.2.2:Nat):Int)),(5,.slice (some ⟨g42,0,none⟩) hs.length hs.length),(19,.bool (decide (((s1.2:Nat):Int) < ((hs.length:Nat):Int)))),(3,.int .i64 ((s1.2:Nat):Int)),(2,.bool false),(0,.slice p hs.length c)]) (fun s=>[]) (fun s=>[.own 25 1 QF (.slice (some ⟨g42,0,none⟩) hs.length hs.length) s3.1,.own 25 1 QF (.slice p hs.length c) hs,Qk 149 3 s3.2.1]) 0 (Nat.zero_le _) [9,46,6,5,19,3,2,0] rfl (asK [] rfl) rfl (fun s5 oks5=>(Q4 ?_))))))))))))))
   refine Q4 (Q1 (wP rfl (wP rfl (wN rfl Q5T (wP rfl (Q3 (Q2 (Q5 [76,9,46,6,5,19,3,2,0] (S':=[_,_,_,_,_,_,_,_,_]) rfl ?_))))))))
   refine Qm rfl (fun h76=>?_) (fun h76=>?_)
   ·
    replace h76:=of_decide_eq_true h76
    have hk5:s5 < hs.length:=by omega
    obtain ⟨y5,hy5⟩ : ∃ y,hs[s5]? = some y:=⟨_,List.getElem?_eq_getElem hk5⟩
    have hB5:y5.2.1 ≤ 1073741824:=hb _ (List.mem_of_getElem? hy5)
    obtain ⟨r5,hr5,hh5,hl5,hg5,hm5⟩:=oks3.2.look (by omega) hy5
    refine Q6Y 2 rfl hr5 (fun hA5 hC5=>?_)
    rw [hl5,Q10] at hA5
    rw [hm5,Q10] at hC5
    refine Qj (Q2 (Q4 (Qc (Q4 (Q1 (wP rfl (Q3 (Q2 (Qc (QI (σ:=Nat) (fun s=>s ≤ y5.2.1 + 64) (fun s=>y5.2.1 + 64 - s) (fun s=>[(10,.int .i64 ((s:Nat):Int)),(76,.bool (decide (((s5:Nat):Int) < ((hs.length:Nat):Int)))),(9,.int .i64 ((s5:Nat):Int)),(46,.bool (decide (((s3.2.2:Nat):Int) < ((hs.length:Nat):Int)))),(6,.int .i64 ((s3.2.2:Nat):Int)),(5,.slice (some ⟨g42,0,none⟩) hs.length hs.length),(19,.bool (decide (((s1.2:Nat):Int) < ((hs.length:Nat):Int)))),(3,.int .i64 ((s1.2:Nat):Int)),(2,.bool false),(0,.slice p hs.length c)]) (fun s=>[]) (fun s=>[.own 25 1 QF (.slice (some ⟨g42,0,none⟩) hs.length hs.length) s3.1,.own 25 1 QF (.slice p hs.length c) hs,Qk 149 3 s3.2.1]) 0 (Nat.zero_le _) [10,76,9,46,6,5,19,3,2,0] rfl (asK [] rfl) rfl (fun s6 oks6=>(Q4 (Q4 (Q1 ?_))))))))))))))
    refine wP rfl (wP rfl (wP rfl (Q2c 0 s5 rfl rfl rfl (Q0 rfl) rfl rfl rfl rfl rfl (by rw [oks3.2.2.1]; exact hk5) Q5T Q1Z (QU QW 0 s5 0 rfl rfl rfl (Q0 rfl) rfl rfl rfl hg5 Q1Z Q41 (v:=fun _=>.slice r5.g.1 r5.g.2.1 r5.g.2.2) (fun _=>rfl) (fun _=>rfl) (fun _ _=>(wN rfl Q1S (wP rfl (Q3 (Q2 (Q5 [85,10,76,9,46,6,5,19,3,2,0] (S':=[_,_,_,_,_,_,_,_,_,_,_]) rfl ?_))))))))))
    refine Qm rfl (fun h85=>?_) (fun h85=>?_)
    ·
     replace h85:=of_decide_eq_true h85
     refine Qj (Q2 (Q4 (Qc (Q4 (Q1l [0,1,2,3,4,5,6,7,8,10,11,12,13,14,15,16,17,18,19,20,21,22,23,24,25,26,27,28,29,31,32,33,34] rfl rfl (fun hok=>(xP hok 0 rfl (xP hok 1 rfl (Q1d hok 2 0 s5 rfl rfl rfl (Q0 rfl) rfl rfl rfl rfl rfl rfl (by rw [oks3.2.2.1]; exact hk5) Q5T Q1Z (QV hok 3 QW 0 s5 0 rfl rfl rfl (Q0 rfl) rfl rfl rfl rfl hg5 Q1Z Q41 (v:=.slice r5.g.1 r5.g.2.1 r5.g.2.2) rfl rfl (fun _=>(xP hok 4 rfl (Q6z hok 5 (p:=r5.g.1) (m:=r5.g.2.1) (cp:=r5.g.2.2) 2 s5 s6 rfl rfl rfl (Q0 rfl) rfl rfl rfl hr5 rfl rfl rfl rfl (by omega) (by rw [hm5,Q10]; omega) Q1S Q25 (fun g93 eg93=>(Q5Y hok 6 2 s5 s6 rfl rfl rfl (Q0 rfl) rfl rfl rfl hr5 (Q7C eg93) rfl (cs:=Q2i s5 s6) (by rw [hm5]; exact Q56 (by omega)) Q25 Q62 rfl (v:=.agg #[.int .u8 0,.int .i64 (Q39 ((s5:Nat):Int) ((s6:Nat):Int)),.string ((⟨#[]⟩ : ByteArray))]) rfl (xP hok 7 rfl ?_))))))))))))))))
     refine xP hok 8 rfl (xS hok 9 rfl (wC [] [0,1,2] rfl fn_97 rfl (Q5g ((s5:Nat):Int) ((s6:Nat):Int)) (asK [] rfl) rfl (H':=[_,_,_]) rfl ?_))
     rintro _ _ _ ⟨rfl,rfl,rfl⟩
     refine Q3 (QT [] [2,0] rfl rfl (Q7s hok 10 rfl rfl rfl (Q0 rfl) rfl rfl rfl rfl (eqlV _ _ (⟨0,Q39 ((s5:Nat):Int) ((s6:Nat):Int),(⟨#[]⟩ : ByteArray)⟩ : V) (⟨0,Q39 ((s5:Nat):Int) ((s6:Nat):Int),(⟨#[]⟩ : ByteArray)⟩ : V)) (Q1h (d:=98) (v':=.bool true) (S':=[_,_,_,_,_,_,_,_,_,_,_,_,_,_,_,_,_,_,_,_,_]) rfl rfl (congrArg Value.bool (by simp)) (xP hok 11 rfl (xP hok 12 rfl (xP hok 13 rfl (xP hok 14 rfl (xP hok 15 rfl (Q7m hok 16 1 s5 rfl rfl rfl (Q0 rfl) rfl rfl rfl rfl rfl rfl hk5 Q5T Q1Z (fun g104 eg104=>?_))))))))))
     subst eg104
     refine QV hok 17 QW 1 s5 0 rfl rfl rfl (Q0 rfl) rfl rfl rfl rfl hy5 Q1Z Q41 (v:=.slice y5.1 y5.2.1 y5.2.2) rfl rfl (fun _=>(Q3e hok 18 rfl rfl rfl (Q0 rfl) rfl rfl rfl Q1S (xP hok 19 rfl (xP hok 20 rfl ?_))))
     refine wx_split (d:=108) (S':=[_,_,_,_,_,_,_,_,_,_,_,_,_,_,_,_,_,_,_,_,_,_,_,_,_,_,_,_,_,_,_]) rfl rfl (fun h108=>?_) (fun h108=>?_)
     ·
      replace h108:=of_decide_eq_true h108
      refine xP hok 21 rfl (xP hok 22 rfl (Q1d hok 23 1 s5 rfl rfl rfl (Q0 rfl) rfl rfl rfl rfl rfl rfl hk5 Q5T Q1Z (QV hok 24 QW 1 s5 0 rfl rfl rfl (Q0 rfl) rfl rfl rfl rfl hy5 Q1Z Q41 (v:=.slice y5.1 y5.2.1 y5.2.2) rfl rfl (fun _=>(xP hok 25 rfl (Q51 hok 26 (p:=y5.1) (m:=y5.2.1) (cp:=y5.2.2) 2 s5 s6 rfl rfl rfl (Q0 rfl) rfl rfl rfl hr5 hh5 rfl rfl rfl (by omega) (by rw [hl5,Q10]) Q1S Q25 (fun g114 eg114=>(Q5X hok 27 2 s5 s6 rfl rfl rfl (Q0 rfl) rfl rfl rfl hr5 (Q75 hh5 eg114) rfl (cs:=Q2i s5 s6) (by rw [hl5]; exact Q56 (by omega)) Q25 Q62 rfl (v:=.agg #[.int .u8 0,.int .i64 (Q39 ((s5:Nat):Int) ((s6:Nat):Int)),.string ((⟨#[]⟩ : ByteArray))]) rfl (xP hok 28 rfl (xP hok 29 rfl (xS hok 30 rfl (wC [] [0,1,2] rfl fn_97 rfl (Q5g ((s5:Nat):Int) ((s6:Nat):Int)) (asK [] rfl) rfl (H':=[_,_,_]) rfl ?_))))))))))))
      rintro _ _ _ ⟨rfl,rfl,rfl⟩
      refine Q3 (QT [] [2,1,1,2,0] rfl rfl (Q7s hok 31 rfl rfl rfl (Q0 rfl) rfl rfl rfl rfl (eqlV _ _ (⟨0,Q39 ((s5:Nat):Int) ((s6:Nat):Int),(⟨#[]⟩ : ByteArray)⟩ : V) (⟨0,Q39 ((s5:Nat):Int) ((s6:Nat):Int),(⟨#[]⟩ : ByteArray)⟩ : V)) (Q1h (d:=119) (v':=.bool true) (S':=[_,_,_,_,_,_,_,_,_,_,_,_,_,_,_,_,_,_,_,_,_,_,_,_,_,_,_,_,_,_,_,_,_,_,_,_,_,_,_,_,_,_]) rfl rfl (congrArg Value.bool (by simp)) (xP hok 32 rfl (xP hok 33 rfl (xP hok 34 rfl (Q19 hok rfl (Q2 (Q5 [122,85,10,76,9,46,6,5,19,3,2,0] (S':=[_,_,_,_,_,_,_,_,_,_,_,_]) rfl (Q58 rfl (Qj (Qa (Q2 ?_)))))))))))))
      refine Q1 (wP rfl (wP rfl (Qr (d:=87) (v':=.int .i64 ((s6 + 1:Nat):Int)) (S':=[_,_,_,_,_,_,_,_,_,_,_,_,_]) rfl rfl (Qw (a:=s6) (b:=1) (by omega)) (Qs (S':=[_,_,_,_,_,_,_,_,_,_,_,_,_]) rfl rfl rfl rfl rfl (Q3 ?_)))))
      refine Q16 (s6 + 1) (by omega) (by omega) [10,76,9,46,6,5,19,3,2,0] rfl (asK [] rfl) rfl
     ·
      replace h108:=of_decide_eq_false h108
      refine xO hok 21 rfl (xO hok 22 rfl (xO hok 23 rfl (xO hok 24 rfl (xO hok 25 rfl (xO hok 26 rfl (xO hok 27 rfl (xO hok 28 rfl (xO hok 29 rfl (xS hok 30 rfl (wO rfl (Q3 (QT [] [1,2,0] rfl rfl (xO hok 31 rfl ?_)))))))))))))
      refine xO hok 32 rfl (xP hok 33 rfl (xP hok 34 rfl (Q19 hok rfl (Q2 (Q5 [122,85,10,76,9,46,6,5,19,3,2,0] (S':=[_,_,_,_,_,_,_,_,_,_,_,_]) rfl (Q58 rfl (Qj (Qa (Q2 (Q1 (wP rfl (wP rfl (Qr (d:=87) (v':=.int .i64 ((s6 + 1:Nat):Int)) (S':=[_,_,_,_,_,_,_,_,_,_,_,_,_]) rfl rfl (Qw (a:=s6) (b:=1) (by omega)) ?_)))))))))))))
      refine Qs (S':=[_,_,_,_,_,_,_,_,_,_,_,_,_]) rfl rfl rfl rfl rfl (Q3 ?_)
      refine Q16 (s6 + 1) (by omega) (by omega) [10,76,9,46,6,5,19,3,2,0] rfl (asK [] rfl) rfl
    ·
     replace h85:=of_decide_eq_false h85
     refine QH (Q8 (Q8 (Qh (Qa (Q2 (Q1 (wP rfl (wP rfl (Qr (d:=78) (v':=.int .i64 ((s5 + 1:Nat):Int)) (S':=[_,_,_,_,_,_,_,_,_,_,_,_]) rfl rfl (Qw (a:=s5) (b:=1) (by omega)) (Qs (S':=[_,_,_,_,_,_,_,_,_,_,_,_]) rfl rfl rfl rfl rfl (Q3 ?_)))))))))))
     refine Q16 (s5 + 1) (by omega) (by omega) [9,46,6,5,19,3,2,0] rfl (asK [] rfl) rfl
   ·
    replace h76:=of_decide_eq_false h76
    refine QH (Q8 (Q8 (Qh (Q2 (Q4 (Q4 (Q1 (wP rfl (Q3 (Q2 (Qc (QI (σ:=List Hdr × List Twin × Nat) (fun s=>s.2.2 ≤ hs.length ∧ FlD hs Q2i s.1 s.2.2 s.2.1) (fun s=>hs.length - s.2.2) (fun s=>[(11,.int .i64 ((s.2.2:Nat):Int)),(76,.bool (decide (((s5:Nat):Int) < ((hs.length:Nat):Int)))),(9,.int .i64 ((s5:Nat):Int)),(46,.bool (decide (((s3.2.2:Nat):Int) < ((hs.length:Nat):Int)))),(6,.int .i64 ((s3.2.2:Nat):Int)),(5,.slice (some ⟨g42,0,none⟩) hs.length hs.length),(19,.bool (decide (((s1.2:Nat):Int) < ((hs.length:Nat):Int)))),(3,.int .i64 ((s1.2:Nat):Int)),(2,.bool false),(0,.slice p hs.length c)]) (fun s=>[]) (fun s=>[.own 25 1 QF (.slice (some ⟨g42,0,none⟩) hs.length hs.length) s.1,.own 25 1 QF (.slice p hs.length c) hs,Qk 149 3 s.2.1]) (s3.1,s3.2.1,0) ⟨Nat.zero_le _,oks3.2.again⟩ [11,76,9,46,6,5,19,3,2,0] rfl (asK [] rfl) rfl (fun s7 oks7=>(Q4 ?_))))))))))))))
    refine Q4 (Q1 (wP rfl (wP rfl (wN rfl Q5T (wP rfl (Q3 (Q2 (Q5 [126,11,76,9,46,6,5,19,3,2,0] (S':=[_,_,_,_,_,_,_,_,_,_,_]) rfl ?_))))))))
    refine Qm rfl (fun h126=>?_) (fun h126=>?_)
    ·
     replace h126:=of_decide_eq_true h126
     have hk7:s7.2.2 < hs.length:=by omega
     obtain ⟨y7,hy7⟩ : ∃ y,hs[s7.2.2]? = some y:=⟨_,List.getElem?_eq_getElem hk7⟩
     have hB7:y7.2.1 ≤ 1073741824:=hb _ (List.mem_of_getElem? hy7)
     obtain ⟨r7,hr7,hh7,hl7⟩:=oks7.2.at_ hy7
     refine Qj (Q2 (Q4 (Qc (Q4 (Q1 (Q4J (m:=64) celR (none:Cel) rfl rfl rfl (Q0 rfl) rfl rfl rfl rfl rfl Q1S tR_149 rfl rfl (fun _ _=>cel_any rfl) (by omega) (by omega) (fun g129=>(wP rfl (Q3 (Q2 (Q5 [12,126,11,76,9,46,6,5,19,3,2,0] (S':=[_,_,_,_,_,_,_,_,_,_,_,_]) rfl (Q4 (Q4 (Q1 ?_))))))))))))))
     refine wP rfl (Q3 (Q2 (Qc (QI (σ:=List Cel × Nat) (fun s=>s.2 ≤ 64 ∧ s.1.length = 64) (fun s=>64 - s.2) (fun s=>[(13,.int .i64 ((s.2:Nat):Int)),(12,.slice (some ⟨g129,0,none⟩) 64 64),(126,.bool (decide (((s7.2.2:Nat):Int) < ((hs.length:Nat):Int)))),(11,.int .i64 ((s7.2.2:Nat):Int)),(76,.bool (decide (((s5:Nat):Int) < ((hs.length:Nat):Int)))),(9,.int .i64 ((s5:Nat):Int)),(46,.bool (decide (((s3.2.2:Nat):Int) < ((hs.length:Nat):Int)))),(6,.int .i64 ((s3.2.2:Nat):Int)),(5,.slice (some ⟨g42,0,none⟩) hs.length hs.length),(19,.bool (decide (((s1.2:Nat):Int) < ((hs.length:Nat):Int)))),(3,.int .i64 ((s1.2:Nat):Int)),(2,.bool false),(0,.slice p hs.length c)]) (fun s=>[]) (fun s=>[.own 149 3 celR (.slice (some ⟨g129,0,none⟩) 64 64) s.1,.own 25 1 QF (.slice (some ⟨g42,0,none⟩) hs.length hs.length) s7.1,.own 25 1 QF (.slice p hs.length c) hs,Qk 149 3 s7.2.1]) (List.replicate 64 (none:Cel),0) ⟨Nat.zero_le _,by simp⟩ [13,12,126,11,76,9,46,6,5,19,3,2,0] rfl (asK [] rfl) rfl (fun s8 oks8=>(Q4 (Q4 (Q1 (wP rfl (wP rfl (Q3 (Q2 (Q5 [131,13,12,126,11,76,9,46,6,5,19,3,2,0] (S':=[_,_,_,_,_,_,_,_,_,_,_,_,_,_]) rfl ?_)))))))))))))
     refine Qm rfl (fun h131=>?_) (fun h131=>?_)
     ·
      replace h131:=of_decide_eq_true h131
      refine Qj (Q2 (Q4 (Qc (Q1 (wP rfl (wP rfl (wP rfl (wP rfl (wN rfl Q5T (wP rfl (Qr (d:=139) (v':=.int .i64 ((s7.2.2 + hs.length:Nat):Int)) (S':=[_,_,_,_,_,_,_,_,_,_,_,_,_,_,_,_,_,_,_]) rfl rfl (Qw (a:=s7.2.2) (b:=hs.length) (by omega)) (wP rfl (wC [] [0,1,2,3] rfl fn_97 rfl (Q5g ((s7.2.2 + hs.length:Nat):Int) ((s8.2:Nat):Int)) (asK [] rfl) rfl (H':=[_,_,_,_]) rfl ?_)))))))))))))
      rintro _ _ _ ⟨rfl,rfl,rfl⟩
      refine Q2c 0 s8.2 rfl rfl rfl (Q0 rfl) rfl rfl rfl rfl rfl (by rw [oks8.2]; omega) Q1S Q25 (Q3r (u:=some ([.int .u8 0,.int .i64 (Q39 ((s7.2.2 + hs.length:Nat):Int) ((s8.2:Nat):Int)),.string ((⟨#[]⟩ : ByteArray))] : List Value)) 0 s8.2 rfl rfl rfl rfl rfl (by rw [oks8.2]; omega) rfl rfl Q25 rfl (fun _ _ _=>cel_some rfl) (H':=[_,_,_,_]) rfl (Q3 (Qa (Q2 (Q1 (wP rfl (wP rfl (Qr (d:=133) (v':=.int .i64 ((s8.2 + 1:Nat):Int)) (S':=[_,_,_,_,_,_,_,_,_,_,_,_,_,_,_,_,_,_,_,_,_,_,_,_]) rfl rfl (Qw (a:=s8.2) (b:=1) (by omega)) (Qs (S':=[_,_,_,_,_,_,_,_,_,_,_,_,_,_,_,_,_,_,_,_,_,_,_,_]) rfl rfl rfl rfl rfl (Q3 ?_))))))))))
      refine Q16 (s8.1.set s8.2 (some ([.int .u8 0,.int .i64 (Q39 ((s7.2.2 + hs.length:Nat):Int) ((s8.2:Nat):Int)),.string ((⟨#[]⟩ : ByteArray))] : List Value)),s8.2 + 1) (by show 64 - (s8.2 + 1) < _; omega) ⟨by show s8.2 + 1 ≤ 64; omega,by show (List.set _ _ _).length = 64; rw [List.length_set]; exact oks8.2⟩ [13,12,126,11,76,9,46,6,5,19,3,2,0] rfl (asK [] rfl) rfl
     ·
      replace h131:=of_decide_eq_false h131
      refine QH (Q8 (Q8 (Qh (Q2 (Q1 (wP rfl (wP rfl (wP rfl (wP rfl (Q1r 2 s7.2.2 rfl rfl rfl (Q0 rfl) rfl rfl rfl rfl rfl hk7 Q5T Q1Z (fun g147 eg147=>?_)))))))))))
      subst eg147
      refine QU QW 2 s7.2.2 0 rfl rfl rfl (Q0 rfl) rfl rfl rfl hy7 Q1Z Q41 (v:=fun _=>.slice y7.1 y7.2.1 y7.2.2) (fun _=>rfl) (fun _=>rfl) (fun _ _=>(wP rfl (Qv [_,_,_,Qk 149 3 (s7.2.1.set s7.2.2 ⟨r7.h,r7.l,r7.h,r7.l⟩)] (fun _ h=>h.flReset 3 s7.2.2 rfl hr7) (Q8A 3 s7.2.2 0 rfl rfl rfl (Q0 rfl) rfl rfl (Q88 _ hr7) (by show _ = some (hdv r7.h); rw [hh7]; rfl) rfl rfl oks8.2 (by decide) Q1S tR_149 rfl rfl (by show r7.l.length + _ ≤ _; rw [hl7,Q10]; omega) (by show (r7.l.length + _) * _ ≤ _; rw [hl7,Q10]; omega) (H2:=fun gh150=>[_,_,_,Qk 149 3 ((s7.2.1.set s7.2.2 ⟨r7.h,r7.l,r7.h,r7.l⟩).set s7.2.2 ⟨r7.h,r7.l,gh150,r7.l ++ s8.1⟩)]) (fun _=>rfl) (fun gh150=>(Q2k 0 rfl (H':=[_,_,_]) rfl (Q2c 0 s7.2.2 rfl rfl rfl (Q0 rfl) rfl rfl rfl rfl rfl (by rw [oks7.2.2.1]; exact hk7) Q5T Q1Z (Q3r (u:=gh150) 0 s7.2.2 rfl rfl rfl rfl rfl (by rw [oks7.2.2.1]; exact hk7) rfl rfl Q1Z rfl (fun _ _ _=>rfl) (H':=[_,_,_]) rfl (Q3 (Qa (Q2 (Q1 (wP rfl (wP rfl (Qr (d:=128) (v':=.int .i64 ((s7.2.2 + 1:Nat):Int)) (S':=[_,_,_,_,_,_,_,_,_,_,_,_,_,_,_,_,_,_,_,_,_,_,_,_]) rfl rfl (Qw (a:=s7.2.2) (b:=1) (by omega)) ?_)))))))))))))))
      refine Qs (S':=[_,_,_,_,_,_,_,_,_,_,_,_,_,_,_,_,_,_,_,_,_,_,_,_]) rfl rfl rfl rfl rfl (Q3 ?_)
      refine Q16 (s7.1.set s7.2.2 gh150,(s7.2.1.set s7.2.2 ⟨r7.h,r7.l,r7.h,r7.l⟩).set s7.2.2 ⟨r7.h,r7.l,gh150,r7.l ++ s8.1⟩,s7.2.2 + 1) (by show hs.length - (s7.2.2 + 1) < _; omega) ⟨by show s7.2.2 + 1 ≤ _; omega,oks7.2.app hy7 hr7 _ _⟩ [11,76,9,46,6,5,19,3,2,0] rfl (asK [] rfl) rfl
    ·
     replace h126:=of_decide_eq_false h126
     refine QH (Q8 (Q8 (Qh (Q2 (Q4 (Q4 (Q1 (wP rfl (Q3 (Q2 (Qc (QI (σ:=Nat) (fun s=>s ≤ hs.length) (fun s=>hs.length - s) (fun s=>[(14,.int .i64 ((s:Nat):Int)),(126,.bool (decide (((s7.2.2:Nat):Int) < ((hs.length:Nat):Int)))),(11,.int .i64 ((s7.2.2:Nat):Int)),(76,.bool (decide (((s5:Nat):Int) < ((hs.length:Nat):Int)))),(9,.int .i64 ((s5:Nat):Int)),(46,.bool (decide (((s3.2.2:Nat):Int) < ((hs.length:Nat):Int)))),(6,.int .i64 ((s3.2.2:Nat):Int)),(5,.slice (some ⟨g42,0,none⟩) hs.length hs.length),(19,.bool (decide (((s1.2:Nat):Int) < ((hs.length:Nat):Int)))),(3,.int .i64 ((s1.2:Nat):Int)),(2,.bool false),(0,.slice p hs.length c)]) (fun s=>[]) (fun s=>[.own 25 1 QF (.slice (some ⟨g42,0,none⟩) hs.length hs.length) s7.1,.own 25 1 QF (.slice p hs.length c) hs,Qk 149 3 s7.2.1]) 0 (Nat.zero_le _) [14,126,11,76,9,46,6,5,19,3,2,0] rfl (asK [] rfl) rfl (fun s9 oks9=>(Q4 ?_))))))))))))))
     refine Q4 (Q1 (wP rfl (wP rfl (wN rfl Q5T (wP rfl (Q3 (Q2 (Q5 [155,14,126,11,76,9,46,6,5,19,3,2,0] (S':=[_,_,_,_,_,_,_,_,_,_,_,_,_]) rfl ?_))))))))
     refine Qm rfl (fun h155=>?_) (fun h155=>?_)
     ·
      replace h155:=of_decide_eq_true h155
      have hk9:s9 < hs.length:=by omega
      obtain ⟨y9,hy9⟩ : ∃ y,hs[s9]? = some y:=⟨_,List.getElem?_eq_getElem hk9⟩
      have hB9:y9.2.1 ≤ 1073741824:=hb _ (List.mem_of_getElem? hy9)
      obtain ⟨r9,hr9,hh9,hl9,hg9,t9,hm9⟩:=oks7.2.look (by omega) hy9
      refine Q6Y 2 rfl hr9 (fun hA9 hC9=>?_)
      rw [hl9,Q10] at hA9
      have hE9:=hC9
      rw [hm9,List.length_append,Q10] at hE9
      refine Qj (Q2 (Q4 (Qc (Q4 (Q1 (wP rfl (Q3 (Q2 (Qc (QI (σ:=Nat) (fun s=>s ≤ y9.2.1) (fun s=>y9.2.1 - s) (fun s=>[(15,.int .i64 ((s:Nat):Int)),(155,.bool (decide (((s9:Nat):Int) < ((hs.length:Nat):Int)))),(14,.int .i64 ((s9:Nat):Int)),(126,.bool (decide (((s7.2.2:Nat):Int) < ((hs.length:Nat):Int)))),(11,.int .i64 ((s7.2.2:Nat):Int)),(76,.bool (decide (((s5:Nat):Int) < ((hs.length:Nat):Int)))),(9,.int .i64 ((s5:Nat):Int)),(46,.bool (decide (((s3.2.2:Nat):Int) < ((hs.length:Nat):Int)))),(6,.int .i64 ((s3.2.2:Nat):Int)),(5,.slice (some ⟨g42,0,none⟩) hs.length hs.length),(19,.bool (decide (((s1.2:Nat):Int) < ((hs.length:Nat):Int)))),(3,.int .i64 ((s1.2:Nat):Int)),(2,.bool false),(0,.slice p hs.length c)]) (fun s=>[]) (fun s=>[.own 25 1 QF (.slice (some ⟨g42,0,none⟩) hs.length hs.length) s7.1,.own 25 1 QF (.slice p hs.length c) hs,Qk 149 3 s7.2.1]) 0 (Nat.zero_le _) [15,155,14,126,11,76,9,46,6,5,19,3,2,0] rfl (asK [] rfl) rfl (fun s10 oks10=>(Q4 (Q4 (Q1 ?_))))))))))))))
      refine wP rfl (wP rfl (wP rfl (Q1r 1 s9 rfl rfl rfl (Q0 rfl) rfl rfl rfl rfl rfl hk9 Q5T Q1Z (fun g161 eg161=>?_))))
      subst eg161
      refine QU QW 1 s9 0 rfl rfl rfl (Q0 rfl) rfl rfl rfl hy9 Q1Z Q41 (v:=fun _=>.slice y9.1 y9.2.1 y9.2.2) (fun _=>rfl) (fun _=>rfl) (fun _ _=>(wN rfl Q1S (wP rfl (Q3 (Q2 (Q5 [164,15,155,14,126,11,76,9,46,6,5,19,3,2,0] (S':=[_,_,_,_,_,_,_,_,_,_,_,_,_,_,_]) rfl ?_))))))
      refine Qm rfl (fun h164=>?_) (fun h164=>?_)
      ·
       replace h164:=of_decide_eq_true h164
       refine Qj (Q2 (Q4 (Qc (Q4 (Q1l [0,1,2,3,4,5,6,7,8,10,11,12,13,14,15,16,17,18,19,20,21,23,24,25] rfl rfl (fun hok=>(xP hok 0 rfl (xP hok 1 rfl (Q1d hok 2 1 s9 rfl rfl rfl (Q0 rfl) rfl rfl rfl rfl rfl rfl hk9 Q5T Q1Z (QV hok 3 QW 1 s9 0 rfl rfl rfl (Q0 rfl) rfl rfl rfl rfl hy9 Q1Z Q41 (v:=.slice y9.1 y9.2.1 y9.2.2) rfl rfl (fun _=>(xP hok 4 rfl (Q51 hok 5 (p:=y9.1) (m:=y9.2.1) (cp:=y9.2.2) 2 s9 s10 rfl rfl rfl (Q0 rfl) rfl rfl rfl hr9 hh9 rfl rfl rfl (by omega) (by rw [hl9,Q10]) Q1S Q25 (fun g172 eg172=>(Q5X hok 6 2 s9 s10 rfl rfl rfl (Q0 rfl) rfl rfl rfl hr9 (Q75 hh9 eg172) rfl (cs:=Q2i s9 s10) (by rw [hl9]; exact Q56 (by omega)) Q25 Q62 rfl (v:=.agg #[.int .u8 0,.int .i64 (Q39 ((s9:Nat):Int) ((s10:Nat):Int)),.string ((⟨#[]⟩ : ByteArray))]) rfl (xP hok 7 rfl ?_))))))))))))))))
       refine xP hok 8 rfl (xS hok 9 rfl (wC [] [0,1,2] rfl fn_97 rfl (Q5g ((s9:Nat):Int) ((s10:Nat):Int)) (asK [] rfl) rfl (H':=[_,_,_]) rfl ?_))
       rintro _ _ _ ⟨rfl,rfl,rfl⟩
       refine Q3 (QT [] [2,1] rfl rfl (Q7s hok 10 rfl rfl rfl (Q0 rfl) rfl rfl rfl rfl (eqlV _ _ (⟨0,Q39 ((s9:Nat):Int) ((s10:Nat):Int),(⟨#[]⟩ : ByteArray)⟩ : V) (⟨0,Q39 ((s9:Nat):Int) ((s10:Nat):Int),(⟨#[]⟩ : ByteArray)⟩ : V)) (Q1h (d:=177) (v':=.bool true) (S':=[_,_,_,_,_,_,_,_,_,_,_,_,_,_,_,_,_,_,_,_,_,_,_,_,_]) rfl rfl (congrArg Value.bool (by simp)) (xP hok 11 rfl (xP hok 12 rfl (xP hok 13 rfl (xP hok 14 rfl (Q1d hok 15 0 s9 rfl rfl rfl (Q0 rfl) rfl rfl rfl rfl rfl rfl (by rw [oks7.2.2.1]; exact hk9) Q5T Q1Z (QV hok 16 QW 0 s9 0 rfl rfl rfl (Q0 rfl) rfl rfl rfl rfl hg9 Q1Z Q41 (v:=.slice r9.g.1 r9.g.2.1 r9.g.2.2) rfl rfl (fun _=>(xP hok 17 rfl (Q6z hok 18 (p:=r9.g.1) (m:=r9.g.2.1) (cp:=r9.g.2.2) 2 s9 s10 rfl rfl rfl (Q0 rfl) rfl rfl rfl hr9 rfl rfl rfl rfl (by omega) hC9.symm Q1S Q25 (fun g185 eg185=>(Q5Y hok 19 2 s9 s10 rfl rfl rfl (Q0 rfl) rfl rfl rfl hr9 (Q7C eg185) rfl (cs:=Q2i s9 s10) (by rw [hm9]; exact app_at (by omega)) Q25 Q62 rfl (v:=.agg #[.int .u8 0,.int .i64 (Q39 ((s9:Nat):Int) ((s10:Nat):Int)),.string ((⟨#[]⟩ : ByteArray))]) rfl (xP hok 20 rfl ?_)))))))))))))))
       refine xP hok 21 rfl (xS hok 22 rfl (wC [] [0,1,2] rfl fn_97 rfl (Q5g ((s9:Nat):Int) ((s10:Nat):Int)) (asK [] rfl) rfl (H':=[_,_,_]) rfl ?_))
       rintro _ _ _ ⟨rfl,rfl,rfl⟩
       refine Q3 (QT [] [2,0,2,1] rfl rfl (Q7s hok 23 rfl rfl rfl (Q0 rfl) rfl rfl rfl rfl (eqlV _ _ (⟨0,Q39 ((s9:Nat):Int) ((s10:Nat):Int),(⟨#[]⟩ : ByteArray)⟩ : V) (⟨0,Q39 ((s9:Nat):Int) ((s10:Nat):Int),(⟨#[]⟩ : ByteArray)⟩ : V)) (Q1h (d:=190) (v':=.bool true) (S':=[_,_,_,_,_,_,_,_,_,_,_,_,_,_,_,_,_,_,_,_,_,_,_,_,_,_,_,_,_,_,_,_,_,_,_,_,_,_]) rfl rfl (congrArg Value.bool (by simp)) (xP hok 24 rfl (xP hok 25 rfl (Q19 hok rfl (Q2 (Q5 [192,164,15,155,14,126,11,76,9,46,6,5,19,3,2,0] (S':=[_,_,_,_,_,_,_,_,_,_,_,_,_,_,_,_]) rfl (Q58 rfl (Qj (Qa (Q2 (Q1 ?_)))))))))))))
       refine wP rfl (wP rfl (Qr (d:=166) (v':=.int .i64 ((s10 + 1:Nat):Int)) (S':=[_,_,_,_,_,_,_,_,_,_,_,_,_,_,_,_,_]) rfl rfl (Qw (a:=s10) (b:=1) (by omega)) (Qs (S':=[_,_,_,_,_,_,_,_,_,_,_,_,_,_,_,_,_]) rfl rfl rfl rfl rfl (Q3 ?_))))
       refine Q16 (s10 + 1) (by omega) (by omega) [15,155,14,126,11,76,9,46,6,5,19,3,2,0] rfl (asK [] rfl) rfl
      ·
       replace h164:=of_decide_eq_false h164
       refine QH (Q8 (Q8 (Qh (Qa (Q2 (Q1 (wP rfl (wP rfl (Qr (d:=157) (v':=.int .i64 ((s9 + 1:Nat):Int)) (S':=[_,_,_,_,_,_,_,_,_,_,_,_,_,_,_,_]) rfl rfl (Qw (a:=s9) (b:=1) (by omega)) (Qs (S':=[_,_,_,_,_,_,_,_,_,_,_,_,_,_,_,_]) rfl rfl rfl rfl rfl (Q3 ?_)))))))))))
       refine Q16 (s9 + 1) (by omega) (by omega) [14,126,11,76,9,46,6,5,19,3,2,0] rfl (asK [] rfl) rfl
     ·
      replace h155:=of_decide_eq_false h155
      refine QH (Q8 (Q8 (Qh (Q2 (Q4 (Q1 (Qs (S':=[_,_,_,_,_,_,_,_,_,_,_,_]) rfl rfl rfl rfl rfl (Q3 (Q2 (Qn (Qp (Hr:=[Qk 149 3 s7.2.1]) [2] Tryz.results69 (Qd rfl) ?_ (asK [] rfl) rfl rfl (.inl rfl))))))))))))
      exact ⟨_,oks7.2.left,rfl,rfl,rfl⟩
theorem Q4c (N:Nat) (a0:Int) (a1:Int) (a2:Int) (a3:Int) (o0:Bool) (hm:Q4s N a0 a1 a2 a3 = some o0):Q1v Tryz.prog 101 [.agg #[.int .i64 a0,.int .i64 a1,.slice none 0 0],.agg #[.int .i64 a2,.int .i64 a3,.slice none 0 0]] [] [] (fun v Φr Hr=>v = .bool o0 ∧ Φr = [] ∧ Hr = []):=by
 unfold Q4s at hm
 refine Qx Tryz.func101 rfl Tryz.ntmps101 rfl (S:=[_,_]) rfl (fun C=>(Q4 (Q1 (wB rfl (fun g2=>(wB rfl (fun g3=>(wP rfl (Q3 (Q2 (Q5 [3,2] (S':=[_,_]) rfl (Q4 (Q1 (wF rfl tF_61_0 (wD 1 0 rfl Q1g Q1D rfl (wF rfl tF_61_0 ?_))))))))))))))))
 refine wD 0 0 rfl Q1g Q1D rfl (wP rfl (wP rfl ?_))
 refine QA (d:=10) (S':=[_,_,_,_,_,_,_]) rfl rfl (fun hs10=>?_) (fun hs10=>?_)
 ·
  replace hm:=QQ hm hs10
  refine wF rfl tF_61_1 (wD 1 1 rfl Q1g Q1D rfl (wF rfl tF_61_1 (wD 0 1 rfl Q1g Q1D rfl (wP rfl (wP rfl (wP rfl ?_))))))
  refine QA (d:=17) (S':=[_,_,_,_,_,_,_,_,_,_,_,_,_,_]) rfl rfl (fun hs17=>?_) (fun hs17=>?_)
  ·
   replace hm:=QQ hm hs17
   refine wF rfl Q5e (wD 1 2 rfl Q1Z Q41 rfl (wF rfl Q5e (wD 0 2 rfl Q1Z Q41 rfl (Q2l (.sli 3 R_V none 0 ([] : List V)) (fun _ _ _=>Q2B) (Q2l (.sli 3 R_V none 0 ([] : List V)) (fun _ _ _=>Q2B) ?_)))))
   obtain ⟨v22,hc22,hm⟩:=Q6 hm
   refine wC [] [0,1] rfl fn_60 rfl (Q4d N none 0 ([] : List V) none 0 ([] : List V) _ hc22) (asK [1,0] rfl) rfl (H':=[_,_]) rfl ?_
   rintro _ _ _ ⟨rfl,rfl,rfl⟩
   refine wP rfl (wP rfl (Q3 (Q2 (Q5 [4] (S':=[_]) rfl (Qn ?_)))))
   have hE:=(Option.some.inj hm).symm
   replace hE:=hE.symm
   subst hE
   refine Qp (Hr:=[]) [] Tryz.results101 (Qd rfl) ⟨rfl,rfl,rfl⟩ (asK [] rfl) rfl rfl (.inl rfl)
  ·
   replace hm:=QP hm hs17
   refine wO rfl (wO rfl (wO rfl (wO rfl (wO rfl (wP rfl (wP rfl (Q3 (Q2 (Q5 [4] (S':=[_]) rfl (Qn ?_))))))))))
   have hE:=(Option.some.inj hm).symm
   replace hE:=hE.symm
   subst hE
   refine Qp (Hr:=[]) [] Tryz.results101 (Qd rfl) ⟨rfl,rfl,rfl⟩ (asK [] rfl) rfl rfl (.inl rfl)
 ·
  replace hm:=QP hm hs10
  refine wO rfl (wO rfl (wO rfl (wO rfl (wO rfl (wP rfl (wP rfl (wO rfl (wO rfl (wO rfl (wO rfl (wO rfl (wP rfl (wP rfl ?_)))))))))))))
  refine Q3 (Q2 (Q5 [4] (S':=[_]) rfl (Qn ?_)))
  have hE:=(Option.some.inj hm).symm
  replace hE:=hE.symm
  subst hE
  refine Qp (Hr:=[]) [] Tryz.results101 (Qd rfl) ⟨rfl,rfl,rfl⟩ (asK [] rfl) rfl rfl (.inl rfl)
def Q3H (k i:Int):Int:=IntKind.wrap .i64 ((IntKind.wrap .i64 (1000003 * (IntKind.wrap .i64 (k + 7)))) + i)
theorem Q5z (k i:Int):Q1v Tryz.prog 96 [.int .i64 k,.int .i64 i] [] [] (fun v Φr Hr=>v = .agg #[.int .i64 (Q3H k i),.int .i64 0,.slice none 0 0] ∧ Φr = [] ∧ Hr = []):=Q3O 0 k i rfl
def Q2S (k i:Nat):List Value:=[.int .i64 (Q3H ((k:Nat):Int) ((i:Nat):Int)),.int .i64 0,.slice none 0 0]
theorem Q7F (z:Int):Q4s 2 z 0 z 0 = some true:=by
  simp [Q4s,Q1j,Q1B,Q2s,Qg,Q5u,gd]
theorem fl_flatFacts (p:Option Addr) (c:Nat) (hs:List Hdr) (hL:hs.length ≤ 1073741824) (hb : ∀ h ∈ hs,h.2.1 ≤ 1073741824):Q1v Tryz.prog 70 [.slice p hs.length c] [] [.own 24 1 QF (.slice p hs.length c) hs,Qk 61 3 (hs.map Q1c)] (fun v Φr Hr=>∃ rows,FlE hs Q2S rows ∧ v = .bool true ∧ Φr = [] ∧ Hr = [Qk 61 3 rows]):=by
 refine Qx Tryz.func70 rfl Tryz.ntmps70 rfl (S:=[_]) rfl (fun C=>(Q4 (Q1 (wP rfl (Q3 (Q2 (Q4 (Q4 (Q1 (wP rfl (Q3 (Q2 (Qc (QI (σ:=List Twin × Nat) (fun s=>s.2 ≤ hs.length ∧ FlA hs Q2S s.2 0 s.1) (fun s=>hs.length - s.2) (fun s=>[(3,.int .i64 ((s.2:Nat):Int)),(2,.bool false),(0,.slice p hs.length c)]) (fun s=>[]) (fun s=>[.own 24 1 QF (.slice p hs.length c) hs,Qk 61 3 s.1]) (hs.map Q1c,0) ⟨Nat.zero_le _,FlA.start⟩ [3,2,0] rfl (asK [] rfl) rfl (fun s1 oks1=>?_)))))))))))))))
 refine Q4 (Q4 (Q1 (wP rfl (wP rfl (wN rfl Q5R (wP rfl (Q3 (Q2 (Q5 [19,3,2,0] (S':=[_,_,_,_]) rfl ?_)))))))))
 refine Qm rfl (fun h19=>?_) (fun h19=>?_)
 ·
  replace h19:=of_decide_eq_true h19
  have hk1:s1.2 < hs.length:=by omega
  obtain ⟨y1,hy1⟩ : ∃ y,hs[s1.2]? = some y:=⟨_,List.getElem?_eq_getElem hk1⟩
  have hB1:y1.2.1 ≤ 1073741824:=hb _ (List.mem_of_getElem? hy1)
  refine Qj (Q2 (Q4 (Qc (Q4 (Q1 (wP rfl (Q3 (Q2 (Qc (QI (σ:=List Twin × Nat) (fun s=>s.2 ≤ y1.2.1 ∧ FlA hs Q2S s1.2 s.2 s.1) (fun s=>y1.2.1 - s.2) (fun s=>[(4,.int .i64 ((s.2:Nat):Int)),(19,.bool (decide (((s1.2:Nat):Int) < ((hs.length:Nat):Int)))),(3,.int .i64 ((s1.2:Nat):Int)),(2,.bool false),(0,.slice p hs.length c)]) (fun s=>[]) (fun s=>[.own 24 1 QF (.slice p hs.length c) hs,Qk 61 3 s.1]) (s1.1,0) ⟨Nat.zero_le _,oks1.2⟩ [4,19,3,2,0] rfl (asK [] rfl) rfl (fun s2 oks2=>(Q4 (Q4 (Q1 ?_))))))))))))))
  refine wP rfl (wP rfl (wP rfl (Q1r 0 s1.2 rfl rfl rfl (Q0 rfl) rfl rfl rfl rfl rfl hk1 Q5R Q31 (fun g25 eg25=>?_))))
  subst eg25
  refine QU QW 0 s1.2 0 rfl rfl rfl (Q0 rfl) rfl rfl rfl hy1 Q31 Q4R (v:=fun _=>.slice y1.1 y1.2.1 y1.2.2) (fun _=>rfl) (fun _=>rfl) (fun _ _=>(wN rfl Q1s (wP rfl (Q3 (Q2 (Q5 [28,4,19,3,2,0] (S':=[_,_,_,_,_,_]) rfl ?_))))))
  refine Qm rfl (fun h28=>?_) (fun h28=>?_)
  ·
   replace h28:=of_decide_eq_true h28
   obtain ⟨r2,hr2,hh2,hsm2,hl2⟩:=oks2.2.at_ hy1
   refine Qj (Q2 (Q4 (Qc (Q1l [0,1,2,3,4,5,6,8] rfl rfl (fun hok=>(xP hok 0 rfl (xP hok 1 rfl (Q1d hok 2 0 s1.2 rfl rfl rfl (Q0 rfl) rfl rfl rfl rfl rfl rfl hk1 Q5R Q31 (QV hok 3 QW 0 s1.2 0 rfl rfl rfl (Q0 rfl) rfl rfl rfl rfl hy1 Q31 Q4R (v:=.slice y1.1 y1.2.1 y1.2.2) rfl rfl (fun _=>(xP hok 4 rfl (xP hok 5 rfl (xP hok 6 rfl (xS hok 7 rfl (wC [] [0,1] rfl fn_96 rfl (Q5z ((s1.2:Nat):Int) ((s2.2:Nat):Int)) (asK [] rfl) rfl (H':=[_,_]) rfl ?_)))))))))))))))
   rintro _ _ _ ⟨rfl,rfl,rfl⟩
   refine Q3 (QT [] [0] rfl rfl (Q51 hok 8 (p:=y1.1) (m:=y1.2.1) (cp:=y1.2.2) 1 s1.2 s2.2 rfl rfl rfl (Q0 rfl) rfl rfl rfl hr2 hh2 rfl rfl rfl (by omega) hl2 Q1s Q1G (fun g39 eg39=>(xS hok 9 rfl (Q8b (cs:=Q2S s1.2 s2.2) 1 s1.2 s2.2 rfl rfl rfl rfl hr2 hsm2 (Q75 hh2 eg39) rfl (by omega) rfl rfl Q1G rfl (one_of rfl) (H':=[_,_]) rfl (Q3 (QT [] [] rfl rfl (Q19 hok rfl (Qa (Q2 (Q1 (wP rfl (wP rfl (Qr (d:=30) (v':=.int .i64 ((s2.2 + 1:Nat):Int)) (S':=[_,_,_,_,_,_,_,_,_,_,_,_,_,_,_,_]) rfl rfl (Qw (a:=s2.2) (b:=1) (by omega)) ?_))))))))))))))
   refine Qs (S':=[_,_,_,_,_,_,_,_,_,_,_,_,_,_,_,_]) rfl rfl rfl rfl rfl (Q3 ?_)
   refine Q16 (s2.1.set s1.2 ⟨r2.h,(r2.l.set s2.2 (some (Q2S s1.2 s2.2))),r2.h,(r2.l.set s2.2 (some (Q2S s1.2 s2.2)))⟩,s2.2 + 1) (by show y1.2.1 - (s2.2 + 1) < _; omega) ⟨by show s2.2 + 1 ≤ _; omega,oks2.2.store hy1 hr2 (by omega)⟩ [4,19,3,2,0] rfl (asK [] rfl) rfl
  ·
   replace h28:=of_decide_eq_false h28
   refine QH (Q8 (Q8 (Qh (Qa (Q2 (Q1 (wP rfl (wP rfl (Qr (d:=21) (v':=.int .i64 ((s1.2 + 1:Nat):Int)) (S':=[_,_,_,_,_,_,_]) rfl rfl (Qw (a:=s1.2) (b:=1) (by omega)) (Qs (S':=[_,_,_,_,_,_,_]) rfl rfl rfl rfl rfl (Q3 ?_)))))))))))
   refine Q16 (s2.1,s1.2 + 1) (by show hs.length - (s1.2 + 1) < _; omega) ⟨by show s1.2 + 1 ≤ _; omega,oks2.2.next hy1 (by omega)⟩ [3,2,0] rfl (asK [] rfl) rfl
 ·
  replace h19:=of_decide_eq_false h19
  refine QH (Q8 (Q8 (Qh (Q2 (Q4 (Q1 (wP rfl (wN rfl Q5R (Q4J (m:=hs.length) QF (none,0,0) rfl rfl rfl (Q0 rfl) rfl rfl rfl rfl rfl Q5R tR_24 rfl rfl (fun _ _=>rfl) (by omega) (by omega) (fun g42=>(wP rfl (Q3 (Q2 (Q5 [5,19,3,2,0] (S':=[_,_,_,_,_]) rfl ?_))))))))))))))
  refine Q4 (Q4 (Q1 (wP rfl (Q3 (Q2 (Qc (QI (σ:=List Hdr × List Twin × Nat) (fun s=>s.2.2 ≤ hs.length ∧ FlB hs Q2S s.1 s.2.2 s.2.1) (fun s=>hs.length - s.2.2) (fun s=>[(6,.int .i64 ((s.2.2:Nat):Int)),(5,.slice (some ⟨g42,0,none⟩) hs.length hs.length),(19,.bool (decide (((s1.2:Nat):Int) < ((hs.length:Nat):Int)))),(3,.int .i64 ((s1.2:Nat):Int)),(2,.bool false),(0,.slice p hs.length c)]) (fun s=>[]) (fun s=>[.own 24 1 QF (.slice (some ⟨g42,0,none⟩) hs.length hs.length) s.1,.own 24 1 QF (.slice p hs.length c) hs,Qk 61 3 s.2.1]) (List.replicate hs.length (none,0,0),s1.1,0) ⟨Nat.zero_le _,oks1.2.grow (by omega) (by simp)⟩ [6,5,19,3,2,0] rfl (asK [] rfl) rfl (fun s3 oks3=>(Q4 (Q4 (Q1 (wP rfl (wP rfl (wN rfl Q5R ?_))))))))))))))
  refine wP rfl (Q3 (Q2 (Q5 [46,6,5,19,3,2,0] (S':=[_,_,_,_,_,_,_]) rfl ?_)))
  refine Qm rfl (fun h46=>?_) (fun h46=>?_)
  ·
   replace h46:=of_decide_eq_true h46
   have hk3:s3.2.2 < hs.length:=by omega
   obtain ⟨y3,hy3⟩ : ∃ y,hs[s3.2.2]? = some y:=⟨_,List.getElem?_eq_getElem hk3⟩
   have hB3:y3.2.1 ≤ 1073741824:=hb _ (List.mem_of_getElem? hy3)
   refine Qj (Q2 (Q4 (Qc (Q4 (Q1 (wP rfl (wP rfl (Q1r 1 s3.2.2 rfl rfl rfl (Q0 rfl) rfl rfl rfl rfl rfl hk3 Q5R Q31 (fun g51 eg51=>?_)))))))))
   subst eg51
   refine QU QW 1 s3.2.2 0 rfl rfl rfl (Q0 rfl) rfl rfl rfl hy3 Q31 Q4R (v:=fun _=>.slice y3.1 y3.2.1 y3.2.2) (fun _=>rfl) (fun _=>rfl) (fun _ _=>(wP rfl (Q3 (Q2 (Q5 [7,46,6,5,19,3,2,0] (S':=[_,_,_,_,_,_,_,_]) rfl (Q4 (Q4 (Q1 (wP rfl (Q3 (Q2 (Qc (QI (σ:=List Twin × Hdr × Nat) (fun s=>s.2.2 ≤ 64 ∧ FlC hs Q2S s3.1 s3.2.2 s.2.2 s.2.1 s.1) (fun s=>64 - s.2.2) (fun s=>[(8,.int .i64 ((s.2.2:Nat):Int)),(7,.slice s.2.1.1 s.2.1.2.1 s.2.1.2.2),(46,.bool (decide (((s3.2.2:Nat):Int) < ((hs.length:Nat):Int)))),(6,.int .i64 ((s3.2.2:Nat):Int)),(5,.slice (some ⟨g42,0,none⟩) hs.length hs.length),(19,.bool (decide (((s1.2:Nat):Int) < ((hs.length:Nat):Int)))),(3,.int .i64 ((s1.2:Nat):Int)),(2,.bool false),(0,.slice (some ⟨g51,0,none⟩) hs.length c)]) (fun s=>[]) (fun s=>[.own 24 1 QF (.slice (some ⟨g42,0,none⟩) hs.length hs.length) s3.1,.own 24 1 QF (.slice (some ⟨g51,0,none⟩) hs.length c) hs,Qk 61 3 s.1]) (s3.2.1,y3,0) ⟨Nat.zero_le _,oks3.2.begin hy3⟩ [8,7,46,6,5,19,3,2,0] rfl (asK [] rfl) rfl (fun s4 oks4=>(Q4 ?_)))))))))))))))
   refine Q4 (Q1 (wP rfl (wP rfl (Q3 (Q2 (Q5 [54,8,7,46,6,5,19,3,2,0] (S':=[_,_,_,_,_,_,_,_,_,_]) rfl ?_))))))
   refine Qm rfl (fun h54=>?_) (fun h54=>?_)
   ·
    replace h54:=of_decide_eq_true h54
    obtain ⟨r4,hr4,hh4,hl4,hg4,hm4⟩:=oks4.2.at_ hy3
    refine Qj (Q2 (Q4 (Qc (Q1 (wP rfl (wP rfl (wP rfl (wP rfl (Q2c 1 s3.2.2 rfl rfl rfl (Q0 rfl) rfl rfl rfl rfl rfl hk3 Q5R Q31 (QU QW 1 s3.2.2 0 rfl rfl rfl (Q0 rfl) rfl rfl rfl hy3 Q31 Q4R (v:=fun _=>.slice y3.1 y3.2.1 y3.2.2) (fun _=>rfl) (fun _=>rfl) (fun _ _=>(wN rfl Q1s (wP rfl (wP rfl ?_))))))))))))))
    refine Qr (d:=65) (v':=.int .i64 ((y3.2.1 + s4.2.2:Nat):Int)) (S':=[_,_,_,_,_,_,_,_,_,_,_,_,_,_,_,_,_,_]) rfl rfl (Qw (a:=y3.2.1) (b:=s4.2.2) (by omega)) (wC [] [0,1,2] rfl fn_96 rfl (Q5z ((s3.2.2:Nat):Int) ((y3.2.1 + s4.2.2:Nat):Int)) (asK [] rfl) rfl (H':=[_,_,_]) rfl ?_)
    rintro _ _ _ ⟨rfl,rfl,rfl⟩
    refine QJ rfl rfl rfl (Q0 rfl) rfl Q1s Q1G tZ_61 rfl (zs:=[.int .i64 0,.int .i64 0,.slice none 0 0]) (by kernel_rfl) rfl (out:=[_,_,_]) rfl (fun g67=>(Q8y (cs:=Q2S s3.2.2 (y3.2.1 + s4.2.2)) 3 s3.2.2 0 rfl rfl rfl (Q0 rfl) rfl rfl hr4 (by rw [hg4]; rfl) rfl rfl rfl (one_of rfl) Q1s tR_61 rfl rfl (by rw [hm4]; simp only [Q10,List.length_append,List.length_cons,List.length_nil]; omega) (by rw [hm4]; simp only [Q10,List.length_append,List.length_cons,List.length_nil]; omega) (H2:=fun gh68=>[_,_,_,Qk 61 3 (s4.1.set s3.2.2 ⟨r4.h,r4.l,gh68,r4.m ++ [some (Q2S s3.2.2 (y3.2.1 + s4.2.2))]⟩)]) (fun _=>rfl) (fun gh68=>(Q2k 0 rfl (H':=[_,_,_]) rfl (Qs (S':=[_,_,_,_,_,_,_,_,_,_,_,_,_,_,_,_,_,_,_,_,_]) rfl rfl rfl rfl rfl (Q3 (Qa (Q2 (Q1 (wP rfl (wP rfl (Qr (d:=56) (v':=.int .i64 ((s4.2.2 + 1:Nat):Int)) (S':=[_,_,_,_,_,_,_,_,_,_,_,_,_,_,_,_,_,_,_,_,_,_,_]) rfl rfl (Qw (a:=s4.2.2) (b:=1) (by omega)) (Qs (S':=[_,_,_,_,_,_,_,_,_,_,_,_,_,_,_,_,_,_,_,_,_,_,_]) rfl rfl rfl rfl rfl (Q3 ?_))))))))))))))
    refine Q16 (s4.1.set s3.2.2 ⟨r4.h,r4.l,gh68,r4.m ++ [some (Q2S s3.2.2 (y3.2.1 + s4.2.2))]⟩,gh68,s4.2.2 + 1) (by show 64 - (s4.2.2 + 1) < _; omega) ⟨by show s4.2.2 + 1 ≤ 64; omega,oks4.2.app hy3 hr4 _⟩ [8,7,46,6,5,19,3,2,0] rfl (asK [] rfl) rfl
   ·
    replace h54:=of_decide_eq_false h54
    refine QH (Q8 (Q8 (Qh (Q2 (Q1 (wP rfl (wP rfl (wP rfl (Q2c 0 s3.2.2 rfl rfl rfl (Q0 rfl) rfl rfl rfl rfl rfl (by rw [oks3.2.2.1]; exact hk3) Q5R Q31 (Q3r (u:=s4.2.1) 0 s3.2.2 rfl rfl rfl rfl rfl (by rw [oks3.2.2.1]; exact hk3) rfl rfl Q31 rfl (fun _ _ _=>rfl) (H':=[_,_,_]) rfl (Q3 (Qa (Q2 ?_)))))))))))))
    refine Q1 (wP rfl (wP rfl (Qr (d:=48) (v':=.int .i64 ((s3.2.2 + 1:Nat):Int)) (S':=[_,_,_,_,_,_,_,_,_,_,_,_,_,_,_]) rfl rfl (Qw (a:=s3.2.2) (b:=1) (by omega)) (Qs (S':=[_,_,_,_,_,_,_,_,_,_,_,_,_,_,_]) rfl rfl rfl rfl rfl (Q3 ?_)))))
    have hc3:=oks4.2
    rw [show s4.2.2 = 64 from by omega] at hc3
    refine Q16 (s3.1.set s3.2.2 s4.2.1,s4.1,s3.2.2 + 1) (by show hs.length - (s3.2.2 + 1) < _; omega) ⟨by show s3.2.2 + 1 ≤ _; omega,hc3.done hk3⟩ [6,5,19,3,2,0] rfl (asK [] rfl) rfl
  ·
   replace h46:=of_decide_eq_false h46
   refine QH (Q8 (Q8 (Qh (Q2 (Q4 (Q4 (Q1 (wP rfl (Q3 (Q2 (Qc (QI (σ:=Nat) (fun s=>s ≤ hs.length) (fun s=>hs.length - s) (fun s=>[(9,.int .i64 ((s:Nat):Int)),(46,.bool (decide (((s3.2.2:Nat):Int) < ((hs.length:Nat):Int)))),(6,.int .i64 ((s3.2.2:Nat):Int)),(5,.slice (some ⟨g42,0,none⟩) hs.length hs.length),(19,.bool (decide (((s1.2:Nat):Int) < ((hs.length:Nat):Int)))),(3,.int .i64 ((s1.2:Nat):Int)),(2,.bool false),(0,.slice p hs.length c)]) (fun s=>[]) (fun s=>[.own 24 1 QF (.slice (some ⟨g42,0,none⟩) hs.length hs.length) s3.1,.own 24 1 QF (.slice p hs.length c) hs,Qk 61 3 s3.2.1]) 0 (Nat.zero_le _) [9,46,6,5,19,3,2,0] rfl (asK [] rfl) rfl (fun s5 oks5=>(Q4 ?_))))))))))))))
   refine Q4 (Q1 (wP rfl (wP rfl (wN rfl Q5R (wP rfl (Q3 (Q2 (Q5 [76,9,46,6,5,19,3,2,0] (S':=[_,_,_,_,_,_,_,_,_]) rfl ?_))))))))
   refine Qm rfl (fun h76=>?_) (fun h76=>?_)
   ·
    replace h76:=of_decide_eq_true h76
    have hk5:s5 < hs.length:=by omega
    obtain ⟨y5,hy5⟩ : ∃ y,hs[s5]? = some y:=⟨_,List.getElem?_eq_getElem hk5⟩
    have hB5:y5.2.1 ≤ 1073741824:=hb _ (List.mem_of_getElem? hy5)
    obtain ⟨r5,hr5,hh5,hl5,hg5,hm5⟩:=oks3.2.look (by omega) hy5
    refine Q6Y 2 rfl hr5 (fun hA5 hC5=>?_)
    rw [hl5,Q10] at hA5
    rw [hm5,Q10] at hC5
    refine Qj (Q2 (Q4 (Qc (Q4 (Q1 (wP rfl (Q3 (Q2 (Qc (QI (σ:=Nat) (fun s=>s ≤ y5.2.1 + 64) (fun s=>y5.2.1 + 64 - s) (fun s=>[(10,.int .i64 ((s:Nat):Int)),(76,.bool (decide (((s5:Nat):Int) < ((hs.length:Nat):Int)))),(9,.int .i64 ((s5:Nat):Int)),(46,.bool (decide (((s3.2.2:Nat):Int) < ((hs.length:Nat):Int)))),(6,.int .i64 ((s3.2.2:Nat):Int)),(5,.slice (some ⟨g42,0,none⟩) hs.length hs.length),(19,.bool (decide (((s1.2:Nat):Int) < ((hs.length:Nat):Int)))),(3,.int .i64 ((s1.2:Nat):Int)),(2,.bool false),(0,.slice p hs.length c)]) (fun s=>[]) (fun s=>[.own 24 1 QF (.slice (some ⟨g42,0,none⟩) hs.length hs.length) s3.1,.own 24 1 QF (.slice p hs.length c) hs,Qk 61 3 s3.2.1]) 0 (Nat.zero_le _) [10,76,9,46,6,5,19,3,2,0] rfl (asK [] rfl) rfl (fun s6 oks6=>(Q4 (Q4 (Q1 ?_))))))))))))))
    refine wP rfl (wP rfl (wP rfl (Q2c 0 s5 rfl rfl rfl (Q0 rfl) rfl rfl rfl rfl rfl (by rw [oks3.2.2.1]; exact hk5) Q5R Q31 (QU QW 0 s5 0 rfl rfl rfl (Q0 rfl) rfl rfl rfl hg5 Q31 Q4R (v:=fun _=>.slice r5.g.1 r5.g.2.1 r5.g.2.2) (fun _=>rfl) (fun _=>rfl) (fun _ _=>(wN rfl Q1s (wP rfl (Q3 (Q2 (Q5 [85,10,76,9,46,6,5,19,3,2,0] (S':=[_,_,_,_,_,_,_,_,_,_,_]) rfl ?_))))))))))
    refine Qm rfl (fun h85=>?_) (fun h85=>?_)
    ·
     replace h85:=of_decide_eq_true h85
     refine Qj (Q2 (Q4 (Qc (Q4 (Q1l [0,1,2,3,4,5,6,7,8,11,12,13,14,15,16,17,18,19,20,21,22,23,24,25,26,27,28,29,32,33,34] rfl rfl (fun hok=>(xP hok 0 rfl (xP hok 1 rfl (Q1d hok 2 0 s5 rfl rfl rfl (Q0 rfl) rfl rfl rfl rfl rfl rfl (by rw [oks3.2.2.1]; exact hk5) Q5R Q31 (QV hok 3 QW 0 s5 0 rfl rfl rfl (Q0 rfl) rfl rfl rfl rfl hg5 Q31 Q4R (v:=.slice r5.g.1 r5.g.2.1 r5.g.2.2) rfl rfl (fun _=>(xP hok 4 rfl (Q6z hok 5 (p:=r5.g.1) (m:=r5.g.2.1) (cp:=r5.g.2.2) 2 s5 s6 rfl rfl rfl (Q0 rfl) rfl rfl rfl hr5 rfl rfl rfl rfl (by omega) (by rw [hm5,Q10]; omega) Q1s Q1G (fun g93 eg93=>(Q5Y hok 6 2 s5 s6 rfl rfl rfl (Q0 rfl) rfl rfl rfl hr5 (Q7C eg93) rfl (cs:=Q2S s5 s6) (by rw [hm5]; exact Q56 (by omega)) Q1G Q59 rfl (v:=.agg #[.int .i64 (Q3H ((s5:Nat):Int) ((s6:Nat):Int)),.int .i64 0,.slice none 0 0]) rfl (xP hok 7 rfl ?_))))))))))))))))
     refine xP hok 8 rfl (xS hok 9 rfl (wC [] [0,1,2] rfl fn_96 rfl (Q5z ((s5:Nat):Int) ((s6:Nat):Int)) (asK [] rfl) rfl (H':=[_,_,_]) rfl ?_))
     rintro _ _ _ ⟨rfl,rfl,rfl⟩
     refine Q3 (QT [] [2,0] rfl rfl (xS hok 10 rfl (wC [] [0,1,2] rfl Q8e rfl (Q4c 2 (Q3H ((s5:Nat):Int) ((s6:Nat):Int)) 0 (Q3H ((s5:Nat):Int) ((s6:Nat):Int)) 0 _ (Q7F _)) (asK [] rfl) rfl (H':=[_,_,_]) rfl ?_)))
     rintro _ _ _ ⟨rfl,rfl,rfl⟩
     refine Q3 (QT [] [0] rfl rfl (xP hok 11 rfl (xP hok 12 rfl (xP hok 13 rfl (xP hok 14 rfl (xP hok 15 rfl (Q7m hok 16 1 s5 rfl rfl rfl (Q0 rfl) rfl rfl rfl rfl rfl rfl hk5 Q5R Q31 (fun g104 eg104=>?_))))))))
     subst eg104
     refine QV hok 17 QW 1 s5 0 rfl rfl rfl (Q0 rfl) rfl rfl rfl rfl hy5 Q31 Q4R (v:=.slice y5.1 y5.2.1 y5.2.2) rfl rfl (fun _=>(Q3e hok 18 rfl rfl rfl (Q0 rfl) rfl rfl rfl Q1s (xP hok 19 rfl (xP hok 20 rfl ?_))))
     refine wx_split (d:=108) (S':=[_,_,_,_,_,_,_,_,_,_,_,_,_,_,_,_,_,_,_,_,_,_,_,_,_,_,_,_,_,_,_]) rfl rfl (fun h108=>?_) (fun h108=>?_)
     ·
      replace h108:=of_decide_eq_true h108
      refine xP hok 21 rfl (xP hok 22 rfl (Q1d hok 23 1 s5 rfl rfl rfl (Q0 rfl) rfl rfl rfl rfl rfl rfl hk5 Q5R Q31 (QV hok 24 QW 1 s5 0 rfl rfl rfl (Q0 rfl) rfl rfl rfl rfl hy5 Q31 Q4R (v:=.slice y5.1 y5.2.1 y5.2.2) rfl rfl (fun _=>(xP hok 25 rfl (Q51 hok 26 (p:=y5.1) (m:=y5.2.1) (cp:=y5.2.2) 2 s5 s6 rfl rfl rfl (Q0 rfl) rfl rfl rfl hr5 hh5 rfl rfl rfl (by omega) (by rw [hl5,Q10]) Q1s Q1G (fun g114 eg114=>(Q5X hok 27 2 s5 s6 rfl rfl rfl (Q0 rfl) rfl rfl rfl hr5 (Q75 hh5 eg114) rfl (cs:=Q2S s5 s6) (by rw [hl5]; exact Q56 (by omega)) Q1G Q59 rfl (v:=.agg #[.int .i64 (Q3H ((s5:Nat):Int) ((s6:Nat):Int)),.int .i64 0,.slice none 0 0]) rfl (xP hok 28 rfl (xP hok 29 rfl (xS hok 30 rfl (wC [] [0,1,2] rfl fn_96 rfl (Q5z ((s5:Nat):Int) ((s6:Nat):Int)) (asK [] rfl) rfl (H':=[_,_,_]) rfl ?_))))))))))))
      rintro _ _ _ ⟨rfl,rfl,rfl⟩
      refine Q3 (QT [] [2,1,1,2,0] rfl rfl (xS hok 31 rfl (wC [] [0,1,2] rfl Q8e rfl (Q4c 2 (Q3H ((s5:Nat):Int) ((s6:Nat):Int)) 0 (Q3H ((s5:Nat):Int) ((s6:Nat):Int)) 0 _ (Q7F _)) (asK [] rfl) rfl (H':=[_,_,_]) rfl ?_)))
      rintro _ _ _ ⟨rfl,rfl,rfl⟩
      refine Q3 (QT [] [1,1,2,0] rfl rfl (xP hok 32 rfl (xP hok 33 rfl (xP hok 34 rfl (Q19 hok rfl (Q2 (Q5 [122,85,10,76,9,46,6,5,19,3,2,0] (S':=[_,_,_,_,_,_,_,_,_,_,_,_]) rfl (Q58 rfl (Qj (Qa (Q2 (Q1 (wP rfl ?_)))))))))))))
      refine wP rfl (Qr (d:=87) (v':=.int .i64 ((s6 + 1:Nat):Int)) (S':=[_,_,_,_,_,_,_,_,_,_,_,_,_]) rfl rfl (Qw (a:=s6) (b:=1) (by omega)) (Qs (S':=[_,_,_,_,_,_,_,_,_,_,_,_,_]) rfl rfl rfl rfl rfl (Q3 ?_)))
      refine Q16 (s6 + 1) (by omega) (by omega) [10,76,9,46,6,5,19,3,2,0] rfl (asK [] rfl) rfl
     ·
      replace h108:=of_decide_eq_false h108
      refine xO hok 21 rfl (xO hok 22 rfl (xO hok 23 rfl (xO hok 24 rfl (xO hok 25 rfl (xO hok 26 rfl (xO hok 27 rfl (xO hok 28 rfl (xO hok 29 rfl (xS hok 30 rfl (wO rfl (Q3 (QT [] [1,2,0] rfl rfl (xS hok 31 rfl ?_)))))))))))))
      refine wO rfl (Q3 (QT [] [1,2,0] rfl rfl (xO hok 32 rfl (xP hok 33 rfl (xP hok 34 rfl (Q19 hok rfl (Q2 (Q5 [122,85,10,76,9,46,6,5,19,3,2,0] (S':=[_,_,_,_,_,_,_,_,_,_,_,_]) rfl (Q58 rfl (Qj (Qa (Q2 (Q1 ?_)))))))))))))
      refine wP rfl (wP rfl (Qr (d:=87) (v':=.int .i64 ((s6 + 1:Nat):Int)) (S':=[_,_,_,_,_,_,_,_,_,_,_,_,_]) rfl rfl (Qw (a:=s6) (b:=1) (by omega)) (Qs (S':=[_,_,_,_,_,_,_,_,_,_,_,_,_]) rfl rfl rfl rfl rfl (Q3 ?_))))
      refine Q16 (s6 + 1) (by omega) (by omega) [10,76,9,46,6,5,19,3,2,0] rfl (asK [] rfl) rfl
    ·
     replace h85:=of_decide_eq_false h85
     refine QH (Q8 (Q8 (Qh (Qa (Q2 (Q1 (wP rfl (wP rfl (Qr (d:=78) (v':=.int .i64 ((s5 + 1:Nat):Int)) (S':=[_,_,_,_,_,_,_,_,_,_,_,_]) rfl rfl (Qw (a:=s5) (b:=1) (by omega)) (Qs (S':=[_,_,_,_,_,_,_,_,_,_,_,_]) rfl rfl rfl rfl rfl (Q3 ?_)))))))))))
     refine Q16 (s5 + 1) (by omega) (by omega) [9,46,6,5,19,3,2,0] rfl (asK [] rfl) rfl
   ·
    replace h76:=of_decide_eq_false h76
    refine QH (Q8 (Q8 (Qh (Q2 (Q4 (Q4 (Q1 (wP rfl (Q3 (Q2 (Qc (QI (σ:=List Hdr × List Twin × Nat) (fun s=>s.2.2 ≤ hs.length ∧ FlD hs Q2S s.1 s.2.2 s.2.1) (fun s=>hs.length - s.2.2) (fun s=>[(11,.int .i64 ((s.2.2:Nat):Int)),(76,.bool (decide (((s5:Nat):Int) < ((hs.length:Nat):Int)))),(9,.int .i64 ((s5:Nat):Int)),(46,.bool (decide (((s3.2.2:Nat):Int) < ((hs.length:Nat):Int)))),(6,.int .i64 ((s3.2.2:Nat):Int)),(5,.slice (some ⟨g42,0,none⟩) hs.length hs.length),(19,.bool (decide (((s1.2:Nat):Int) < ((hs.length:Nat):Int)))),(3,.int .i64 ((s1.2:Nat):Int)),(2,.bool false),(0,.slice p hs.length c)]) (fun s=>[]) (fun s=>[.own 24 1 QF (.slice (some ⟨g42,0,none⟩) hs.length hs.length) s.1,.own 24 1 QF (.slice p hs.length c) hs,Qk 61 3 s.2.1]) (s3.1,s3.2.1,0) ⟨Nat.zero_le _,oks3.2.again⟩ [11,76,9,46,6,5,19,3,2,0] rfl (asK [] rfl) rfl (fun s7 oks7=>(Q4 ?_))))))))))))))
    refine Q4 (Q1 (wP rfl (wP rfl (wN rfl Q5R (wP rfl (Q3 (Q2 (Q5 [126,11,76,9,46,6,5,19,3,2,0] (S':=[_,_,_,_,_,_,_,_,_,_,_]) rfl ?_))))))))
    refine Qm rfl (fun h126=>?_) (fun h126=>?_)
    ·
     replace h126:=of_decide_eq_true h126
     have hk7:s7.2.2 < hs.length:=by omega
     obtain ⟨y7,hy7⟩ : ∃ y,hs[s7.2.2]? = some y:=⟨_,List.getElem?_eq_getElem hk7⟩
     have hB7:y7.2.1 ≤ 1073741824:=hb _ (List.mem_of_getElem? hy7)
     obtain ⟨r7,hr7,hh7,hl7⟩:=oks7.2.at_ hy7
     refine Qj (Q2 (Q4 (Qc (Q4 (Q1 (Q4J (m:=64) celR (none:Cel) rfl rfl rfl (Q0 rfl) rfl rfl rfl rfl rfl Q1s tR_61 rfl rfl (fun _ _=>cel_any rfl) (by omega) (by omega) (fun g129=>(wP rfl (Q3 (Q2 (Q5 [12,126,11,76,9,46,6,5,19,3,2,0] (S':=[_,_,_,_,_,_,_,_,_,_,_,_]) rfl (Q4 (Q4 (Q1 ?_))))))))))))))
     refine wP rfl (Q3 (Q2 (Qc (QI (σ:=List Cel × Nat) (fun s=>s.2 ≤ 64 ∧ s.1.length = 64) (fun s=>64 - s.2) (fun s=>[(13,.int .i64 ((s.2:Nat):Int)),(12,.slice (some ⟨g129,0,none⟩) 64 64),(126,.bool (decide (((s7.2.2:Nat):Int) < ((hs.length:Nat):Int)))),(11,.int .i64 ((s7.2.2:Nat):Int)),(76,.bool (decide (((s5:Nat):Int) < ((hs.length:Nat):Int)))),(9,.int .i64 ((s5:Nat):Int)),(46,.bool (decide (((s3.2.2:Nat):Int) < ((hs.length:Nat):Int)))),(6,.int .i64 ((s3.2.2:Nat):Int)),(5,.slice (some ⟨g42,0,none⟩) hs.length hs.length),(19,.bool (decide (((s1.2:Nat):Int) < ((hs.length:Nat):Int)))),(3,.int .i64 ((s1.2:Nat):Int)),(2,.bool false),(0,.slice p hs.length c)]) (fun s=>[]) (fun s=>[.own 61 3 celR (.slice (some ⟨g129,0,none⟩) 64 64) s.1,.own 24 1 QF (.slice (some ⟨g42,0,none⟩) hs.length hs.length) s7.1,.own 24 1 QF (.slice p hs.length c) hs,Qk 61 3 s7.2.1]) (List.replicate 64 (none:Cel),0) ⟨Nat.zero_le _,by simp⟩ [13,12,126,11,76,9,46,6,5,19,3,2,0] rfl (asK [] rfl) rfl (fun s8 oks8=>(Q4 (Q4 (Q1 (wP rfl (wP rfl (Q3 (Q2 (Q5 [131,13,12,126,11,76,9,46,6,5,19,3,2,0] (S':=[_,_,_,_,_,_,_,_,_,_,_,_,_,_]) rfl ?_)))))))))))))
     refine Qm rfl (fun h131=>?_) (fun h131=>?_)
     ·
      replace h131:=of_decide_eq_true h131
      refine Qj (Q2 (Q4 (Qc (Q1 (wP rfl (wP rfl (wP rfl (wP rfl (wN rfl Q5R (wP rfl (Qr (d:=139) (v':=.int .i64 ((s7.2.2 + hs.length:Nat):Int)) (S':=[_,_,_,_,_,_,_,_,_,_,_,_,_,_,_,_,_,_,_]) rfl rfl (Qw (a:=s7.2.2) (b:=hs.length) (by omega)) (wP rfl (wC [] [0,1,2,3] rfl fn_96 rfl (Q5z ((s7.2.2 + hs.length:Nat):Int) ((s8.2:Nat):Int)) (asK [] rfl) rfl (H':=[_,_,_,_]) rfl ?_)))))))))))))
      rintro _ _ _ ⟨rfl,rfl,rfl⟩
      refine Q2c 0 s8.2 rfl rfl rfl (Q0 rfl) rfl rfl rfl rfl rfl (by rw [oks8.2]; omega) Q1s Q1G (Q3r (u:=some ([.int .i64 (Q3H ((s7.2.2 + hs.length:Nat):Int) ((s8.2:Nat):Int)),.int .i64 0,.slice none 0 0] : List Value)) 0 s8.2 rfl rfl rfl rfl rfl (by rw [oks8.2]; omega) rfl rfl Q1G rfl (fun _ _ _=>cel_some rfl) (H':=[_,_,_,_]) rfl (Q3 (Qa (Q2 (Q1 (wP rfl (wP rfl (Qr (d:=133) (v':=.int .i64 ((s8.2 + 1:Nat):Int)) (S':=[_,_,_,_,_,_,_,_,_,_,_,_,_,_,_,_,_,_,_,_,_,_,_,_]) rfl rfl (Qw (a:=s8.2) (b:=1) (by omega)) (Qs (S':=[_,_,_,_,_,_,_,_,_,_,_,_,_,_,_,_,_,_,_,_,_,_,_,_]) rfl rfl rfl rfl rfl (Q3 ?_))))))))))
      refine Q16 (s8.1.set s8.2 (some ([.int .i64 (Q3H ((s7.2.2 + hs.length:Nat):Int) ((s8.2:Nat):Int)),.int .i64 0,.slice none 0 0] : List Value)),s8.2 + 1) (by show 64 - (s8.2 + 1) < _; omega) ⟨by show s8.2 + 1 ≤ 64; omega,by show (List.set _ _ _).length = 64; rw [List.length_set]; exact oks8.2⟩ [13,12,126,11,76,9,46,6,5,19,3,2,0] rfl (asK [] rfl) rfl
     ·
      replace h131:=of_decide_eq_false h131
      refine QH (Q8 (Q8 (Qh (Q2 (Q1 (wP rfl (wP rfl (wP rfl (wP rfl (Q1r 2 s7.2.2 rfl rfl rfl (Q0 rfl) rfl rfl rfl rfl rfl hk7 Q5R Q31 (fun g147 eg147=>?_)))))))))))
      subst eg147
      refine QU QW 2 s7.2.2 0 rfl rfl rfl (Q0 rfl) rfl rfl rfl hy7 Q31 Q4R (v:=fun _=>.slice y7.1 y7.2.1 y7.2.2) (fun _=>rfl) (fun _=>rfl) (fun _ _=>(wP rfl (Qv [_,_,_,Qk 61 3 (s7.2.1.set s7.2.2 ⟨r7.h,r7.l,r7.h,r7.l⟩)] (fun _ h=>h.flReset 3 s7.2.2 rfl hr7) (Q8A 3 s7.2.2 0 rfl rfl rfl (Q0 rfl) rfl rfl (Q88 _ hr7) (by show _ = some (hdv r7.h); rw [hh7]; rfl) rfl rfl oks8.2 (by decide) Q1s tR_61 rfl rfl (by show r7.l.length + _ ≤ _; rw [hl7,Q10]; omega) (by show (r7.l.length + _) * _ ≤ _; rw [hl7,Q10]; omega) (H2:=fun gh150=>[_,_,_,Qk 61 3 ((s7.2.1.set s7.2.2 ⟨r7.h,r7.l,r7.h,r7.l⟩).set s7.2.2 ⟨r7.h,r7.l,gh150,r7.l ++ s8.1⟩)]) (fun _=>rfl) (fun gh150=>(Q2k 0 rfl (H':=[_,_,_]) rfl (Q2c 0 s7.2.2 rfl rfl rfl (Q0 rfl) rfl rfl rfl rfl rfl (by rw [oks7.2.2.1]; exact hk7) Q5R Q31 (Q3r (u:=gh150) 0 s7.2.2 rfl rfl rfl rfl rfl (by rw [oks7.2.2.1]; exact hk7) rfl rfl Q31 rfl (fun _ _ _=>rfl) (H':=[_,_,_]) rfl (Q3 (Qa (Q2 (Q1 (wP rfl (wP rfl (Qr (d:=128) (v':=.int .i64 ((s7.2.2 + 1:Nat):Int)) (S':=[_,_,_,_,_,_,_,_,_,_,_,_,_,_,_,_,_,_,_,_,_,_,_,_]) rfl rfl (Qw (a:=s7.2.2) (b:=1) (by omega)) ?_)))))))))))))))
      refine Qs (S':=[_,_,_,_,_,_,_,_,_,_,_,_,_,_,_,_,_,_,_,_,_,_,_,_]) rfl rfl rfl rfl rfl (Q3 ?_)
      refine Q16 (s7.1.set s7.2.2 gh150,(s7.2.1.set s7.2.2 ⟨r7.h,r7.l,r7.h,r7.l⟩).set s7.2.2 ⟨r7.h,r7.l,gh150,r7.l ++ s8.1⟩,s7.2.2 + 1) (by show hs.length - (s7.2.2 + 1) < _; omega) ⟨by show s7.2.2 + 1 ≤ _; omega,oks7.2.app hy7 hr7 _ _⟩ [11,76,9,46,6,5,19,3,2,0] rfl (asK [] rfl) rfl
    ·
     replace h126:=of_decide_eq_false h126
     refine QH (Q8 (Q8 (Qh (Q2 (Q4 (Q4 (Q1 (wP rfl (Q3 (Q2 (Qc (QI (σ:=Nat) (fun s=>s ≤ hs.length) (fun s=>hs.length - s) (fun s=>[(14,.int .i64 ((s:Nat):Int)),(126,.bool (decide (((s7.2.2:Nat):Int) < ((hs.length:Nat):Int)))),(11,.int .i64 ((s7.2.2:Nat):Int)),(76,.bool (decide (((s5:Nat):Int) < ((hs.length:Nat):Int)))),(9,.int .i64 ((s5:Nat):Int)),(46,.bool (decide (((s3.2.2:Nat):Int) < ((hs.length:Nat):Int)))),(6,.int .i64 ((s3.2.2:Nat):Int)),(5,.slice (some ⟨g42,0,none⟩) hs.length hs.length),(19,.bool (decide (((s1.2:Nat):Int) < ((hs.length:Nat):Int)))),(3,.int .i64 ((s1.2:Nat):Int)),(2,.bool false),(0,.slice p hs.length c)]) (fun s=>[]) (fun s=>[.own 24 1 QF (.slice (some ⟨g42,0,none⟩) hs.length hs.length) s7.1,.own 24 1 QF (.slice p hs.length c) hs,Qk 61 3 s7.2.1]) 0 (Nat.zero_le _) [14,126,11,76,9,46,6,5,19,3,2,0] rfl (asK [] rfl) rfl (fun s9 oks9=>(Q4 ?_))))))))))))))
     refine Q4 (Q1 (wP rfl (wP rfl (wN rfl Q5R (wP rfl (Q3 (Q2 (Q5 [155,14,126,11,76,9,46,6,5,19,3,2,0] (S':=[_,_,_,_,_,_,_,_,_,_,_,_,_]) rfl ?_))))))))
     refine Qm rfl (fun h155=>?_) (fun h155=>?_)
     ·
      replace h155:=of_decide_eq_true h155
      have hk9:s9 < hs.length:=by omega
      obtain ⟨y9,hy9⟩ : ∃ y,hs[s9]? = some y:=⟨_,List.getElem?_eq_getElem hk9⟩
      have hB9:y9.2.1 ≤ 1073741824:=hb _ (List.mem_of_getElem? hy9)
      obtain ⟨r9,hr9,hh9,hl9,hg9,t9,hm9⟩:=oks7.2.look (by omega) hy9
      refine Q6Y 2 rfl hr9 (fun hA9 hC9=>?_)
      rw [hl9,Q10] at hA9
      have hE9:=hC9
      rw [hm9,List.length_append,Q10] at hE9
      refine Qj (Q2 (Q4 (Qc (Q4 (Q1 (wP rfl (Q3 (Q2 (Qc (QI (σ:=Nat) (fun s=>s ≤ y9.2.1) (fun s=>y9.2.1 - s) (fun s=>[(15,.int .i64 ((s:Nat):Int)),(155,.bool (decide (((s9:Nat):Int) < ((hs.length:Nat):Int)))),(14,.int .i64 ((s9:Nat):Int)),(126,.bool (decide (((s7.2.2:Nat):Int) < ((hs.length:Nat):Int)))),(11,.int .i64 ((s7.2.2:Nat):Int)),(76,.bool (decide (((s5:Nat):Int) < ((hs.length:Nat):Int)))),(9,.int .i64 ((s5:Nat):Int)),(46,.bool (decide (((s3.2.2:Nat):Int) < ((hs.length:Nat):Int)))),(6,.int .i64 ((s3.2.2:Nat):Int)),(5,.slice (some ⟨g42,0,none⟩) hs.length hs.length),(19,.bool (decide (((s1.2:Nat):Int) < ((hs.length:Nat):Int)))),(3,.int .i64 ((s1.2:Nat):Int)),(2,.bool false),(0,.slice p hs.length c)]) (fun s=>[]) (fun s=>[.own 24 1 QF (.slice (some ⟨g42,0,none⟩) hs.length hs.length) s7.1,.own 24 1 QF (.slice p hs.length c) hs,Qk 61 3 s7.2.1]) 0 (Nat.zero_le _) [15,155,14,126,11,76,9,46,6,5,19,3,2,0] rfl (asK [] rfl) rfl (fun s10 oks10=>(Q4 (Q4 (Q1 ?_))))))))))))))
      refine wP rfl (wP rfl (wP rfl (Q1r 1 s9 rfl rfl rfl (Q0 rfl) rfl rfl rfl rfl rfl hk9 Q5R Q31 (fun g161 eg161=>?_))))
      subst eg161
      refine QU QW 1 s9 0 rfl rfl rfl (Q0 rfl) rfl rfl rfl hy9 Q31 Q4R (v:=fun _=>.slice y9.1 y9.2.1 y9.2.2) (fun _=>rfl) (fun _=>rfl) (fun _ _=>(wN rfl Q1s (wP rfl (Q3 (Q2 (Q5 [164,15,155,14,126,11,76,9,46,6,5,19,3,2,0] (S':=[_,_,_,_,_,_,_,_,_,_,_,_,_,_,_]) rfl ?_))))))
      refine Qm rfl (fun h164=>?_) (fun h164=>?_)
      ·
       replace h164:=of_decide_eq_true h164
       refine Qj (Q2 (Q4 (Qc (Q4 (Q1l [0,1,2,3,4,5,6,7,8,11,12,13,14,15,16,17,18,19,20,21,24,25] rfl rfl (fun hok=>(xP hok 0 rfl (xP hok 1 rfl (Q1d hok 2 1 s9 rfl rfl rfl (Q0 rfl) rfl rfl rfl rfl rfl rfl hk9 Q5R Q31 (QV hok 3 QW 1 s9 0 rfl rfl rfl (Q0 rfl) rfl rfl rfl rfl hy9 Q31 Q4R (v:=.slice y9.1 y9.2.1 y9.2.2) rfl rfl (fun _=>(xP hok 4 rfl (Q51 hok 5 (p:=y9.1) (m:=y9.2.1) (cp:=y9.2.2) 2 s9 s10 rfl rfl rfl (Q0 rfl) rfl rfl rfl hr9 hh9 rfl rfl rfl (by omega) (by rw [hl9,Q10]) Q1s Q1G (fun g172 eg172=>(Q5X hok 6 2 s9 s10 rfl rfl rfl (Q0 rfl) rfl rfl rfl hr9 (Q75 hh9 eg172) rfl (cs:=Q2S s9 s10) (by rw [hl9]; exact Q56 (by omega)) Q1G Q59 rfl (v:=.agg #[.int .i64 (Q3H ((s9:Nat):Int) ((s10:Nat):Int)),.int .i64 0,.slice none 0 0]) rfl (xP hok 7 rfl ?_))))))))))))))))
       refine xP hok 8 rfl (xS hok 9 rfl (wC [] [0,1,2] rfl fn_96 rfl (Q5z ((s9:Nat):Int) ((s10:Nat):Int)) (asK [] rfl) rfl (H':=[_,_,_]) rfl ?_))
       rintro _ _ _ ⟨rfl,rfl,rfl⟩
       refine Q3 (QT [] [2,1] rfl rfl (xS hok 10 rfl (wC [] [0,1,2] rfl Q8e rfl (Q4c 2 (Q3H ((s9:Nat):Int) ((s10:Nat):Int)) 0 (Q3H ((s9:Nat):Int) ((s10:Nat):Int)) 0 _ (Q7F _)) (asK [] rfl) rfl (H':=[_,_,_]) rfl ?_)))
       rintro _ _ _ ⟨rfl,rfl,rfl⟩
       refine Q3 (QT [] [1] rfl rfl (xP hok 11 rfl (xP hok 12 rfl (xP hok 13 rfl (xP hok 14 rfl (Q1d hok 15 0 s9 rfl rfl rfl (Q0 rfl) rfl rfl rfl rfl rfl rfl (by rw [oks7.2.2.1]; exact hk9) Q5R Q31 (QV hok 16 QW 0 s9 0 rfl rfl rfl (Q0 rfl) rfl rfl rfl rfl hg9 Q31 Q4R (v:=.slice r9.g.1 r9.g.2.1 r9.g.2.2) rfl rfl (fun _=>(xP hok 17 rfl (Q6z hok 18 (p:=r9.g.1) (m:=r9.g.2.1) (cp:=r9.g.2.2) 2 s9 s10 rfl rfl rfl (Q0 rfl) rfl rfl rfl hr9 rfl rfl rfl rfl (by omega) hC9.symm Q1s Q1G (fun g185 eg185=>(Q5Y hok 19 2 s9 s10 rfl rfl rfl (Q0 rfl) rfl rfl rfl hr9 (Q7C eg185) rfl (cs:=Q2S s9 s10) (by rw [hm9]; exact app_at (by omega)) Q1G Q59 rfl (v:=.agg #[.int .i64 (Q3H ((s9:Nat):Int) ((s10:Nat):Int)),.int .i64 0,.slice none 0 0]) rfl (xP hok 20 rfl (xP hok 21 rfl (xS hok 22 rfl ?_)))))))))))))))
       refine wC [] [0,1,2] rfl fn_96 rfl (Q5z ((s9:Nat):Int) ((s10:Nat):Int)) (asK [] rfl) rfl (H':=[_,_,_]) rfl ?_
       rintro _ _ _ ⟨rfl,rfl,rfl⟩
       refine Q3 (QT [] [2,0,2,1] rfl rfl (xS hok 23 rfl (wC [] [0,1,2] rfl Q8e rfl (Q4c 2 (Q3H ((s9:Nat):Int) ((s10:Nat):Int)) 0 (Q3H ((s9:Nat):Int) ((s10:Nat):Int)) 0 _ (Q7F _)) (asK [] rfl) rfl (H':=[_,_,_]) rfl ?_)))
       rintro _ _ _ ⟨rfl,rfl,rfl⟩
       refine Q3 (QT [] [0,2,1] rfl rfl (xP hok 24 rfl (xP hok 25 rfl (Q19 hok rfl (Q2 (Q5 [192,164,15,155,14,126,11,76,9,46,6,5,19,3,2,0] (S':=[_,_,_,_,_,_,_,_,_,_,_,_,_,_,_,_]) rfl (Q58 rfl (Qj (Qa (Q2 (Q1 (wP rfl (wP rfl ?_)))))))))))))
       refine Qr (d:=166) (v':=.int .i64 ((s10 + 1:Nat):Int)) (S':=[_,_,_,_,_,_,_,_,_,_,_,_,_,_,_,_,_]) rfl rfl (Qw (a:=s10) (b:=1) (by omega)) (Qs (S':=[_,_,_,_,_,_,_,_,_,_,_,_,_,_,_,_,_]) rfl rfl rfl rfl rfl (Q3 ?_))
       refine Q16 (s10 + 1) (by omega) (by omega) [15,155,14,126,11,76,9,46,6,5,19,3,2,0] rfl (asK [] rfl) rfl
      ·
       replace h164:=of_decide_eq_false h164
       refine QH (Q8 (Q8 (Qh (Qa (Q2 (Q1 (wP rfl (wP rfl (Qr (d:=157) (v':=.int .i64 ((s9 + 1:Nat):Int)) (S':=[_,_,_,_,_,_,_,_,_,_,_,_,_,_,_,_]) rfl rfl (Qw (a:=s9) (b:=1) (by omega)) (Qs (S':=[_,_,_,_,_,_,_,_,_,_,_,_,_,_,_,_]) rfl rfl rfl rfl rfl (Q3 ?_)))))))))))
       refine Q16 (s9 + 1) (by omega) (by omega) [14,126,11,76,9,46,6,5,19,3,2,0] rfl (asK [] rfl) rfl
     ·
      replace h155:=of_decide_eq_false h155
      refine QH (Q8 (Q8 (Qh (Q2 (Q4 (Q1 (Qs (S':=[_,_,_,_,_,_,_,_,_,_,_,_]) rfl rfl rfl rfl rfl (Q3 (Q2 (Qn (Qp (Hr:=[Qk 61 3 s7.2.1]) [2] Tryz.results70 (Qd rfl) ?_ (asK [] rfl) rfl rfl (.inl rfl))))))))))))
      exact ⟨_,oks7.2.left,rfl,rfl,rfl⟩
theorem Q7z (N:Nat) (a0:Int) (a1:Int)  (hm:Q6x N a0 a1 = some ()):Q1v Tryz.prog 125 [.int .i64 a0,.int .i64 a1] [] [] (fun v Φr Hr=>v = .agg #[.int .i64 0,.int .i64 (IntKind.wrap .i64 ((IntKind.wrap .i64 (1000003 * (IntKind.wrap .i64 (a0 + 7)))) + a1)),.slice none 0 0,.slice none 0 0] ∧ Φr = [] ∧ Hr = []):=by
 unfold Q6x at hm
 refine Qx Tryz.func125 rfl Tryz.ntmps125 rfl (S:=[_,_]) rfl (fun C=>(Q4 (Q1 (Q2a rfl rfl rfl (Q0 rfl) rfl Q5Q rfl (fun g4=>(Q3 (Q2 (Q4 (Q1 (wP rfl (wP rfl ?_)))))))))))
 obtain ⟨_,hc7,hm⟩:=Q6 hm
 try dsimp only at hm
 refine wC [] [0] rfl fn_48 rfl (Q5a N a0 a1 hc7) (asK [] rfl) rfl (H':=[_]) rfl ?_
 rintro _ _ _ ⟨rfl,rfl,rfl⟩
 refine Q2t rfl rfl rfl (Q0 rfl) rfl Q5Q tP_27 rfl (out:=[_,_,_,_]) rfl (wS 0 0 rfl Q11 (all':=[_,_,_,_]) rfl (H':=[_]) rfl (Q3 (Q2 (Q5 [4] (S':=[_]) rfl (Qn ?_)))))
 have hE:=(Option.some.inj hm).symm
 refine Qp (Hr:=[]) [] Tryz.results125 (Q3y 0 rfl rfl Q11 Q1W rfl rfl) ⟨rfl,rfl,rfl⟩ (asK [] rfl) rfl rfl (.inl rfl)
end Go.Proofs.YtjfpefddanmliaaGreat
