import Derived.Test.YtjfpefddanmliaaGreatXW2
namespace Go.Proofs.YtjfpefddanmliaaGreat
open Go.RowKit
set_option maxRecDepth 100000
set_option maxHeartbeats 4000000
theorem Q7i (N:Nat) (qp0:Option Addr) (qc1:Nat) (l0:List FactDS) (k1:Nat) (qp2:Option Addr) (qc3:Nat) (l2:List FactD) (o0:Bool) (hm:Q3D N l0 k1 l2 = some o0):Q1v Tryz.prog 55 [.slice qp0 k1 qc1,.slice qp2 l2.length qc3] [.sli 3 Q5G qp0 qc1 l0,.sli 3 QO qp2 qc3 l2] [] (fun v Φr Hr=>v = .bool o0 ∧ Φr = [] ∧ Hr = []):=by
 unfold Q3D at hm
 refine Qx Tryz.func55 rfl Tryz.ntmps55 rfl (S:=[_,_]) rfl (fun C=>(Q4 (Q1 (wP rfl (Q3 (Q2 (Q5 [0,1] (S':=[_,_]) rfl (Q4 (Q4 (Q1 (wP rfl (wN rfl Q1s (wP rfl (wN rfl Q1s ?_))))))))))))))
 refine wP rfl (Qr (d:=11) (v':=.bool (k1 != l2.length)) (S':=[_,_,_,_,_,_]) rfl rfl (natne (a:=k1) (b:=l2.length)) (Q3 (Q2 (Q5 [11,0,1] (S':=[_,_,_]) rfl ?_))))
 refine Qm rfl (fun hb11=>?_) (fun hb11=>?_)
 ·
  replace hm:=QQ hm hb11
  refine Q5 [] (S':=[]) rfl (Q4 (Q1 (wP rfl (Q3 (Q2 (Qn (Qb ?_)))))))
  have hE:=(Option.some.inj hm).symm
  replace hE:=hE.symm
  subst hE
  refine Qp (Hr:=[]) [] Tryz.results55 (Qd rfl) ⟨rfl,rfl,rfl⟩ (asK [] rfl) rfl rfl (.inl rfl)
 ·
  replace hm:=QP hm hb11
  refine Q5 [0,1] (S':=[_,_]) rfl (Qj (Q2 (Q4 (Q1 (wP rfl (wP rfl (wN rfl Q1s (wP rfl ?_))))))))
  obtain ⟨hg15,hm⟩:=Qq hm
  refine Qr (d:=15) (v':=.int .i64 ((l2.length + 12:Nat):Int)) (S':=[_,_,_,_,_]) rfl rfl (Qw (a:=l2.length) (b:=12) hg15) ?_
  obtain ⟨hg16,hm⟩:=Qq hm
  refine wl_sliToF 0 rfl rfl rfl (Q0 rfl) rfl rfl rfl rfl rfl Q1s Q1G hg16 (fun p16=>(wP rfl (Q3 (Q2 (Q5 [5,1] (S':=[_,_]) rfl (Q4 ?_))))))
  obtain ⟨bj_1,hm,hLj_1⟩:=Q2F hm
  refine Q14 (σ:=Unit) (fun _=>bj_1 = .inl ()) (fun _=>[]) (fun _=>[]) (fun _=>[]) ?_ ?_
  ·
   refine Q4 (Q1 (wP rfl (Q3 (Q2 (Qc (QI (σ:=Nat × Nat) (fun (nu1,u1_6)=>Q2s (Q2W N l0 l2) nu1 u1_6 = some bj_1) (fun (nu1,u1_6)=>nu1) (fun (nu1,u1_6)=>[(6,.int .i64 ((u1_6:Nat):Int)),(5,.slice p16 ((l0.take (l2.length + 12)).length) qc1),(1,.slice qp2 l2.length qc3)]) (fun (nu1,u1_6)=>[.sli 3 Q5G p16 qc1 (l0.take (l2.length + 12)),.sli 3 QO qp2 qc3 l2]) (fun (nu1,u1_6)=>[]) (N,0) hm [6,5,1] rfl (asK [0,2] rfl) rfl (fun s_ hm=>?_)))))))
   obtain ⟨nu1,u1_6⟩:=s_
   try dsimp only at hm ⊢
   obtain ⟨mu1,bu1,hnu1,hq,hLu1⟩:=Q1m hm
   clear hm
   subst hnu1
   replace hm:=hq
   clear hq
   unfold Q2W at hm
   try dsimp only at hm
   refine Q4 (Q4 (Q1 (wP rfl (wP rfl (wN rfl Q1s (wP rfl (Qr (d:=20) (v':=.bool (decide (u1_6 < ((l0.take (l2.length + 12)).length)))) (S':=[_,_,_,_,_,_]) rfl rfl (Q3a (a:=u1_6) (b:=(l0.take (l2.length + 12)).length)) (Q3 (Q2 (Q5 [20,6,5,1] (S':=[_,_,_,_]) rfl ?_))))))))))
   refine Qm rfl (fun hb20=>?_) (fun hb20=>?_)
   ·
    replace hm:=QQ hm hb20
    refine Q5 [6,5,1] (S':=[_,_,_]) rfl (Qj (Q2 (Q4 (Qc (Q4 ?_)))))
    obtain ⟨bj_2,hm,hLj_2⟩:=Q6 hm
    unfold Q4D at hm
    refine Q14 (σ:=Bool) (fun j_2_57=>bj_2 = j_2_57) (fun j_2_57=>[(6,.int .i64 ((u1_6:Nat):Int)),(5,.slice p16 ((l0.take (l2.length + 12)).length) qc1),(1,.slice qp2 l2.length qc3),(57,.bool j_2_57)]) (fun j_2_57=>[.sli 3 Q5G p16 qc1 (l0.take (l2.length + 12)),.sli 3 QO qp2 qc3 l2]) (fun j_2_57=>[]) ?_ ?_
    ·
     rcases Q4v hm with ⟨hs27,hm⟩ | ⟨hs27,hm⟩
     ·
      obtain ⟨x30,hx30,hm⟩:=Q6 hm
      obtain ⟨x34,hx34,hm⟩:=Q6 hm
      obtain ⟨v36,hc36,hm⟩:=Q6 hm
      rcases Q4v hm with ⟨hs39,hm⟩ | ⟨hs39,hm⟩
      ·
       refine Q1l [0,1,2,3,4,5,6,7,8,9,10,11,12,14,15,16,17,18,19,20,21,22,23,24,25,26,27,28,29,32,33,34] rfl rfl (fun hok=>(xP hok 0 rfl (xP hok 1 rfl (Q3e hok 2 rfl rfl rfl (Q0 rfl) rfl rfl rfl Q1s (xP hok 3 rfl (Q1h (d:=26) (v':=.bool (decide (u1_6 < l2.length))) (S':=[_,_,_,_,_,_]) rfl rfl (Q3a (a:=u1_6) (b:=l2.length)) (xP hok 4 rfl (Q1h (d:=27) (v':=.bool true) (S':=[_,_,_,_,_,_,_]) rfl rfl (Q1p hs27) (xP hok 5 rfl (xP hok 6 rfl (Q1y hok 7 0 u1_6 rfl rfl rfl (Q0 rfl) rfl rfl rfl rfl rfl rfl hx30 Q1s Q1G (fun b30 q30 cs30 hlx30=>(Q1K Q5w 1 rfl (fun r30 er30 _=>?_))))))))))))))
       subst er30
       refine Q2m hok 8 1 0 rfl rfl rfl (Q0 rfl) rfl rfl rfl rfl (cs:=[_,_,_]) rfl Q1G Q59 rfl rfl (xP hok 9 rfl (xP hok 10 rfl (Q1y hok 11 4 u1_6 rfl rfl rfl (Q0 rfl) rfl rfl rfl rfl rfl rfl hx34 Q1s Q1G (fun b34 q34 cs34 hlx34=>(Q1K Q4u 1 rfl (fun r34 er34 _=>?_))))))
       subst er34
       refine Q2m hok 12 1 0 rfl rfl rfl (Q0 rfl) rfl rfl rfl rfl (cs:=[_,_,_]) rfl Q1G Q59 rfl rfl (xS hok 13 rfl (wC [] [] rfl fn_100 rfl (Q4U N x30.id x30.ty r30.1 r30.2 (x30.args ++ x30.argsT) x30.args.length x34.id x34.ty r34.1 r34.2 x34.args _ hc36) (asK [3,0] rfl) rfl (H':=[]) rfl ?_))
       rintro _ _ _ ⟨rfl,rfl,rfl⟩
       refine Q3 (QT [0,1,2,3,4,5,6,7] [] rfl rfl (xP hok 14 rfl (xP hok 15 rfl (xP hok 16 rfl (Q1h (d:=39) (v':=.bool true) (S':=[_,_,_,_,_,_,_,_,_,_,_,_,_,_,_,_,_,_,_]) rfl rfl (Q1p hs39) (xO hok 17 rfl (xO hok 18 rfl (xO hok 19 rfl (xO hok 20 rfl (xO hok 21 rfl (xO hok 22 rfl (xO hok 23 rfl (xO hok 24 rfl ?_)))))))))))))
       refine xO hok 25 rfl (xO hok 26 rfl (xO hok 27 rfl (xO hok 28 rfl (xO hok 29 rfl (xS hok 30 rfl (wO rfl (Q3 (QT [0,1,2,3,4,5,6,7] [] rfl rfl (xS hok 31 rfl (wO rfl (Q3 (QT [0,1,2,3,4,5,6,7] [] rfl rfl (xO hok 32 rfl ?_)))))))))))))
       refine xO hok 33 rfl (xP hok 34 rfl (Q19 hok rfl ?_))
       have hE:=(Option.some.inj hm).symm
       refine Ql true hE [6,5,1,57] rfl (asK [6,7] rfl) rfl
      ·
       rcases Q4v hm with ⟨hs44,hm⟩ | ⟨hs44,hm⟩
       ·
        obtain ⟨x47,hx47,hm⟩:=Q6 hm
        obtain ⟨hg52,hm⟩:=Qq hm
        obtain ⟨_,hc53,hm⟩:=Q6 hm
        try dsimp only at hm
        obtain ⟨v54,hc54,hm⟩:=Q6 hm
        refine Q1l [0,1,2,3,4,5,6,7,8,9,10,11,12,14,15,16,17,18,19,20,21,22,23,24,25,26,27,28,29,32,33,34] rfl rfl (fun hok=>(xP hok 0 rfl (xP hok 1 rfl (Q3e hok 2 rfl rfl rfl (Q0 rfl) rfl rfl rfl Q1s (xP hok 3 rfl (Q1h (d:=26) (v':=.bool (decide (u1_6 < l2.length))) (S':=[_,_,_,_,_,_]) rfl rfl (Q3a (a:=u1_6) (b:=l2.length)) (xP hok 4 rfl (Q1h (d:=27) (v':=.bool true) (S':=[_,_,_,_,_,_,_]) rfl rfl (Q1p hs27) (xP hok 5 rfl (xP hok 6 rfl (Q1y hok 7 0 u1_6 rfl rfl rfl (Q0 rfl) rfl rfl rfl rfl rfl rfl hx30 Q1s Q1G (fun b30 q30 cs30 hlx30=>(Q1K Q5w 1 rfl (fun r30 er30 _=>?_))))))))))))))
        subst er30
        refine Q2m hok 8 1 0 rfl rfl rfl (Q0 rfl) rfl rfl rfl rfl (cs:=[_,_,_]) rfl Q1G Q59 rfl rfl (xP hok 9 rfl (xP hok 10 rfl (Q1y hok 11 4 u1_6 rfl rfl rfl (Q0 rfl) rfl rfl rfl rfl rfl rfl hx34 Q1s Q1G (fun b34 q34 cs34 hlx34=>(Q1K Q4u 1 rfl (fun r34 er34 _=>?_))))))
        subst er34
        refine Q2m hok 12 1 0 rfl rfl rfl (Q0 rfl) rfl rfl rfl rfl (cs:=[_,_,_]) rfl Q1G Q59 rfl rfl (xS hok 13 rfl (wC [] [] rfl fn_100 rfl (Q4U N x30.id x30.ty r30.1 r30.2 (x30.args ++ x30.argsT) x30.args.length x34.id x34.ty r34.1 r34.2 x34.args _ hc36) (asK [3,0] rfl) rfl (H':=[]) rfl ?_))
        rintro _ _ _ ⟨rfl,rfl,rfl⟩
        refine Q3 (QT [0,1,2,3,4,5,6,7] [] rfl rfl (xP hok 14 rfl (xP hok 15 rfl (xP hok 16 rfl (Q1h (d:=39) (v':=.bool false) (S':=[_,_,_,_,_,_,_,_,_,_,_,_,_,_,_,_,_,_,_]) rfl rfl (Q1p hs39) (xP hok 17 rfl (xP hok 18 rfl (Q3e hok 19 rfl rfl rfl (Q0 rfl) rfl rfl rfl Q1s (xP hok 20 rfl (Q1h (d:=43) (v':=.bool (decide (l2.length ≤ u1_6))) (S':=[_,_,_,_,_,_,_,_,_,_,_,_,_,_,_,_,_,_,_,_,_,_,_]) rfl rfl (Q7r (a:=u1_6) (b:=l2.length)) (xP hok 21 rfl (Q1h (d:=44) (v':=.bool true) (S':=[_,_,_,_,_,_,_,_,_,_,_,_,_,_,_,_,_,_,_,_,_,_,_,_]) rfl rfl (Q1p hs44) (xP hok 22 rfl ?_)))))))))))))
        refine xP hok 23 rfl (Q1y hok 24 6 u1_6 rfl rfl rfl (Q0 rfl) rfl rfl rfl rfl rfl rfl hx47 Q1s Q1G (fun b47 q47 cs47 hlx47=>(Q1K Q5w 1 rfl (fun r47 er47 _=>?_))))
        subst er47
        refine Q2m hok 25 1 0 rfl rfl rfl (Q0 rfl) rfl rfl rfl rfl (cs:=[_,_,_]) rfl Q1G Q59 rfl rfl (xP hok 26 rfl (xP hok 27 rfl (Q3e hok 28 rfl rfl rfl (Q0 rfl) rfl rfl rfl Q1s (xP hok 29 rfl (Q1h (d:=52) (v':=.int .i64 (((u1_6:Nat):Int) - ((l2.length:Nat):Int))) (S':=[_,_,_,_,_,_,_,_,_,_,_,_,_,_,_,_,_,_,_,_,_,_,_,_,_,_,_,_,_,_,_,_]) rfl rfl (i64_in hg52) (xS hok 30 rfl (wC [] [] rfl fn_96 rfl (Q3O N 1 (((u1_6:Nat):Int) - ((l2.length:Nat):Int)) hc53) (asK [] rfl) rfl (H':=[]) rfl ?_)))))))
        rintro _ _ _ ⟨rfl,rfl,rfl⟩
        refine Q3 (QT [0,1,2,3,4,5,6,7,8,9,10] [] rfl rfl (xS hok 31 rfl (Q2l (.sli 3 R_V none 0 ([] : List V)) (fun _ _ _=>Q2B) (wC [] [] rfl Q8e rfl (Q45 N x47.id x47.ty r47.1 r47.2 (x47.args ++ x47.argsT) x47.args.length (IntKind.wrap .i64 ((IntKind.wrap .i64 (1000003 * (IntKind.wrap .i64 (1 + 7)))) + (((u1_6:Nat):Int) - ((l2.length:Nat):Int)))) 0 none 0 ([] : List V) _ hc54) (asK [1,0] rfl) rfl (H':=[]) rfl ?_))))
        rintro _ _ _ ⟨rfl,rfl,rfl⟩
        refine Q3 (QT [1,2,3,4,5,6,7,8,9,10,11] [] rfl rfl (xP hok 32 rfl (xP hok 33 rfl (xP hok 34 rfl (Q19 hok rfl ?_)))))
        have hE:=(Option.some.inj hm).symm
        refine Ql (!v54) hE [6,5,1,57] rfl (asK [10,11] rfl) rfl
       ·
        refine Q1l [0,1,2,3,4,5,6,7,8,9,10,11,12,14,15,16,17,18,19,20,21,22,23,24,25,26,27,28,29,32,33,34] rfl rfl (fun hok=>(xP hok 0 rfl (xP hok 1 rfl (Q3e hok 2 rfl rfl rfl (Q0 rfl) rfl rfl rfl Q1s (xP hok 3 rfl (Q1h (d:=26) (v':=.bool (decide (u1_6 < l2.length))) (S':=[_,_,_,_,_,_]) rfl rfl (Q3a (a:=u1_6) (b:=l2.length)) (xP hok 4 rfl (Q1h (d:=27) (v':=.bool true) (S':=[_,_,_,_,_,_,_]) rfl rfl (Q1p hs27) (xP hok 5 rfl (xP hok 6 rfl (Q1y hok 7 0 u1_6 rfl rfl rfl (Q0 rfl) rfl rfl rfl rfl rfl rfl hx30 Q1s Q1G (fun b30 q30 cs30 hlx30=>(Q1K Q5w 1 rfl (fun r30 er30 _=>?_))))))))))))))
        subst er30
        refine Q2m hok 8 1 0 rfl rfl rfl (Q0 rfl) rfl rfl rfl rfl (cs:=[_,_,_]) rfl Q1G Q59 rfl rfl (xP hok 9 rfl (xP hok 10 rfl (Q1y hok 11 4 u1_6 rfl rfl rfl (Q0 rfl) rfl rfl rfl rfl rfl rfl hx34 Q1s Q1G (fun b34 q34 cs34 hlx34=>(Q1K Q4u 1 rfl (fun r34 er34 _=>?_))))))
        subst er34
        refine Q2m hok 12 1 0 rfl rfl rfl (Q0 rfl) rfl rfl rfl rfl (cs:=[_,_,_]) rfl Q1G Q59 rfl rfl (xS hok 13 rfl (wC [] [] rfl fn_100 rfl (Q4U N x30.id x30.ty r30.1 r30.2 (x30.args ++ x30.argsT) x30.args.length x34.id x34.ty r34.1 r34.2 x34.args _ hc36) (asK [3,0] rfl) rfl (H':=[]) rfl ?_))
        rintro _ _ _ ⟨rfl,rfl,rfl⟩
        refine Q3 (QT [0,1,2,3,4,5,6,7] [] rfl rfl (xP hok 14 rfl (xP hok 15 rfl (xP hok 16 rfl (Q1h (d:=39) (v':=.bool false) (S':=[_,_,_,_,_,_,_,_,_,_,_,_,_,_,_,_,_,_,_]) rfl rfl (Q1p hs39) (xP hok 17 rfl (xP hok 18 rfl (Q3e hok 19 rfl rfl rfl (Q0 rfl) rfl rfl rfl Q1s (xP hok 20 rfl (Q1h (d:=43) (v':=.bool (decide (l2.length ≤ u1_6))) (S':=[_,_,_,_,_,_,_,_,_,_,_,_,_,_,_,_,_,_,_,_,_,_,_]) rfl rfl (Q7r (a:=u1_6) (b:=l2.length)) (xP hok 21 rfl (Q1h (d:=44) (v':=.bool false) (S':=[_,_,_,_,_,_,_,_,_,_,_,_,_,_,_,_,_,_,_,_,_,_,_,_]) rfl rfl (Q1p hs44) (xO hok 22 rfl ?_)))))))))))))
        refine xO hok 23 rfl (xO hok 24 rfl (xO hok 25 rfl (xO hok 26 rfl (xO hok 27 rfl (xO hok 28 rfl (xO hok 29 rfl (xS hok 30 rfl (wO rfl (Q3 (QT [0,1,2,3,4,5,6,7] [] rfl rfl (xS hok 31 rfl (wO rfl (Q3 ?_)))))))))))))
        refine QT [0,1,2,3,4,5,6,7] [] rfl rfl (xO hok 32 rfl (xP hok 33 rfl (xP hok 34 rfl (Q19 hok rfl ?_))))
        have hE:=(Option.some.inj hm).symm
        refine Ql false hE [6,5,1,57] rfl (asK [6,7] rfl) rfl
     ·
      rcases Q4v hm with ⟨hs44,hm⟩ | ⟨hs44,hm⟩
      ·
       obtain ⟨x47,hx47,hm⟩:=Q6 hm
       obtain ⟨hg52,hm⟩:=Qq hm
       obtain ⟨_,hc53,hm⟩:=Q6 hm
       try dsimp only at hm
       obtain ⟨v54,hc54,hm⟩:=Q6 hm
       refine Q1l [0,1,2,3,4,5,6,7,8,9,10,11,12,14,15,16,17,18,19,20,21,22,23,24,25,26,27,28,29,32,33,34] rfl rfl (fun hok=>(xP hok 0 rfl (xP hok 1 rfl (Q3e hok 2 rfl rfl rfl (Q0 rfl) rfl rfl rfl Q1s (xP hok 3 rfl (Q1h (d:=26) (v':=.bool (decide (u1_6 < l2.length))) (S':=[_,_,_,_,_,_]) rfl rfl (Q3a (a:=u1_6) (b:=l2.length)) (xP hok 4 rfl (Q1h (d:=27) (v':=.bool false) (S':=[_,_,_,_,_,_,_]) rfl rfl (Q1p hs27) (xO hok 5 rfl (xO hok 6 rfl (xO hok 7 rfl (xO hok 8 rfl (xO hok 9 rfl (xO hok 10 rfl ?_))))))))))))))
       refine xO hok 11 rfl (xO hok 12 rfl (xS hok 13 rfl (wO rfl (Q3 (QT [0,1] [] rfl rfl (xO hok 14 rfl (xP hok 15 rfl (xP hok 16 rfl (xP hok 17 rfl (xP hok 18 rfl (Q3e hok 19 rfl rfl rfl (Q0 rfl) rfl rfl rfl Q1s (xP hok 20 rfl (Q1h (d:=43) (v':=.bool (decide (l2.length ≤ u1_6))) (S':=[_,_,_,_,_,_,_,_,_,_,_,_,_,_,_,_,_,_,_,_,_,_,_]) rfl rfl (Q7r (a:=u1_6) (b:=l2.length)) ?_)))))))))))))
       refine xP hok 21 rfl (Q1h (d:=44) (v':=.bool true) (S':=[_,_,_,_,_,_,_,_,_,_,_,_,_,_,_,_,_,_,_,_,_,_,_,_]) rfl rfl (Q1p hs44) (xP hok 22 rfl (xP hok 23 rfl (Q1y hok 24 0 u1_6 rfl rfl rfl (Q0 rfl) rfl rfl rfl rfl rfl rfl hx47 Q1s Q1G (fun b47 q47 cs47 hlx47=>(Q1K Q5w 1 rfl (fun r47 er47 _=>?_)))))))
       subst er47
       refine Q2m hok 25 1 0 rfl rfl rfl (Q0 rfl) rfl rfl rfl rfl (cs:=[_,_,_]) rfl Q1G Q59 rfl rfl (xP hok 26 rfl (xP hok 27 rfl (Q3e hok 28 rfl rfl rfl (Q0 rfl) rfl rfl rfl Q1s (xP hok 29 rfl (Q1h (d:=52) (v':=.int .i64 (((u1_6:Nat):Int) - ((l2.length:Nat):Int))) (S':=[_,_,_,_,_,_,_,_,_,_,_,_,_,_,_,_,_,_,_,_,_,_,_,_,_,_,_,_,_,_,_,_]) rfl rfl (i64_in hg52) (xS hok 30 rfl (wC [] [] rfl fn_96 rfl (Q3O N 1 (((u1_6:Nat):Int) - ((l2.length:Nat):Int)) hc53) (asK [] rfl) rfl (H':=[]) rfl ?_)))))))
       rintro _ _ _ ⟨rfl,rfl,rfl⟩
       refine Q3 (QT [0,1,2,3,4] [] rfl rfl (xS hok 31 rfl (Q2l (.sli 3 R_V none 0 ([] : List V)) (fun _ _ _=>Q2B) (wC [] [] rfl Q8e rfl (Q45 N x47.id x47.ty r47.1 r47.2 (x47.args ++ x47.argsT) x47.args.length (IntKind.wrap .i64 ((IntKind.wrap .i64 (1000003 * (IntKind.wrap .i64 (1 + 7)))) + (((u1_6:Nat):Int) - ((l2.length:Nat):Int)))) 0 none 0 ([] : List V) _ hc54) (asK [1,0] rfl) rfl (H':=[]) rfl ?_))))
       rintro _ _ _ ⟨rfl,rfl,rfl⟩
       refine Q3 (QT [1,2,3,4,5] [] rfl rfl (xP hok 32 rfl (xP hok 33 rfl (xP hok 34 rfl (Q19 hok rfl ?_)))))
       have hE:=(Option.some.inj hm).symm
       refine Ql (!v54) hE [6,5,1,57] rfl (asK [4,5] rfl) rfl
      ·
       refine Q1l [0,1,2,3,4,5,6,7,8,9,10,11,12,14,15,16,17,18,19,20,21,22,23,24,25,26,27,28,29,32,33,34] rfl rfl (fun hok=>(xP hok 0 rfl (xP hok 1 rfl (Q3e hok 2 rfl rfl rfl (Q0 rfl) rfl rfl rfl Q1s (xP hok 3 rfl (Q1h (d:=26) (v':=.bool (decide (u1_6 < l2.length))) (S':=[_,_,_,_,_,_]) rfl rfl (Q3a (a:=u1_6) (b:=l2.length)) (xP hok 4 rfl (Q1h (d:=27) (v':=.bool false) (S':=[_,_,_,_,_,_,_]) rfl rfl (Q1p hs27) (xO hok 5 rfl (xO hok 6 rfl (xO hok 7 rfl (xO hok 8 rfl (xO hok 9 rfl (xO hok 10 rfl ?_))))))))))))))
       refine xO hok 11 rfl (xO hok 12 rfl (xS hok 13 rfl (wO rfl (Q3 (QT [0,1] [] rfl rfl (xO hok 14 rfl (xP hok 15 rfl (xP hok 16 rfl (xP hok 17 rfl (xP hok 18 rfl (Q3e hok 19 rfl rfl rfl (Q0 rfl) rfl rfl rfl Q1s (xP hok 20 rfl (Q1h (d:=43) (v':=.bool (decide (l2.length ≤ u1_6))) (S':=[_,_,_,_,_,_,_,_,_,_,_,_,_,_,_,_,_,_,_,_,_,_,_]) rfl rfl (Q7r (a:=u1_6) (b:=l2.length)) ?_)))))))))))))
       refine xP hok 21 rfl (Q1h (d:=44) (v':=.bool false) (S':=[_,_,_,_,_,_,_,_,_,_,_,_,_,_,_,_,_,_,_,_,_,_,_,_]) rfl rfl (Q1p hs44) (xO hok 22 rfl (xO hok 23 rfl (xO hok 24 rfl (xO hok 25 rfl (xO hok 26 rfl (xO hok 27 rfl (xO hok 28 rfl (xO hok 29 rfl (xS hok 30 rfl (wO rfl (Q3 (QT [0,1] [] rfl rfl ?_)))))))))))))
       refine xS hok 31 rfl (wO rfl (Q3 (QT [0,1] [] rfl rfl (xO hok 32 rfl (xP hok 33 rfl (xP hok 34 rfl (Q19 hok rfl ?_)))))))
       have hE:=(Option.some.inj hm).symm
       refine Ql false hE [6,5,1,57] rfl (asK [0,1] rfl) rfl
    ·
     rintro j_2_57 hE
     try dsimp only
     have hm:=hLj_2
     rw [hE] at hm
     refine Qm rfl (fun hb57=>?_) (fun hb57=>?_)
     ·
      replace hm:=QQ hm hb57
      refine Q5 [] (S':=[]) rfl (Q4 (Q1 (wP rfl (Q3 (Q2 (Qn (Qu (Qb (Qb (Qu (Qb ?_)))))))))))
      have hE:=(Option.some.inj hm).symm
      replace hE:=Qy hLu1 hE
      replace hE:=Qy hLj_1 hE
      replace hE:=hE.symm
      subst hE
      refine Qp (Hr:=[]) [] Tryz.results55 (Qd rfl) ⟨rfl,rfl,rfl⟩ (asK [] rfl) rfl rfl (.inl rfl)
     ·
      replace hm:=QP hm hb57
      refine Q5 [6,5,1] (S':=[_,_,_]) rfl (Qj (Qa (Q2 (Q1 (wP rfl (wP rfl ?_))))))
      obtain ⟨hg22,hm⟩:=Qq hm
      refine Qr (d:=22) (v':=.int .i64 ((u1_6 + 1:Nat):Int)) (S':=[_,_,_,_]) rfl rfl (Qw (a:=u1_6) (b:=1) hg22) (Qs (S':=[_,_,_,_]) rfl rfl rfl rfl rfl (Q3 ?_))
      have hE:=(Option.some.inj hm).symm
      replace hE:=QZ hLu1 hE
      refine Q1n (_,u1_6 + 1) (Nat.lt_succ_self _) hE [6,5,1] rfl (asK [0,1] rfl) rfl
   ·
    replace hm:=QP hm hb20
    refine Q5 [] (S':=[]) rfl (QH (Q8 (Q8 (Qh ?_))))
    have hE:=(Option.some.inj hm).symm
    replace hE:=Qy hLu1 hE
    refine Ql () hE [] rfl (asK [] rfl) rfl
  ·
   rintro _ hE
   try dsimp only
   have hm:=QZ hLj_1 hE
   try dsimp only at hm
   refine Q4 (Q1 (wP rfl (Q3 (Q2 (Qn ?_)))))
   have hE:=(Option.some.inj hm).symm
   replace hE:=hE.symm
   subst hE
   refine Qp (Hr:=[]) [] Tryz.results55 (Qd rfl) ⟨rfl,rfl,rfl⟩ (asK [] rfl) rfl rfl (.inl rfl)
theorem Q5W (N:Nat) (a0:Int) (a1:Int) (qp0:Option Addr) (qc1:Nat) (l2:List FactDS) (k3:Nat) (qp2:Option Addr) (qc3:Nat) (l4:List V) (k5:Nat) (a6:Int) (a7:Int) (qp4:Option Addr) (qc5:Nat) (l8:List FactD) (qp6:Option Addr) (qc7:Nat) (l9:List V) (o0:Bool) (hm:Q1Q N a0 a1 l2 k3 l4 k5 a6 a7 l8 l9 = some o0):Q1v Tryz.prog 35 [.agg #[.int .i64 a0,.int .i64 a1,.slice qp0 k3 qc1,.slice qp2 k5 qc3],.agg #[.int .i64 a6,.int .i64 a7,.slice qp4 l8.length qc5,.slice qp6 l9.length qc7]] [.sli 3 Q5G qp0 qc1 l2,.sli 3 R_V qp2 qc3 l4,.sli 3 QO qp4 qc5 l8,.sli 3 R_V qp6 qc7 l9] [] (fun v Φr Hr=>v = .bool o0 ∧ Φr = [] ∧ Hr = []):=by
 unfold Q1Q at hm
 refine Qx Tryz.func35 rfl Tryz.ntmps35 rfl (S:=[_,_]) rfl (fun C=>(Q4 (Q1 (wB rfl (fun g2=>(wB rfl (fun g3=>(wP rfl (Q3 (Q2 (Q5 [3,2] (S':=[_,_]) rfl (Q4 (Q1 (Q1e 1 0 rfl rfl rfl (Q0 rfl) rfl rfl rfl (cs:=[_,_,_,_]) rfl Q11 Q1W rfl rfl (Q1e 0 0 rfl rfl rfl (Q0 rfl) rfl rfl rfl (cs:=[_,_,_,_]) rfl Q11 Q1W rfl rfl ?_)))))))))))))))
 obtain ⟨v7,hc7,hm⟩:=Q6 hm
 refine wC [] [0,1] rfl fn_38 rfl (Q5P N a0 a1 qp0 qc1 l2 k3 qp2 qc3 l4 k5 a6 a7 qp4 qc5 l8 qp6 qc7 l9 _ hc7) (asK [0,1,2,3] rfl) rfl (H':=[_,_]) rfl ?_
 rintro _ _ _ ⟨rfl,rfl,rfl⟩
 refine wP rfl ?_
 refine QA (d:=8) (S':=[_,_,_,_,_]) rfl rfl (fun hs8=>?_) (fun hs8=>?_)
 ·
  replace hm:=QQ hm hs8
  refine wF rfl Q4g (wD 1 2 rfl Q31 Q4R rfl (wF rfl Q4g (wD 0 2 rfl Q31 Q4R rfl ?_)))
  obtain ⟨v13,hc13,hm⟩:=Q6 hm
  refine wC [] [0,1] rfl fn_55 rfl (Q7i N qp0 qc1 l2 k3 qp4 qc5 l8 _ hc13) (asK [0,2] rfl) rfl (H':=[_,_]) rfl ?_
  rintro _ _ _ ⟨rfl,rfl,rfl⟩
  refine wP rfl (wP rfl ?_)
  refine QA (d:=15) (S':=[_,_,_,_,_,_,_,_,_,_,_,_]) rfl rfl (fun hs15=>?_) (fun hs15=>?_)
  ·
   replace hm:=QQ hm hs15
   refine wF rfl Q5b (wD 1 3 rfl Q1Z Q41 rfl (wF rfl Q5b (wD 0 3 rfl Q1Z Q41 rfl ?_)))
   obtain ⟨v20,hc20,hm⟩:=Q6 hm
   refine wC [] [0,1] rfl fn_56 rfl (Q5E N qp2 qc3 l4 k5 qp6 qc7 l9 _ hc20) (asK [1,3] rfl) rfl (H':=[_,_]) rfl ?_
   rintro _ _ _ ⟨rfl,rfl,rfl⟩
   refine wP rfl (wP rfl (Q3 (Q2 (Q5 [4] (S':=[_]) rfl (Qn ?_)))))
   have hE:=(Option.some.inj hm).symm
   replace hE:=hE.symm
   subst hE
   refine Qp (Hr:=[]) [] Tryz.results35 (Qd rfl) ⟨rfl,rfl,rfl⟩ (asK [] rfl) rfl rfl (.inl rfl)
  ·
   replace hm:=QP hm hs15
   refine wO rfl (wO rfl (wO rfl (wO rfl (wO rfl (wP rfl (wP rfl (Q3 (Q2 (Q5 [4] (S':=[_]) rfl (Qn ?_))))))))))
   have hE:=(Option.some.inj hm).symm
   replace hE:=hE.symm
   subst hE
   refine Qp (Hr:=[]) [] Tryz.results35 (Qd rfl) ⟨rfl,rfl,rfl⟩ (asK [] rfl) rfl rfl (.inl rfl)
 ·
  replace hm:=QP hm hs8
  refine wO rfl (wO rfl (wO rfl (wO rfl (wO rfl (wP rfl (wP rfl (wO rfl (wO rfl (wO rfl (wO rfl (wO rfl (wP rfl (wP rfl ?_)))))))))))))
  refine Q3 (Q2 (Q5 [4] (S':=[_]) rfl (Qn ?_)))
  have hE:=(Option.some.inj hm).symm
  replace hE:=hE.symm
  subst hE
  refine Qp (Hr:=[]) [] Tryz.results35 (Qd rfl) ⟨rfl,rfl,rfl⟩ (asK [] rfl) rfl rfl (.inl rfl)
theorem Q4w (N:Nat) (a0:Int) (a1:Int) (a2:Int) (a3:Int) (qp0:Option Addr) (qc1:Nat) (l4:List FactDS) (k5:Nat) (qp2:Option Addr) (qc3:Nat) (l6:List V) (k7:Nat) (a8:Int) (a9:Int) (a10:Int) (a11:Int) (qp4:Option Addr) (qc5:Nat) (l12:List FactD) (qp6:Option Addr) (qc7:Nat) (l13:List V) (o0:Bool) (hm:Q3j N a0 a1 a2 a3 l4 k5 l6 k7 a8 a9 a10 a11 l12 l13 = some o0):Q1v Tryz.prog 27 [.agg #[.int .i64 a0,.int .i64 a1,.int .i64 a2,.int .i64 a3,.slice qp0 k5 qc1,.slice qp2 k7 qc3],.agg #[.int .i64 a8,.int .i64 a9,.int .i64 a10,.int .i64 a11,.slice qp4 l12.length qc5,.slice qp6 l13.length qc7]] [.sli 3 Q5G qp0 qc1 l4,.sli 3 R_V qp2 qc3 l6,.sli 3 QO qp4 qc5 l12,.sli 3 R_V qp6 qc7 l13] [] (fun v Φr Hr=>v = .bool o0 ∧ Φr = [] ∧ Hr = []):=by
 unfold Q3j at hm
 refine Qx Tryz.func27 rfl Tryz.ntmps27 rfl (S:=[_,_]) rfl (fun C=>(Q4 (Q1 (wB rfl (fun g2=>(wB rfl (fun g3=>(wP rfl (Q3 (Q2 (Q5 [3,2] (S':=[_,_]) rfl (Q4 (Q1 (Q1e 1 0 rfl rfl rfl (Q0 rfl) rfl rfl rfl (cs:=[_,_,_,_,_,_]) rfl QN Q4O rfl rfl (Q1e 0 0 rfl rfl rfl (Q0 rfl) rfl rfl rfl (cs:=[_,_,_,_,_,_]) rfl QN Q4O rfl rfl ?_)))))))))))))))
 obtain ⟨v7,hc7,hm⟩:=Q6 hm
 refine wC [] [0,1] rfl fn_28 rfl (Q4x N a0 a1 a2 a3 qp0 qc1 l4 k5 qp2 qc3 l6 k7 a8 a9 a10 a11 qp4 qc5 l12 qp6 qc7 l13 _ hc7) (asK [0,1,2,3] rfl) rfl (H':=[_,_]) rfl ?_
 rintro _ _ _ ⟨rfl,rfl,rfl⟩
 refine wP rfl ?_
 refine QA (d:=8) (S':=[_,_,_,_,_]) rfl rfl (fun hs8=>?_) (fun hs8=>?_)
 ·
  replace hm:=QQ hm hs8
  refine wF rfl Q4b (Q1e 1 2 rfl rfl rfl (Q0 rfl) rfl rfl rfl (cs:=[_,_,_,_]) rfl Q11 Q1W rfl rfl (wF rfl Q4b (Q1e 0 2 rfl rfl rfl (Q0 rfl) rfl rfl rfl (cs:=[_,_,_,_]) rfl Q11 Q1W rfl rfl ?_)))
  obtain ⟨v13,hc13,hm⟩:=Q6 hm
  refine wC [] [0,1] rfl fn_35 rfl (Q5W N a2 a3 qp0 qc1 l4 k5 qp2 qc3 l6 k7 a10 a11 qp4 qc5 l12 qp6 qc7 l13 _ hc13) (asK [0,1,2,3] rfl) rfl (H':=[_,_]) rfl ?_
  rintro _ _ _ ⟨rfl,rfl,rfl⟩
  refine wP rfl (wP rfl (Q3 (Q2 (Q5 [4] (S':=[_]) rfl (Qn ?_)))))
  have hE:=(Option.some.inj hm).symm
  replace hE:=hE.symm
  subst hE
  refine Qp (Hr:=[]) [] Tryz.results27 (Qd rfl) ⟨rfl,rfl,rfl⟩ (asK [] rfl) rfl rfl (.inl rfl)
 ·
  replace hm:=QP hm hs8
  refine wO rfl (wO rfl (wO rfl (wO rfl (wO rfl (wP rfl (wP rfl (Q3 (Q2 (Q5 [4] (S':=[_]) rfl (Qn ?_))))))))))
  have hE:=(Option.some.inj hm).symm
  replace hE:=hE.symm
  subst hE
  refine Qp (Hr:=[]) [] Tryz.results27 (Qd rfl) ⟨rfl,rfl,rfl⟩ (asK [] rfl) rfl rfl (.inl rfl)
theorem Q5r (N:Nat) (qp0:Option Addr) (qc1:Nat) (l0:List SessDS) (k1:Nat) (qp2:Option Addr) (qc3:Nat) (l2:List SessD) (o0:Bool) (hm:Q2f N l0 k1 l2 = some o0):Q1v Tryz.prog 13 [.slice qp0 k1 qc1,.slice qp2 l2.length qc3] [.sli 6 Q8w qp0 qc1 l0,.sli 6 Qt qp2 qc3 l2] [] (fun v Φr Hr=>v = .bool o0 ∧ Φr = [] ∧ Hr = []):=by
 unfold Q2f at hm
 refine Qx Tryz.func13 rfl Tryz.ntmps13 rfl (S:=[_,_]) rfl (fun C=>(Q4 (Q1 (wP rfl (Q3 (Q2 (Q5 [0,1] (S':=[_,_]) rfl (Q4 (Q4 (Q1 (wP rfl (wN rfl QB (wP rfl (wN rfl QB ?_))))))))))))))
 refine wP rfl (Qr (d:=11) (v':=.bool (k1 != l2.length)) (S':=[_,_,_,_,_,_]) rfl rfl (natne (a:=k1) (b:=l2.length)) (Q3 (Q2 (Q5 [11,0,1] (S':=[_,_,_]) rfl ?_))))
 refine Qm rfl (fun hb11=>?_) (fun hb11=>?_)
 ·
  replace hm:=QQ hm hb11
  refine Q5 [] (S':=[]) rfl (Q4 (Q1 (wP rfl (Q3 (Q2 (Qn (Qb ?_)))))))
  have hE:=(Option.some.inj hm).symm
  replace hE:=hE.symm
  subst hE
  refine Qp (Hr:=[]) [] Tryz.results13 (Qd rfl) ⟨rfl,rfl,rfl⟩ (asK [] rfl) rfl rfl (.inl rfl)
 ·
  replace hm:=QP hm hb11
  refine Q5 [0,1] (S':=[_,_]) rfl (Qj (Q2 (Q4 (Q1 (wP rfl (wP rfl (wN rfl QB (wP rfl ?_))))))))
  obtain ⟨hg15,hm⟩:=Qq hm
  refine Qr (d:=15) (v':=.int .i64 ((l2.length + 12:Nat):Int)) (S':=[_,_,_,_,_]) rfl rfl (Qw (a:=l2.length) (b:=12) hg15) ?_
  obtain ⟨hg16,hm⟩:=Qq hm
  refine wl_sliToF 0 rfl rfl rfl (Q0 rfl) rfl rfl rfl rfl rfl QB QN hg16 (fun p16=>(wP rfl (Q3 (Q2 (Q5 [5,1] (S':=[_,_]) rfl (Q4 ?_))))))
  obtain ⟨bj_1,hm,hLj_1⟩:=Q2F hm
  refine Q14 (σ:=Unit) (fun _=>bj_1 = .inl ()) (fun _=>[]) (fun _=>[]) (fun _=>[]) ?_ ?_
  ·
   refine Q4 (Q1 (wP rfl (Q3 (Q2 (Qc (QI (σ:=Nat × Nat) (fun (nu1,u1_6)=>Q2s (Q2u N l0 l2) nu1 u1_6 = some bj_1) (fun (nu1,u1_6)=>nu1) (fun (nu1,u1_6)=>[(6,.int .i64 ((u1_6:Nat):Int)),(5,.slice p16 ((l0.take (l2.length + 12)).length) qc1),(1,.slice qp2 l2.length qc3)]) (fun (nu1,u1_6)=>[.sli 6 Q8w p16 qc1 (l0.take (l2.length + 12)),.sli 6 Qt qp2 qc3 l2]) (fun (nu1,u1_6)=>[]) (N,0) hm [6,5,1] rfl (asK [0,2] rfl) rfl (fun s_ hm=>?_)))))))
   obtain ⟨nu1,u1_6⟩:=s_
   try dsimp only at hm ⊢
   obtain ⟨mu1,bu1,hnu1,hq,hLu1⟩:=Q1m hm
   clear hm
   subst hnu1
   replace hm:=hq
   clear hq
   unfold Q2u at hm
   try dsimp only at hm
   refine Q4 (Q4 (Q1 (wP rfl (wP rfl (wN rfl QB (wP rfl (Qr (d:=20) (v':=.bool (decide (u1_6 < ((l0.take (l2.length + 12)).length)))) (S':=[_,_,_,_,_,_]) rfl rfl (Q3a (a:=u1_6) (b:=(l0.take (l2.length + 12)).length)) (Q3 (Q2 (Q5 [20,6,5,1] (S':=[_,_,_,_]) rfl ?_))))))))))
   refine Qm rfl (fun hb20=>?_) (fun hb20=>?_)
   ·
    replace hm:=QQ hm hb20
    refine Q5 [6,5,1] (S':=[_,_,_]) rfl (Qj (Q2 (Q4 (Qc (Q4 ?_)))))
    obtain ⟨bj_2,hm,hLj_2⟩:=Q6 hm
    unfold Q4f at hm
    refine Q14 (σ:=Bool) (fun j_2_57=>bj_2 = j_2_57) (fun j_2_57=>[(6,.int .i64 ((u1_6:Nat):Int)),(5,.slice p16 ((l0.take (l2.length + 12)).length) qc1),(1,.slice qp2 l2.length qc3),(57,.bool j_2_57)]) (fun j_2_57=>[.sli 6 Q8w p16 qc1 (l0.take (l2.length + 12)),.sli 6 Qt qp2 qc3 l2]) (fun j_2_57=>[]) ?_ ?_
    ·
     rcases Q4v hm with ⟨hs27,hm⟩ | ⟨hs27,hm⟩
     ·
      obtain ⟨x30,hx30,hm⟩:=Q6 hm
      obtain ⟨x34,hx34,hm⟩:=Q6 hm
      obtain ⟨v36,hc36,hm⟩:=Q6 hm
      rcases Q4v hm with ⟨hs39,hm⟩ | ⟨hs39,hm⟩
      ·
       refine Q1l [0,1,2,3,4,5,6,7,8,9,10,11,12,14,15,16,17,18,19,20,21,22,23,24,25,26,27,28,29,32,33,34] rfl rfl (fun hok=>(xP hok 0 rfl (xP hok 1 rfl (Q3e hok 2 rfl rfl rfl (Q0 rfl) rfl rfl rfl QB (xP hok 3 rfl (Q1h (d:=26) (v':=.bool (decide (u1_6 < l2.length))) (S':=[_,_,_,_,_,_]) rfl rfl (Q3a (a:=u1_6) (b:=l2.length)) (xP hok 4 rfl (Q1h (d:=27) (v':=.bool true) (S':=[_,_,_,_,_,_,_]) rfl rfl (Q1p hs27) (xP hok 5 rfl (xP hok 6 rfl (Q1y hok 7 0 u1_6 rfl rfl rfl (Q0 rfl) rfl rfl rfl rfl rfl rfl hx30 QB QN (fun b30 q30 cs30 hlx30=>(Q1K Q61 1 rfl (fun r30 er30 _=>?_))))))))))))))
       subst er30
       refine Q2m hok 8 2 0 rfl rfl rfl (Q0 rfl) rfl rfl rfl rfl (cs:=[_,_,_,_,_,_]) rfl QN Q4O rfl rfl (xP hok 9 rfl (xP hok 10 rfl (Q1y hok 11 5 u1_6 rfl rfl rfl (Q0 rfl) rfl rfl rfl rfl rfl rfl hx34 QB QN (fun b34 q34 cs34 hlx34=>(Q1K Q17 1 rfl (fun r34 er34 _=>?_))))))
       subst er34
       refine Q2m hok 12 2 0 rfl rfl rfl (Q0 rfl) rfl rfl rfl rfl (cs:=[_,_,_,_,_,_]) rfl QN Q4O rfl rfl (xS hok 13 rfl (wC [] [] rfl fn_27 rfl (Q4w N x30.id x30.seq x30.r.err x30.r.num r30.1.1 r30.1.2 (x30.r.facts ++ x30.r.factsT) x30.r.facts.length r30.2.1 r30.2.2 (x30.r.said ++ x30.r.saidT) x30.r.said.length x34.id x34.seq x34.r.err x34.r.num r34.1.1 r34.1.2 x34.r.facts r34.2.1 r34.2.2 x34.r.said _ hc36) (asK [4,5,0,1] rfl) rfl (H':=[]) rfl ?_))
       rintro _ _ _ ⟨rfl,rfl,rfl⟩
       refine Q3 (QT [0,1,2,3,4,5,6,7,8,9] [] rfl rfl (xP hok 14 rfl (xP hok 15 rfl (xP hok 16 rfl (Q1h (d:=39) (v':=.bool true) (S':=[_,_,_,_,_,_,_,_,_,_,_,_,_,_,_,_,_,_,_]) rfl rfl (Q1p hs39) (xO hok 17 rfl (xO hok 18 rfl (xO hok 19 rfl (xO hok 20 rfl (xO hok 21 rfl (xO hok 22 rfl (xO hok 23 rfl (xO hok 24 rfl ?_)))))))))))))
       refine xO hok 25 rfl (xO hok 26 rfl (xO hok 27 rfl (xO hok 28 rfl (xO hok 29 rfl (xS hok 30 rfl (wO rfl (Q3 (QT [0,1,2,3,4,5,6,7,8,9] [] rfl rfl (xS hok 31 rfl (wO rfl (Q3 (QT [0,1,2,3,4,5,6,7,8,9] [] rfl rfl (xO hok 32 rfl ?_)))))))))))))
       refine xO hok 33 rfl (xP hok 34 rfl (Q19 hok rfl ?_))
       have hE:=(Option.some.inj hm).symm
       refine Ql true hE [6,5,1,57] rfl (asK [8,9] rfl) rfl
      ·
       rcases Q4v hm with ⟨hs44,hm⟩ | ⟨hs44,hm⟩
       ·
        obtain ⟨x47,hx47,hm⟩:=Q6 hm
        obtain ⟨hg52,hm⟩:=Qq hm
        obtain ⟨_,hc53,hm⟩:=Q6 hm
        try dsimp only at hm
        obtain ⟨v54,hc54,hm⟩:=Q6 hm
        refine Q1l [0,1,2,3,4,5,6,7,8,9,10,11,12,14,15,16,17,18,19,20,21,22,23,24,25,26,27,28,29,32,33,34] rfl rfl (fun hok=>(xP hok 0 rfl (xP hok 1 rfl (Q3e hok 2 rfl rfl rfl (Q0 rfl) rfl rfl rfl QB (xP hok 3 rfl (Q1h (d:=26) (v':=.bool (decide (u1_6 < l2.length))) (S':=[_,_,_,_,_,_]) rfl rfl (Q3a (a:=u1_6) (b:=l2.length)) (xP hok 4 rfl (Q1h (d:=27) (v':=.bool true) (S':=[_,_,_,_,_,_,_]) rfl rfl (Q1p hs27) (xP hok 5 rfl (xP hok 6 rfl (Q1y hok 7 0 u1_6 rfl rfl rfl (Q0 rfl) rfl rfl rfl rfl rfl rfl hx30 QB QN (fun b30 q30 cs30 hlx30=>(Q1K Q61 1 rfl (fun r30 er30 _=>?_))))))))))))))
        subst er30
        refine Q2m hok 8 2 0 rfl rfl rfl (Q0 rfl) rfl rfl rfl rfl (cs:=[_,_,_,_,_,_]) rfl QN Q4O rfl rfl (xP hok 9 rfl (xP hok 10 rfl (Q1y hok 11 5 u1_6 rfl rfl rfl (Q0 rfl) rfl rfl rfl rfl rfl rfl hx34 QB QN (fun b34 q34 cs34 hlx34=>(Q1K Q17 1 rfl (fun r34 er34 _=>?_))))))
        subst er34
        refine Q2m hok 12 2 0 rfl rfl rfl (Q0 rfl) rfl rfl rfl rfl (cs:=[_,_,_,_,_,_]) rfl QN Q4O rfl rfl (xS hok 13 rfl (wC [] [] rfl fn_27 rfl (Q4w N x30.id x30.seq x30.r.err x30.r.num r30.1.1 r30.1.2 (x30.r.facts ++ x30.r.factsT) x30.r.facts.length r30.2.1 r30.2.2 (x30.r.said ++ x30.r.saidT) x30.r.said.length x34.id x34.seq x34.r.err x34.r.num r34.1.1 r34.1.2 x34.r.facts r34.2.1 r34.2.2 x34.r.said _ hc36) (asK [4,5,0,1] rfl) rfl (H':=[]) rfl ?_))
        rintro _ _ _ ⟨rfl,rfl,rfl⟩
        refine Q3 (QT [0,1,2,3,4,5,6,7,8,9] [] rfl rfl (xP hok 14 rfl (xP hok 15 rfl (xP hok 16 rfl (Q1h (d:=39) (v':=.bool false) (S':=[_,_,_,_,_,_,_,_,_,_,_,_,_,_,_,_,_,_,_]) rfl rfl (Q1p hs39) (xP hok 17 rfl (xP hok 18 rfl (Q3e hok 19 rfl rfl rfl (Q0 rfl) rfl rfl rfl QB (xP hok 20 rfl (Q1h (d:=43) (v':=.bool (decide (l2.length ≤ u1_6))) (S':=[_,_,_,_,_,_,_,_,_,_,_,_,_,_,_,_,_,_,_,_,_,_,_]) rfl rfl (Q7r (a:=u1_6) (b:=l2.length)) (xP hok 21 rfl (Q1h (d:=44) (v':=.bool true) (S':=[_,_,_,_,_,_,_,_,_,_,_,_,_,_,_,_,_,_,_,_,_,_,_,_]) rfl rfl (Q1p hs44) (xP hok 22 rfl ?_)))))))))))))
        refine xP hok 23 rfl (Q1y hok 24 8 u1_6 rfl rfl rfl (Q0 rfl) rfl rfl rfl rfl rfl rfl hx47 QB QN (fun b47 q47 cs47 hlx47=>(Q1K Q61 1 rfl (fun r47 er47 _=>?_))))
        subst er47
        refine Q2m hok 25 2 0 rfl rfl rfl (Q0 rfl) rfl rfl rfl rfl (cs:=[_,_,_,_,_,_]) rfl QN Q4O rfl rfl (xP hok 26 rfl (xP hok 27 rfl (Q3e hok 28 rfl rfl rfl (Q0 rfl) rfl rfl rfl QB (xP hok 29 rfl (Q1h (d:=52) (v':=.int .i64 (((u1_6:Nat):Int) - ((l2.length:Nat):Int))) (S':=[_,_,_,_,_,_,_,_,_,_,_,_,_,_,_,_,_,_,_,_,_,_,_,_,_,_,_,_,_,_,_,_]) rfl rfl (i64_in hg52) (xS hok 30 rfl (wC [] [] rfl fn_24 rfl (Q3f N 1 (((u1_6:Nat):Int) - ((l2.length:Nat):Int)) hc53) (asK [] rfl) rfl (H':=[]) rfl ?_)))))))
        rintro _ _ _ ⟨rfl,rfl,rfl⟩
        refine Q3 (QT [0,1,2,3,4,5,6,7,8,9,10,11,12,13] [] rfl rfl (xS hok 31 rfl (Q2l (.sli 3 QO none 0 ([] : List FactD)) (fun _ _ _=>Q2B) (Q2l (.sli 3 R_V none 0 ([] : List V)) (fun _ _ _=>Q2B) (wC [] [] rfl fn_28 rfl (Q4x N x47.id x47.seq x47.r.err x47.r.num r47.1.1 r47.1.2 (x47.r.facts ++ x47.r.factsT) x47.r.facts.length r47.2.1 r47.2.2 (x47.r.said ++ x47.r.saidT) x47.r.said.length (IntKind.wrap .i64 ((IntKind.wrap .i64 (1000003 * (IntKind.wrap .i64 (1 + 7)))) + (((u1_6:Nat):Int) - ((l2.length:Nat):Int)))) 0 0 0 none 0 ([] : List FactD) none 0 ([] : List V) _ hc54) (asK [2,3,1,0] rfl) rfl (H':=[]) rfl ?_)))))
        rintro _ _ _ ⟨rfl,rfl,rfl⟩
        refine Q3 (QT [2,3,4,5,6,7,8,9,10,11,12,13,14,15] [] rfl rfl (xP hok 32 rfl (xP hok 33 rfl (xP hok 34 rfl (Q19 hok rfl ?_)))))
        have hE:=(Option.some.inj hm).symm
        refine Ql (!v54) hE [6,5,1,57] rfl (asK [14,15] rfl) rfl
       ·
        refine Q1l [0,1,2,3,4,5,6,7,8,9,10,11,12,14,15,16,17,18,19,20,21,22,23,24,25,26,27,28,29,32,33,34] rfl rfl (fun hok=>(xP hok 0 rfl (xP hok 1 rfl (Q3e hok 2 rfl rfl rfl (Q0 rfl) rfl rfl rfl QB (xP hok 3 rfl (Q1h (d:=26) (v':=.bool (decide (u1_6 < l2.length))) (S':=[_,_,_,_,_,_]) rfl rfl (Q3a (a:=u1_6) (b:=l2.length)) (xP hok 4 rfl (Q1h (d:=27) (v':=.bool true) (S':=[_,_,_,_,_,_,_]) rfl rfl (Q1p hs27) (xP hok 5 rfl (xP hok 6 rfl (Q1y hok 7 0 u1_6 rfl rfl rfl (Q0 rfl) rfl rfl rfl rfl rfl rfl hx30 QB QN (fun b30 q30 cs30 hlx30=>(Q1K Q61 1 rfl (fun r30 er30 _=>?_))))))))))))))
        subst er30
        refine Q2m hok 8 2 0 rfl rfl rfl (Q0 rfl) rfl rfl rfl rfl (cs:=[_,_,_,_,_,_]) rfl QN Q4O rfl rfl (xP hok 9 rfl (xP hok 10 rfl (Q1y hok 11 5 u1_6 rfl rfl rfl (Q0 rfl) rfl rfl rfl rfl rfl rfl hx34 QB QN (fun b34 q34 cs34 hlx34=>(Q1K Q17 1 rfl (fun r34 er34 _=>?_))))))
        subst er34
        refine Q2m hok 12 2 0 rfl rfl rfl (Q0 rfl) rfl rfl rfl rfl (cs:=[_,_,_,_,_,_]) rfl QN Q4O rfl rfl (xS hok 13 rfl (wC [] [] rfl fn_27 rfl (Q4w N x30.id x30.seq x30.r.err x30.r.num r30.1.1 r30.1.2 (x30.r.facts ++ x30.r.factsT) x30.r.facts.length r30.2.1 r30.2.2 (x30.r.said ++ x30.r.saidT) x30.r.said.length x34.id x34.seq x34.r.err x34.r.num r34.1.1 r34.1.2 x34.r.facts r34.2.1 r34.2.2 x34.r.said _ hc36) (asK [4,5,0,1] rfl) rfl (H':=[]) rfl ?_))
        rintro _ _ _ ⟨rfl,rfl,rfl⟩
        refine Q3 (QT [0,1,2,3,4,5,6,7,8,9] [] rfl rfl (xP hok 14 rfl (xP hok 15 rfl (xP hok 16 rfl (Q1h (d:=39) (v':=.bool false) (S':=[_,_,_,_,_,_,_,_,_,_,_,_,_,_,_,_,_,_,_]) rfl rfl (Q1p hs39) (xP hok 17 rfl (xP hok 18 rfl (Q3e hok 19 rfl rfl rfl (Q0 rfl) rfl rfl rfl QB (xP hok 20 rfl (Q1h (d:=43) (v':=.bool (decide (l2.length ≤ u1_6))) (S':=[_,_,_,_,_,_,_,_,_,_,_,_,_,_,_,_,_,_,_,_,_,_,_]) rfl rfl (Q7r (a:=u1_6) (b:=l2.length)) (xP hok 21 rfl (Q1h (d:=44) (v':=.bool false) (S':=[_,_,_,_,_,_,_,_,_,_,_,_,_,_,_,_,_,_,_,_,_,_,_,_]) rfl rfl (Q1p hs44) (xO hok 22 rfl ?_)))))))))))))
        refine xO hok 23 rfl (xO hok 24 rfl (xO hok 25 rfl (xO hok 26 rfl (xO hok 27 rfl (xO hok 28 rfl (xO hok 29 rfl (xS hok 30 rfl (wO rfl (Q3 (QT [0,1,2,3,4,5,6,7,8,9] [] rfl rfl (xS hok 31 rfl (wO rfl (Q3 ?_)))))))))))))
        refine QT [0,1,2,3,4,5,6,7,8,9] [] rfl rfl (xO hok 32 rfl (xP hok 33 rfl (xP hok 34 rfl (Q19 hok rfl ?_))))
        have hE:=(Option.some.inj hm).symm
        refine Ql false hE [6,5,1,57] rfl (asK [8,9] rfl) rfl
     ·
      rcases Q4v hm with ⟨hs44,hm⟩ | ⟨hs44,hm⟩
      ·
       obtain ⟨x47,hx47,hm⟩:=Q6 hm
       obtain ⟨hg52,hm⟩:=Qq hm
       obtain ⟨_,hc53,hm⟩:=Q6 hm
       try dsimp only at hm
       obtain ⟨v54,hc54,hm⟩:=Q6 hm
       refine Q1l [0,1,2,3,4,5,6,7,8,9,10,11,12,14,15,16,17,18,19,20,21,22,23,24,25,26,27,28,29,32,33,34] rfl rfl (fun hok=>(xP hok 0 rfl (xP hok 1 rfl (Q3e hok 2 rfl rfl rfl (Q0 rfl) rfl rfl rfl QB (xP hok 3 rfl (Q1h (d:=26) (v':=.bool (decide (u1_6 < l2.length))) (S':=[_,_,_,_,_,_]) rfl rfl (Q3a (a:=u1_6) (b:=l2.length)) (xP hok 4 rfl (Q1h (d:=27) (v':=.bool false) (S':=[_,_,_,_,_,_,_]) rfl rfl (Q1p hs27) (xO hok 5 rfl (xO hok 6 rfl (xO hok 7 rfl (xO hok 8 rfl (xO hok 9 rfl (xO hok 10 rfl ?_))))))))))))))
       refine xO hok 11 rfl (xO hok 12 rfl (xS hok 13 rfl (wO rfl (Q3 (QT [0,1] [] rfl rfl (xO hok 14 rfl (xP hok 15 rfl (xP hok 16 rfl (xP hok 17 rfl (xP hok 18 rfl (Q3e hok 19 rfl rfl rfl (Q0 rfl) rfl rfl rfl QB (xP hok 20 rfl (Q1h (d:=43) (v':=.bool (decide (l2.length ≤ u1_6))) (S':=[_,_,_,_,_,_,_,_,_,_,_,_,_,_,_,_,_,_,_,_,_,_,_]) rfl rfl (Q7r (a:=u1_6) (b:=l2.length)) ?_)))))))))))))
       refine xP hok 21 rfl (Q1h (d:=44) (v':=.bool true) (S':=[_,_,_,_,_,_,_,_,_,_,_,_,_,_,_,_,_,_,_,_,_,_,_,_]) rfl rfl (Q1p hs44) (xP hok 22 rfl (xP hok 23 rfl (Q1y hok 24 0 u1_6 rfl rfl rfl (Q0 rfl) rfl rfl rfl rfl rfl rfl hx47 QB QN (fun b47 q47 cs47 hlx47=>(Q1K Q61 1 rfl (fun r47 er47 _=>?_)))))))
       subst er47
       refine Q2m hok 25 2 0 rfl rfl rfl (Q0 rfl) rfl rfl rfl rfl (cs:=[_,_,_,_,_,_]) rfl QN Q4O rfl rfl (xP hok 26 rfl (xP hok 27 rfl (Q3e hok 28 rfl rfl rfl (Q0 rfl) rfl rfl rfl QB (xP hok 29 rfl (Q1h (d:=52) (v':=.int .i64 (((u1_6:Nat):Int) - ((l2.length:Nat):Int))) (S':=[_,_,_,_,_,_,_,_,_,_,_,_,_,_,_,_,_,_,_,_,_,_,_,_,_,_,_,_,_,_,_,_]) rfl rfl (i64_in hg52) (xS hok 30 rfl (wC [] [] rfl fn_24 rfl (Q3f N 1 (((u1_6:Nat):Int) - ((l2.length:Nat):Int)) hc53) (asK [] rfl) rfl (H':=[]) rfl ?_)))))))
       rintro _ _ _ ⟨rfl,rfl,rfl⟩
       refine Q3 (QT [0,1,2,3,4,5] [] rfl rfl (xS hok 31 rfl (Q2l (.sli 3 QO none 0 ([] : List FactD)) (fun _ _ _=>Q2B) (Q2l (.sli 3 R_V none 0 ([] : List V)) (fun _ _ _=>Q2B) (wC [] [] rfl fn_28 rfl (Q4x N x47.id x47.seq x47.r.err x47.r.num r47.1.1 r47.1.2 (x47.r.facts ++ x47.r.factsT) x47.r.facts.length r47.2.1 r47.2.2 (x47.r.said ++ x47.r.saidT) x47.r.said.length (IntKind.wrap .i64 ((IntKind.wrap .i64 (1000003 * (IntKind.wrap .i64 (1 + 7)))) + (((u1_6:Nat):Int) - ((l2.length:Nat):Int)))) 0 0 0 none 0 ([] : List FactD) none 0 ([] : List V) _ hc54) (asK [2,3,1,0] rfl) rfl (H':=[]) rfl ?_)))))
       rintro _ _ _ ⟨rfl,rfl,rfl⟩
       refine Q3 (QT [2,3,4,5,6,7] [] rfl rfl (xP hok 32 rfl (xP hok 33 rfl (xP hok 34 rfl (Q19 hok rfl ?_)))))
       have hE:=(Option.some.inj hm).symm
       refine Ql (!v54) hE [6,5,1,57] rfl (asK [6,7] rfl) rfl
      ·
       refine Q1l [0,1,2,3,4,5,6,7,8,9,10,11,12,14,15,16,17,18,19,20,21,22,23,24,25,26,27,28,29,32,33,34] rfl rfl (fun hok=>(xP hok 0 rfl (xP hok 1 rfl (Q3e hok 2 rfl rfl rfl (Q0 rfl) rfl rfl rfl QB (xP hok 3 rfl (Q1h (d:=26) (v':=.bool (decide (u1_6 < l2.length))) (S':=[_,_,_,_,_,_]) rfl rfl (Q3a (a:=u1_6) (b:=l2.length)) (xP hok 4 rfl (Q1h (d:=27) (v':=.bool false) (S':=[_,_,_,_,_,_,_]) rfl rfl (Q1p hs27) (xO hok 5 rfl (xO hok 6 rfl (xO hok 7 rfl (xO hok 8 rfl (xO hok 9 rfl (xO hok 10 rfl ?_))))))))))))))
       refine xO hok 11 rfl (xO hok 12 rfl (xS hok 13 rfl (wO rfl (Q3 (QT [0,1] [] rfl rfl (xO hok 14 rfl (xP hok 15 rfl (xP hok 16 rfl (xP hok 17 rfl (xP hok 18 rfl (Q3e hok 19 rfl rfl rfl (Q0 rfl) rfl rfl rfl QB (xP hok 20 rfl (Q1h (d:=43) (v':=.bool (decide (l2.length ≤ u1_6))) (S':=[_,_,_,_,_,_,_,_,_,_,_,_,_,_,_,_,_,_,_,_,_,_,_]) rfl rfl (Q7r (a:=u1_6) (b:=l2.length)) ?_)))))))))))))
       refine xP hok 21 rfl (Q1h (d:=44) (v':=.bool false) (S':=[_,_,_,_,_,_,_,_,_,_,_,_,_,_,_,_,_,_,_,_,_,_,_,_]) rfl rfl (Q1p hs44) (xO hok 22 rfl (xO hok 23 rfl (xO hok 24 rfl (xO hok 25 rfl (xO hok 26 rfl (xO hok 27 rfl (xO hok 28 rfl (xO hok 29 rfl (xS hok 30 rfl (wO rfl (Q3 (QT [0,1] [] rfl rfl ?_)))))))))))))
       refine xS hok 31 rfl (wO rfl (Q3 (QT [0,1] [] rfl rfl (xO hok 32 rfl (xP hok 33 rfl (xP hok 34 rfl (Q19 hok rfl ?_)))))))
       have hE:=(Option.some.inj hm).symm
       refine Ql false hE [6,5,1,57] rfl (asK [0,1] rfl) rfl
    ·
     rintro j_2_57 hE
     try dsimp only
     have hm:=hLj_2
     rw [hE] at hm
     refine Qm rfl (fun hb57=>?_) (fun hb57=>?_)
     ·
      replace hm:=QQ hm hb57
      refine Q5 [] (S':=[]) rfl (Q4 (Q1 (wP rfl (Q3 (Q2 (Qn (Qu (Qb (Qb (Qu (Qb ?_)))))))))))
      have hE:=(Option.some.inj hm).symm
      replace hE:=Qy hLu1 hE
      replace hE:=Qy hLj_1 hE
      replace hE:=hE.symm
      subst hE
      refine Qp (Hr:=[]) [] Tryz.results13 (Qd rfl) ⟨rfl,rfl,rfl⟩ (asK [] rfl) rfl rfl (.inl rfl)
     ·
      replace hm:=QP hm hb57
      refine Q5 [6,5,1] (S':=[_,_,_]) rfl (Qj (Qa (Q2 (Q1 (wP rfl (wP rfl ?_))))))
      obtain ⟨hg22,hm⟩:=Qq hm
      refine Qr (d:=22) (v':=.int .i64 ((u1_6 + 1:Nat):Int)) (S':=[_,_,_,_]) rfl rfl (Qw (a:=u1_6) (b:=1) hg22) (Qs (S':=[_,_,_,_]) rfl rfl rfl rfl rfl (Q3 ?_))
      have hE:=(Option.some.inj hm).symm
      replace hE:=QZ hLu1 hE
      refine Q1n (_,u1_6 + 1) (Nat.lt_succ_self _) hE [6,5,1] rfl (asK [0,1] rfl) rfl
   ·
    replace hm:=QP hm hb20
    refine Q5 [] (S':=[]) rfl (QH (Q8 (Q8 (Qh ?_))))
    have hE:=(Option.some.inj hm).symm
    replace hE:=Qy hLu1 hE
    refine Ql () hE [] rfl (asK [] rfl) rfl
  ·
   rintro _ hE
   try dsimp only
   have hm:=QZ hLj_1 hE
   try dsimp only at hm
   refine Q4 (Q1 (wP rfl (Q3 (Q2 (Qn ?_)))))
   have hE:=(Option.some.inj hm).symm
   replace hE:=hE.symm
   subst hE
   refine Qp (Hr:=[]) [] Tryz.results13 (Qd rfl) ⟨rfl,rfl,rfl⟩ (asK [] rfl) rfl rfl (.inl rfl)
theorem Q5D (N:Nat) (qp0:Option Addr) (qn1:Nat) (qc2:Nat) (l0:List V) (k1:Nat) (o0:List V) (hm:Q2G N l0 k1 = some o0):Q1v Tryz.prog 58 [.slice qp0 k1 qc2] [] [.own 149 3 R_V (.slice qp0 qn1 qc2) l0] (fun v Φr Hr=>v = .tuple #[] ∧ Φr = [] ∧ Hr = [.own 149 3 R_V (.slice qp0 qn1 qc2) o0]):=by
 unfold Q2G at hm
 refine Qx Tryz.func58 rfl Tryz.ntmps58 rfl (S:=[_]) rfl (fun C=>(Q4 (Q1 (wP rfl (wP rfl (wN rfl Q1S (wP rfl ?_)))))))
 obtain ⟨hg7,hm⟩:=Qq hm
 refine Qr (d:=7) (v':=.int .i64 ((k1 + 12:Nat):Int)) (S':=[_,_,_,_]) rfl rfl (Qw (a:=k1) (b:=12) hg7) ?_
 obtain ⟨hg8,hm⟩:=Qq hm
 refine Q6s 0 rfl (fun hsp8 hcm8=>(Q4T rfl rfl rfl (Q0 rfl) rfl rfl rfl rfl Q1S Q25 (Nat.le_trans hg8 (by rw [← hcm8.2]; exact hcm8.1)) hsp8 (wP rfl (Q3 (Q2 (Q5 [2] (S':=[_]) rfl (Q4 (Q1 (wP rfl (Q3 (Q2 (Qc (QI (σ:=Nat × Nat × (List V)) (fun (nu1,u1_3,u1_2_l)=>Q2s (Q2R N k1) nu1 (u1_3,u1_2_l) = some o0) (fun (nu1,u1_3,u1_2_l)=>nu1) (fun (nu1,u1_3,u1_2_l)=>[(3,.int .i64 ((u1_3:Nat):Int)),(2,.slice qp0 (k1 + 12) qc2)]) (fun (nu1,u1_3,u1_2_l)=>[]) (fun (nu1,u1_3,u1_2_l)=>[.own 149 3 R_V (.slice qp0 qn1 qc2) u1_2_l]) (N,0,l0) hm [3,2] rfl (asK [] rfl) rfl (fun s_ hm=>?_))))))))))))))
 obtain ⟨nu1,u1_3,u1_2_l⟩:=s_
 try dsimp only at hm ⊢
 obtain ⟨mu1,bu1,hnu1,hq,hLu1⟩:=Q1m hm
 clear hm
 subst hnu1
 replace hm:=hq
 clear hq
 unfold Q2R at hm
 try dsimp only at hm
 refine Q4 (Q4 (Q1 (wP rfl (wP rfl (wN rfl Q1S (wP rfl (Qr (d:=12) (v':=.bool (decide (u1_3 < (k1 + 12)))) (S':=[_,_,_,_,_]) rfl rfl (Q3a (a:=u1_3) (b:=k1 + 12)) (Q3 (Q2 (Q5 [12,3,2] (S':=[_,_,_]) rfl ?_))))))))))
 refine Qm rfl (fun hb12=>?_) (fun hb12=>?_)
 ·
  replace hm:=QQ hm hb12
  refine Q5 [3,2] (S':=[_,_]) rfl (Qj (Q2 (Q4 (Qc (Q1 (wP rfl (wP rfl (wP rfl ?_))))))))
  obtain ⟨_,hc18,hm⟩:=Q6 hm
  try dsimp only at hm
  refine wC [] [0] rfl fn_97 rfl (Q3C N 2 ((u1_3:Nat):Int) hc18) (asK [] rfl) rfl (H':=[_]) rfl ?_
  rintro _ _ _ ⟨rfl,rfl,rfl⟩
  obtain ⟨x19,hx19,hm⟩:=Q6 hm
  obtain ⟨hqx19,hm⟩:=Qq hm
  refine Q7U 0 u1_3 rfl rfl rfl (Q0 rfl) rfl rfl rfl rfl rfl hqx19 (Q1X hx19) Q1S Q25 (fun g19 eg19=>?_)
  subst eg19
  refine Q3r (u:=(⟨0,(IntKind.wrap .i64 ((IntKind.wrap .i64 (1000003 * (IntKind.wrap .i64 (2 + 7)))) + ((u1_3:Nat):Int))),(⟨#[]⟩ : ByteArray)⟩ : V)) 0 u1_3 rfl rfl rfl rfl rfl (Q1X hx19) rfl rfl Q25 rfl (fun F w hφ=>⟨(),rfl,Q1f⟩) (H':=[_]) rfl (Q3 (Qa (Q2 (Q5 [3,2] (S':=[_,_]) rfl (Q1 (wP rfl (wP rfl ?_)))))))
  obtain ⟨hg14,hm⟩:=Qq hm
  refine Qr (d:=14) (v':=.int .i64 ((u1_3 + 1:Nat):Int)) (S':=[_,_,_]) rfl rfl (Qw (a:=u1_3) (b:=1) hg14) (Qs (S':=[_,_,_]) rfl rfl rfl rfl rfl (Q3 ?_))
  have hE:=(Option.some.inj hm).symm
  replace hE:=QZ hLu1 hE
  refine Q1n (_,u1_3 + 1,(u1_2_l.set u1_3 (⟨0,(IntKind.wrap .i64 ((IntKind.wrap .i64 (1000003 * (IntKind.wrap .i64 (2 + 7)))) + ((u1_3:Nat):Int))),(⟨#[]⟩ : ByteArray)⟩ : V))) (Nat.lt_succ_self _) hE [3,2] rfl (asK [] rfl) rfl
 ·
  replace hm:=QP hm hb12
  refine Q5 [] (S':=[]) rfl (QH (Q8 (Q8 (Qh ?_))))
  have hE:=(Option.some.inj hm).symm
  replace hE:=Qy hLu1 hE
  replace hE:=hE.symm
  subst hE
  refine Q5v (Hr:=[_]) [0] Tryz.results58 ⟨rfl,rfl,rfl⟩ (asK [] rfl) rfl rfl (.inr rfl)
theorem Q7v (N:Nat) (a0:Int) (a1:Int) (qp0:Option Addr) (qn1:Nat) (qc2:Nat) (l2:List V) (k3:Nat) (o0:List V) (hm:Q3M N a0 a1 l2 k3 = some o0):Q1v Tryz.prog 102 [.agg #[.int .i64 a0,.int .i64 a1,.slice qp0 k3 qc2]] [] [.own 149 3 R_V (.slice qp0 qn1 qc2) l2] (fun v Φr Hr=>v = .tuple #[] ∧ Φr = [] ∧ Hr = [.own 149 3 R_V (.slice qp0 qn1 qc2) o0]):=by
 unfold Q3M at hm
 refine Qx Tryz.func102 rfl Tryz.ntmps102 rfl (S:=[_]) rfl (fun C=>(Q4 (Q1 (wB rfl (fun g1=>(Q3 (Q2 (Q5 [1] (S':=[_]) rfl (Q1 (wF rfl Q5e (wD 0 2 rfl Q1Z Q41 rfl (Q2n 1 rfl (fun hzqn1 _=>?_)))))))))))))
 subst hzqn1
 obtain ⟨v4,hc4,hm⟩:=Q6 hm
 refine wC [1] [0] rfl fn_58 rfl (Q5D N qp0 l2.length qc2 l2 k3 _ hc4) (asK [] rfl) rfl (H':=[_]) rfl ?_
 rintro _ _ _ ⟨rfl,rfl,rfl⟩
 refine Q3 ?_
 have hE:=(Option.some.inj hm).symm
 replace hE:=hE.symm
 subst hE
 refine Q5v (Hr:=[_]) [0] Tryz.results102 ⟨rfl,rfl,rfl⟩ (asK [] rfl) rfl rfl (.inr rfl)
theorem Q7l (N:Nat) (qp0:Option Addr) (qn1:Nat) (qc2:Nat) (l0:List FactDS) (k1:Nat) (o0:List FactDS) (hm:Q3F N l0 k1 = some o0):Q1v Tryz.prog 57 [.slice qp0 k1 qc2] [] [Qi QL 61 3 (.slice qp0 qn1 qc2) l0] (fun v Φr Hr=>v = .tuple #[] ∧ Φr = [] ∧ Hr = [Qi QL 61 3 (.slice qp0 qn1 qc2) o0]):=by
 unfold Q3F at hm
 refine Qx Tryz.func57 rfl Tryz.ntmps57 rfl (S:=[_]) rfl (fun C=>(Q4 ?_))
 obtain ⟨bj_1,hm,hLj_1⟩:=Q6 hm
 refine Q14 (σ:=List FactDS) (fun j_1_0_l=>bj_1 = j_1_0_l) (fun j_1_0_l=>[(0,.slice qp0 k1 qc2)]) (fun j_1_0_l=>[]) (fun j_1_0_l=>[Qi QL 61 3 (.slice qp0 qn1 qc2) j_1_0_l]) ?_ ?_
 ·
  refine Q4 (Q1 (wP rfl (Q3 (Q2 (Qc (QI (σ:=Nat × Nat × (List FactDS)) (fun (nu1,u1_2,u1_0_l)=>Q2s (Q33 N k1) nu1 (u1_2,u1_0_l) = some bj_1) (fun (nu1,u1_2,u1_0_l)=>nu1) (fun (nu1,u1_2,u1_0_l)=>[(2,.int .i64 ((u1_2:Nat):Int)),(0,.slice qp0 k1 qc2)]) (fun (nu1,u1_2,u1_0_l)=>[]) (fun (nu1,u1_2,u1_0_l)=>[Qi QL 61 3 (.slice qp0 qn1 qc2) u1_0_l]) (N,0,l0) hm [2,0] rfl (asK [] rfl) rfl (fun s_ hm=>?_)))))))
  obtain ⟨nu1,u1_2,u1_0_l⟩:=s_
  try dsimp only at hm ⊢
  obtain ⟨mu1,bu1,hnu1,hq,hLu1⟩:=Q1m hm
  clear hm
  subst hnu1
  replace hm:=hq
  clear hq
  unfold Q33 at hm
  try dsimp only at hm
  refine Q4 (Q4 (Q1 (wP rfl (wP rfl (wN rfl Q1s (wP rfl (Qr (d:=8) (v':=.bool (decide (u1_2 < k1))) (S':=[_,_,_,_,_]) rfl rfl (Q3a (a:=u1_2) (b:=k1)) (Q3 (Q2 (Q5 [8,2,0] (S':=[_,_,_]) rfl ?_))))))))))
  refine Qm rfl (fun hb8=>?_) (fun hb8=>?_)
  ·
   replace hm:=QQ hm hb8
   refine Q5 [2,0] (S':=[_,_]) rfl (Qj (Q2 (Q4 (Qc (Q1 (wP rfl (wP rfl (Q1q 0 rfl (fun zz13 hzz13=>?_)))))))))
   obtain ⟨x13,hx13,hm⟩:=Q6 hm
   obtain ⟨rr13,hrr13⟩:=Q5x hzz13 hx13
   obtain ⟨hq13,hm⟩:=Qq hm
   refine Q7U 1 u1_2 rfl rfl rfl (Q0 rfl) rfl rfl rfl rfl rfl hq13 (Q1X hrr13) Q1s Q1G (fun g13 eg13=>?_)
   subst eg13
   refine Qv [.own 149 3 R_V (.slice rr13.1 ((x13.args ++ x13.argsT).length) rr13.2) (x13.args ++ x13.argsT),QR QL zz13 (some u1_2),_] (fun _ h=>h.bagOpen 0 u1_2 rfl hrr13) (QU Q4W 2 u1_2 0 rfl rfl rfl (Q0 rfl) rfl rfl rfl hrr13 Q1G Q59 (v:=fun _=>.agg #[.int .i64 (x13.id),.int .i64 (x13.ty),.slice rr13.1 x13.args.length rr13.2]) (fun _=>rfl) (fun _=>rfl) (fun _ _=>?_))
   obtain ⟨v15,hc15,hm⟩:=Q6 hm
   refine wC [0] [1,2] rfl fn_102 rfl (Q7v N x13.id x13.ty rr13.1 ((x13.args ++ x13.argsT).length) rr13.2 (x13.args ++ x13.argsT) x13.args.length _ hc15) (asK [] rfl) rfl (H':=[_,_]) rfl ?_
   rintro _ _ _ ⟨rfl,rfl,rfl⟩
   refine Q3 (Qa (Q2 (Q5 [2,0] (S':=[_,_]) rfl (Q1 (wP rfl (wP rfl ?_))))))
   obtain ⟨hg10,hm⟩:=Qq hm
   refine Qr (d:=10) (v':=.int .i64 ((u1_2 + 1:Nat):Int)) (S':=[_,_,_]) rfl rfl (Qw (a:=u1_2) (b:=1) hg10) (Qs (S':=[_,_,_]) rfl rfl rfl rfl rfl (Q3 ?_))
   have hE:=(Option.some.inj hm).symm
   replace hE:=QZ hLu1 hE
   refine we_ownLen 0 rfl (fun hz2 _=>(Q87 0 (φ':=.own 149 3 R_V (.slice rr13.1 v15.length rr13.2) v15) rfl (by rw [hz2]) (H':=[_,_,_]) rfl ?_))
   have hzn3:(v15.take x13.args.length).length = x13.args.length:=Q3R (by first | (have hh:=congrArg (· + 0) hz2; simp only [List.length_append,List.length_set,List.length_take] at hh ⊢; omega) | (simp only [List.length_append,List.length_set,List.length_take]; omega))
   refine Q87 0 (φ':=.own 149 3 R_V (.slice rr13.1 ((v15.take x13.args.length ++ v15.drop x13.args.length).length) rr13.2) (v15.take x13.args.length ++ v15.drop x13.args.length)) rfl (by rw [List.take_append_drop]) (H':=[.own 149 3 R_V (.slice rr13.1 ((v15.take x13.args.length ++ v15.drop x13.args.length).length) rr13.2) (v15.take x13.args.length ++ v15.drop x13.args.length),QR QL zz13 (some u1_2),.own 61 3 QL.pair (.slice (some ⟨g13,0,none⟩) qn1 qc2) zz13]) rfl (Q3o [_,_,.own 61 3 QL.pair (.slice (some ⟨g13,0,none⟩) qn1 qc2) (zz13.set u1_2 ((⟨x13.id,x13.ty,v15.take x13.args.length,v15.drop x13.args.length⟩ : FactDS),rr13))] (fun _ h=>h.pairAs (zs:=zz13) (x:=x13) (r:=rr13) 2 rfl hrr13 (by show Q6C _ _ = Q6C _ _; simp only [Q6C,hzn3])) (Q3o [QR QL (zz13.set u1_2 ((⟨x13.id,x13.ty,v15.take x13.args.length,v15.drop x13.args.length⟩ : FactDS),rr13)) none,_] (fun _ h=>Qo.bagClose (T:=QL) (x:=(⟨x13.id,x13.ty,v15.take x13.args.length,v15.drop x13.args.length⟩ : FactDS)) (r:=rr13) (i:=u1_2) (zs:=zz13) (H:=[_,_]) h 0 rfl) ?_))
   have hzs4:List.map (fun x:FactDS × (Option Addr × Nat)=>x.1) (zz13.set u1_2 ((⟨x13.id,x13.ty,v15.take x13.args.length,v15.drop x13.args.length⟩ : FactDS),rr13)) = u1_0_l.set u1_2 (⟨x13.id,x13.ty,v15.take x13.args.length,v15.drop x13.args.length⟩ : FactDS):=Q54 hzz13
   refine Q3o [Qi QL 61 3 (.slice (some ⟨g13,0,none⟩) qn1 qc2) (u1_0_l.set u1_2 (⟨x13.id,x13.ty,v15.take x13.args.length,v15.drop x13.args.length⟩ : FactDS))] (fun _ h=>h.treeIn 1 0 rfl rfl rfl hzs4) ?_
   refine Q1n (_,u1_2 + 1,(u1_0_l.set u1_2 (⟨x13.id,x13.ty,v15.take x13.args.length,v15.drop x13.args.length⟩ : FactDS))) (Nat.lt_succ_self _) hE [2,0] rfl (asK [] rfl) rfl
  ·
   replace hm:=QP hm hb8
   refine Q5 [0] (S':=[_]) rfl (QH (Q8 (Q8 (Qh ?_))))
   have hE:=(Option.some.inj hm).symm
   replace hE:=Qy hLu1 hE
   refine Ql u1_0_l hE [0] rfl (asK [] rfl) rfl
 ·
  rintro j_1_0_l hE
  try dsimp only
  have hm:=hLj_1
  rw [hE] at hm
  refine Q4 (Q1 (wP rfl (wP rfl (wN rfl Q1s (wP rfl ?_)))))
  obtain ⟨hg19,hm⟩:=Qq hm
  refine Qr (d:=19) (v':=.int .i64 ((k1 + 12:Nat):Int)) (S':=[_,_,_,_]) rfl rfl (Qw (a:=k1) (b:=12) hg19) ?_
  obtain ⟨hg20,hm⟩:=Qq hm
  refine Q1q 0 rfl (fun zz20 hzz20=>?_)
  have hgt20:k1 + 12 ≤ zz20.length:=by rw [Q12 hzz20]; exact hg20
  refine Q6s 1 rfl (fun hsp20 hcm20=>(Q4T rfl rfl rfl (Q0 rfl) rfl rfl rfl rfl Q1s Q1G (Nat.le_trans hgt20 (by rw [← hcm20.2]; exact hcm20.1)) hsp20 (wP rfl (Q3 (Q2 (Q5 [3] (S':=[_]) rfl (Q4 (Q1 (wP rfl (Q3 (Q2 (Qc (Q6D [Qi QL 61 3 (.slice qp0 qn1 qc2) j_1_0_l] (fun _ h=>h.treeIn 1 0 rfl rfl rfl hzz20) (QI (σ:=Nat × Nat × (List FactDS)) (fun (nu2,u2_4,u2_3_l)=>Q2s (Q2X N k1) nu2 (u2_4,u2_3_l) = some o0) (fun (nu2,u2_4,u2_3_l)=>nu2) (fun (nu2,u2_4,u2_3_l)=>[(4,.int .i64 ((u2_4:Nat):Int)),(3,.slice qp0 (k1 + 12) qc2)]) (fun (nu2,u2_4,u2_3_l)=>[]) (fun (nu2,u2_4,u2_3_l)=>[Qi QL 61 3 (.slice qp0 qn1 qc2) u2_3_l]) (N,0,j_1_0_l) hm [4,3] rfl (asK [] rfl) rfl (fun s_ hm=>?_)))))))))))))))
  obtain ⟨nu2,u2_4,u2_3_l⟩:=s_
  try dsimp only at hm ⊢
  obtain ⟨mu2,bu2,hnu2,hq,hLu2⟩:=Q1m hm
  clear hm
  subst hnu2
  replace hm:=hq
  clear hq
  unfold Q2X at hm
  try dsimp only at hm
  refine Q4 (Q4 (Q1 (wP rfl (wP rfl (wN rfl Q1s (wP rfl (Qr (d:=24) (v':=.bool (decide (u2_4 < (k1 + 12)))) (S':=[_,_,_,_,_]) rfl rfl (Q3a (a:=u2_4) (b:=k1 + 12)) (Q3 (Q2 (Q5 [24,4,3] (S':=[_,_,_]) rfl ?_))))))))))
  refine Qm rfl (fun hb24=>?_) (fun hb24=>?_)
  ·
   replace hm:=QQ hm hb24
   refine Q5 [4,3] (S':=[_,_]) rfl (Qj (Q2 (Q4 (Qc (Q1 (wP rfl (wP rfl (wP rfl ?_))))))))
   obtain ⟨_,hc30,hm⟩:=Q6 hm
   try dsimp only at hm
   refine wC [] [0] rfl fn_96 rfl (Q3O N 2 ((u2_4:Nat):Int) hc30) (asK [] rfl) rfl (H':=[_]) rfl ?_
   rintro _ _ _ ⟨rfl,rfl,rfl⟩
   refine Q1q 0 rfl (fun zz31 hzz31=>?_)
   obtain ⟨x31,hx31,hm⟩:=Q6 hm
   obtain ⟨rr31,hrr31⟩:=Q5x hzz31 hx31
   obtain ⟨hq31,hm⟩:=Qq hm
   refine Q7U 1 u2_4 rfl rfl rfl (Q0 rfl) rfl rfl rfl rfl rfl hq31 (Q1X hrr31) Q1s Q1G (fun g31 eg31=>?_)
   subst eg31
   refine Qv [.own 149 3 R_V (.slice rr31.1 ((x31.args ++ x31.argsT).length) rr31.2) (x31.args ++ x31.argsT),QR QL zz31 (some u2_4),_] (fun _ h=>h.bagOpen 0 u2_4 rfl hrr31) (QM 149 3 R_V (Q15 0 (φ':=.own 149 3 R_V (.slice none ((([] : List V) ++ []).length) 0) (([] : List V) ++ [])) rfl rfl (H':=[_,_,_,_]) rfl (Q3r (u:=((⟨(IntKind.wrap .i64 ((IntKind.wrap .i64 (1000003 * (IntKind.wrap .i64 (2 + 7)))) + ((u2_4:Nat):Int))),0,([] : List V),[]⟩ : FactDS),(none,0))) 3 u2_4 rfl rfl rfl rfl rfl (Q1X hrr31) rfl rfl Q1G rfl (fun _ _ _=>rfl) (H':=[_,_,_,_]) rfl ?_)))
   have hrs10:(zz31.set u2_4 ((⟨(IntKind.wrap .i64 ((IntKind.wrap .i64 (1000003 * (IntKind.wrap .i64 (2 + 7)))) + ((u2_4:Nat):Int))),0,([] : List V),[]⟩ : FactDS),(none,0)))[u2_4]? = some ((⟨(IntKind.wrap .i64 ((IntKind.wrap .i64 (1000003 * (IntKind.wrap .i64 (2 + 7)))) + ((u2_4:Nat):Int))),0,([] : List V),[]⟩ : FactDS),(none,0)):=set_atZ hrr31
   have hzs10:List.map (fun x:FactDS × (Option Addr × Nat)=>x.1) (zz31.set u2_4 ((⟨(IntKind.wrap .i64 ((IntKind.wrap .i64 (1000003 * (IntKind.wrap .i64 (2 + 7)))) + ((u2_4:Nat):Int))),0,([] : List V),[]⟩ : FactDS),(none,0))) = u2_3_l.set u2_4 (⟨(IntKind.wrap .i64 ((IntKind.wrap .i64 (1000003 * (IntKind.wrap .i64 (2 + 7)))) + ((u2_4:Nat):Int))),0,([] : List V),[]⟩ : FactDS):=Q54 hzz31
   refine Q3 (Qa (Q2 (Q5 [4,3] (S':=[_,_]) rfl (Q1 (wP rfl (wP rfl ?_))))))
   obtain ⟨hg26,hm⟩:=Qq hm
   refine Qr (d:=26) (v':=.int .i64 ((u2_4 + 1:Nat):Int)) (S':=[_,_,_]) rfl rfl (Qw (a:=u2_4) (b:=1) hg26) (Qs (S':=[_,_,_]) rfl rfl rfl rfl rfl (Q3 ?_))
   have hE:=(Option.some.inj hm).symm
   replace hE:=QZ hLu2 hE
   refine Q3o [_,QR QL (zz31.set u2_4 ((⟨(IntKind.wrap .i64 ((IntKind.wrap .i64 (1000003 * (IntKind.wrap .i64 (2 + 7)))) + ((u2_4:Nat):Int))),0,([] : List V),[]⟩ : FactDS),(none,0))) none,_] (fun _ h=>Qo.bagClose (T:=QL) (x:=(⟨(IntKind.wrap .i64 ((IntKind.wrap .i64 (1000003 * (IntKind.wrap .i64 (2 + 7)))) + ((u2_4:Nat):Int))),0,([] : List V),[]⟩ : FactDS)) (r:=(none,0)) (i:=u2_4) (zs:=zz31) (H:=[_,_,_]) h 1 rfl) ?_
   have hzs11:List.map (fun x:FactDS × (Option Addr × Nat)=>x.1) (zz31.set u2_4 ((⟨(IntKind.wrap .i64 ((IntKind.wrap .i64 (1000003 * (IntKind.wrap .i64 (2 + 7)))) + ((u2_4:Nat):Int))),0,([] : List V),[]⟩ : FactDS),(none,0))) = u2_3_l.set u2_4 (⟨(IntKind.wrap .i64 ((IntKind.wrap .i64 (1000003 * (IntKind.wrap .i64 (2 + 7)))) + ((u2_4:Nat):Int))),0,([] : List V),[]⟩ : FactDS):=Q54 hzz31
   refine Q3o [_,Qi QL 61 3 (.slice (some ⟨g31,0,none⟩) qn1 qc2) (u2_3_l.set u2_4 (⟨(IntKind.wrap .i64 ((IntKind.wrap .i64 (1000003 * (IntKind.wrap .i64 (2 + 7)))) + ((u2_4:Nat):Int))),0,([] : List V),[]⟩ : FactDS))] (fun _ h=>h.treeIn 2 1 rfl rfl rfl hzs11) (QE [1] rfl (H':=[_]) rfl ?_)
   refine Q1n (_,u2_4 + 1,(u2_3_l.set u2_4 (⟨(IntKind.wrap .i64 ((IntKind.wrap .i64 (1000003 * (IntKind.wrap .i64 (2 + 7)))) + ((u2_4:Nat):Int))),0,([] : List V),[]⟩ : FactDS))) (Nat.lt_succ_self _) hE [4,3] rfl (asK [] rfl) rfl
  ·
   replace hm:=QP hm hb24
   refine Q5 [] (S':=[]) rfl (QH (Q8 (Q8 (Qh ?_))))
   have hE:=(Option.some.inj hm).symm
   replace hE:=Qy hLu2 hE
   replace hE:=hE.symm
   subst hE
   refine Q5v (Hr:=[_]) [0] Tryz.results57 ⟨rfl,rfl,rfl⟩ (asK [] rfl) rfl rfl (.inr rfl)
theorem Q5V (N:Nat) (a0:Int) (a1:Int) (qp0:Option Addr) (qn1:Nat) (qc2:Nat) (l2:List FactDS) (k3:Nat) (qp3:Option Addr) (qn4:Nat) (qc5:Nat) (l4:List V) (k5:Nat) (o0:List FactDS) (o1:List V) (hm:Q2U N a0 a1 l2 k3 l4 k5 = some (o0,o1)):Q1v Tryz.prog 36 [.agg #[.int .i64 a0,.int .i64 a1,.slice qp0 k3 qc2,.slice qp3 k5 qc5]] [] [Qi QL 61 3 (.slice qp0 qn1 qc2) l2,.own 149 3 R_V (.slice qp3 qn4 qc5) l4] (fun v Φr Hr=>v = .tuple #[] ∧ Φr = [] ∧ Hr = [Qi QL 61 3 (.slice qp0 qn1 qc2) o0,.own 149 3 R_V (.slice qp3 qn4 qc5) o1]):=by
 unfold Q2U at hm
 refine Qx Tryz.func36 rfl Tryz.ntmps36 rfl (S:=[_]) rfl (fun C=>(Q4 (Q1 (wB rfl (fun g1=>(Q3 (Q2 (Q5 [1] (S':=[_]) rfl (Q4 (Q1 (wF rfl Q4g (wD 0 2 rfl Q31 Q4R rfl (QG 1 rfl (fun hzt2 _=>?_))))))))))))))
 subst hzt2
 obtain ⟨v4,hc4,hm⟩:=Q6 hm
 refine wC [1] [0,2] rfl fn_57 rfl (Q7l N qp0 l2.length qc2 l2 k3 _ hc4) (asK [] rfl) rfl (H':=[_,_]) rfl ?_
 rintro _ _ _ ⟨rfl,rfl,rfl⟩
 refine Q3 (Q2 (Q5 [1] (S':=[_]) rfl (Q1 (wF rfl Q5b (wD 1 3 rfl Q1Z Q41 rfl (Q2n 2 rfl (fun hzqn4 _=>?_)))))))
 subst hzqn4
 obtain ⟨v7,hc7,hm⟩:=Q6 hm
 refine wC [2] [0,1] rfl fn_58 rfl (Q5D N qp3 l4.length qc5 l4 k5 _ hc7) (asK [] rfl) rfl (H':=[_,_]) rfl ?_
 rintro _ _ _ ⟨rfl,rfl,rfl⟩
 refine Q3 ?_
 have hE:=(Option.some.inj hm).symm
 obtain ⟨hE0,hE1⟩:=Prod.mk.inj hE
 clear hE
 replace hE0:=hE0.symm
 subst hE0
 replace hE1:=hE1.symm
 subst hE1
 refine Q5v (Hr:=[_,_]) [1,0] Tryz.results36 ⟨rfl,rfl,rfl⟩ (asK [] rfl) rfl rfl (.inr rfl)
theorem Q70 (N:Nat) (a0:Int) (a1:Int) (a2:Int) (a3:Int) (qp0:Option Addr) (qn1:Nat) (qc2:Nat) (l4:List FactDS) (k5:Nat) (qp3:Option Addr) (qn4:Nat) (qc5:Nat) (l6:List V) (k7:Nat) (o0:List FactDS) (o1:List V) (hm:Q3l N a0 a1 a2 a3 l4 k5 l6 k7 = some (o0,o1)):Q1v Tryz.prog 29 [.agg #[.int .i64 a0,.int .i64 a1,.int .i64 a2,.int .i64 a3,.slice qp0 k5 qc2,.slice qp3 k7 qc5]] [] [Qi QL 61 3 (.slice qp0 qn1 qc2) l4,.own 149 3 R_V (.slice qp3 qn4 qc5) l6] (fun v Φr Hr=>v = .tuple #[] ∧ Φr = [] ∧ Hr = [Qi QL 61 3 (.slice qp0 qn1 qc2) o0,.own 149 3 R_V (.slice qp3 qn4 qc5) o1]):=by
 unfold Q3l at hm
 refine Qx Tryz.func29 rfl Tryz.ntmps29 rfl (S:=[_]) rfl (fun C=>(Q4 (Q1 (wB rfl (fun g1=>(Q3 (Q2 (Q5 [1] (S':=[_]) rfl (Q1 (wF rfl Q4b (Q1e 0 2 rfl rfl rfl (Q0 rfl) rfl rfl rfl (cs:=[_,_,_,_]) rfl Q11 Q1W rfl rfl (QG 1 rfl (fun hzt1 _=>?_)))))))))))))
 subst hzt1
 refine Q2n 2 rfl (fun hzqn4 _=>?_)
 subst hzqn4
 obtain ⟨⟨v4_0,v4_1⟩,hc4,hm⟩:=Q6 hm
 try dsimp only at hm
 refine wC [1,2] [0] rfl fn_36 rfl (Q5V N a2 a3 qp0 l4.length qc2 l4 k5 qp3 l6.length qc5 l6 k7 _ _ hc4) (asK [] rfl) rfl (H':=[_]) rfl ?_
 rintro _ _ _ ⟨rfl,rfl,rfl⟩
 refine Q3 ?_
 have hE:=(Option.some.inj hm).symm
 obtain ⟨hE0,hE1⟩:=Prod.mk.inj hE
 clear hE
 replace hE0:=hE0.symm
 subst hE0
 replace hE1:=hE1.symm
 subst hE1
 refine Q5v (Hr:=[_,_]) [0,1] Tryz.results29 ⟨rfl,rfl,rfl⟩ (asK [] rfl) rfl rfl (.inr rfl)
theorem Q6W (N:Nat) (qp0:Option Addr) (qn1:Nat) (qc2:Nat) (l0:List SessDS) (k1:Nat) (o0:List SessDS) (hm:Q30 N l0 k1 = some o0):Q1v Tryz.prog 14 [.slice qp0 k1 qc2] [] [Qi Q18 35 6 (.slice qp0 qn1 qc2) l0] (fun v Φr Hr=>v = .tuple #[] ∧ Φr = [] ∧ Hr = [Qi Q18 35 6 (.slice qp0 qn1 qc2) o0]):=by
 unfold Q30 at hm
 refine Qx Tryz.func14 rfl Tryz.ntmps14 rfl (S:=[_]) rfl (fun C=>(Q4 ?_))
 obtain ⟨bj_1,hm,hLj_1⟩:=Q6 hm
 refine Q14 (σ:=List SessDS) (fun j_1_0_l=>bj_1 = j_1_0_l) (fun j_1_0_l=>[(0,.slice qp0 k1 qc2)]) (fun j_1_0_l=>[]) (fun j_1_0_l=>[Qi Q18 35 6 (.slice qp0 qn1 qc2) j_1_0_l]) ?_ ?_
 ·
  refine Q4 (Q1 (wP rfl (Q3 (Q2 (Qc (QI (σ:=Nat × Nat × (List SessDS)) (fun (nu1,u1_2,u1_0_l)=>Q2s (Q2q N k1) nu1 (u1_2,u1_0_l) = some bj_1) (fun (nu1,u1_2,u1_0_l)=>nu1) (fun (nu1,u1_2,u1_0_l)=>[(2,.int .i64 ((u1_2:Nat):Int)),(0,.slice qp0 k1 qc2)]) (fun (nu1,u1_2,u1_0_l)=>[]) (fun (nu1,u1_2,u1_0_l)=>[Qi Q18 35 6 (.slice qp0 qn1 qc2) u1_0_l]) (N,0,l0) hm [2,0] rfl (asK [] rfl) rfl (fun s_ hm=>?_)))))))
  obtain ⟨nu1,u1_2,u1_0_l⟩:=s_
  try dsimp only at hm ⊢
  obtain ⟨mu1,bu1,hnu1,hq,hLu1⟩:=Q1m hm
  clear hm
  subst hnu1
  replace hm:=hq
  clear hq
  unfold Q2q at hm
  try dsimp only at hm
  refine Q4 (Q4 (Q1 (wP rfl (wP rfl (wN rfl QB (wP rfl (Qr (d:=8) (v':=.bool (decide (u1_2 < k1))) (S':=[_,_,_,_,_]) rfl rfl (Q3a (a:=u1_2) (b:=k1)) (Q3 (Q2 (Q5 [8,2,0] (S':=[_,_,_]) rfl ?_))))))))))
  refine Qm rfl (fun hb8=>?_) (fun hb8=>?_)
  ·
   replace hm:=QQ hm hb8
   refine Q5 [2,0] (S':=[_,_]) rfl (Qj (Q2 (Q4 (Qc (Q1 (wP rfl (wP rfl (Q1q 0 rfl (fun zz13 hzz13=>?_)))))))))
   obtain ⟨x13,hx13,hm⟩:=Q6 hm
   obtain ⟨rr13,hrr13⟩:=Q5x hzz13 hx13
   obtain ⟨hq13,hm⟩:=Qq hm
   refine Q7U 1 u1_2 rfl rfl rfl (Q0 rfl) rfl rfl rfl rfl rfl hq13 (Q1X hrr13) QB QN (fun g13 eg13=>?_)
   subst eg13
   refine Qv [.own 149 3 R_V (.slice rr13.2.1 ((x13.r.said ++ x13.r.saidT).length) rr13.2.2) (x13.r.said ++ x13.r.saidT),Qi QL 61 3 (.slice rr13.1.1 ((x13.r.facts ++ x13.r.factsT).length) rr13.1.2) (x13.r.facts ++ x13.r.factsT),QR Q18 zz13 (some u1_2),_] (fun _ h=>h.bagOpen 0 u1_2 rfl hrr13) (QU Q4W 3 u1_2 0 rfl rfl rfl (Q0 rfl) rfl rfl rfl hrr13 QN Q4O (v:=fun _=>.agg #[.int .i64 (x13.id),.int .i64 (x13.seq),.int .i64 (x13.r.err),.int .i64 (x13.r.num),.slice rr13.1.1 x13.r.facts.length rr13.1.2,.slice rr13.2.1 x13.r.said.length rr13.2.2]) (fun _=>rfl) (fun _=>rfl) (fun _ _=>?_))
   obtain ⟨⟨v15_0,v15_1⟩,hc15,hm⟩:=Q6 hm
   try dsimp only at hm
   refine wC [1,0] [2,3] rfl fn_29 rfl (Q70 N x13.id x13.seq x13.r.err x13.r.num rr13.1.1 ((x13.r.facts ++ x13.r.factsT).length) rr13.1.2 (x13.r.facts ++ x13.r.factsT) x13.r.facts.length rr13.2.1 ((x13.r.said ++ x13.r.saidT).length) rr13.2.2 (x13.r.said ++ x13.r.saidT) x13.r.said.length _ _ hc15) (asK [] rfl) rfl (H':=[_,_]) rfl ?_
   rintro _ _ _ ⟨rfl,rfl,rfl⟩
   refine Q3 (Qa (Q2 (Q5 [2,0] (S':=[_,_]) rfl (Q1 (wP rfl (wP rfl ?_))))))
   obtain ⟨hg10,hm⟩:=Qq hm
   refine Qr (d:=10) (v':=.int .i64 ((u1_2 + 1:Nat):Int)) (S':=[_,_,_]) rfl rfl (Qw (a:=u1_2) (b:=1) hg10) (Qs (S':=[_,_,_]) rfl rfl rfl rfl rfl (Q3 ?_))
   have hE:=(Option.some.inj hm).symm
   replace hE:=QZ hLu1 hE
   refine we_treeLen 0 rfl (fun hzt3 _=>(Q87 0 (φ':=Qi QL 61 3 (.slice rr13.1.1 v15_0.length rr13.1.2) v15_0) rfl (by rw [hzt3]) (H':=[Qi QL 61 3 (.slice rr13.1.1 v15_0.length rr13.1.2) v15_0,.own 149 3 R_V (.slice rr13.2.1 ((x13.r.said ++ x13.r.saidT).length) rr13.2.2) v15_1,QR Q18 zz13 (some u1_2),.own 35 6 Q18.pair (.slice (some ⟨g13,0,none⟩) qn1 qc2) zz13]) rfl (we_ownLen 1 rfl (fun hz4 _=>(Q87 1 (φ':=.own 149 3 R_V (.slice rr13.2.1 v15_1.length rr13.2.2) v15_1) rfl (by rw [hz4]) (H':=[_,_,_,_]) rfl ?_)))))
   have hzn4:(v15_0.take x13.r.facts.length).length = x13.r.facts.length:=Q3R (by first | (have hh:=congrArg (· + 0) hzt3; simp only [List.length_append,List.length_set,List.length_take] at hh ⊢; omega) | (simp only [List.length_append,List.length_set,List.length_take]; omega))
   refine Q87 0 (φ':=Qi QL 61 3 (.slice rr13.1.1 ((v15_0.take x13.r.facts.length ++ v15_0.drop x13.r.facts.length).length) rr13.1.2) (v15_0.take x13.r.facts.length ++ v15_0.drop x13.r.facts.length)) rfl (by rw [List.take_append_drop]) (H':=[Qi QL 61 3 (.slice rr13.1.1 ((v15_0.take x13.r.facts.length ++ v15_0.drop x13.r.facts.length).length) rr13.1.2) (v15_0.take x13.r.facts.length ++ v15_0.drop x13.r.facts.length),.own 149 3 R_V (.slice rr13.2.1 v15_1.length rr13.2.2) v15_1,QR Q18 zz13 (some u1_2),.own 35 6 Q18.pair (.slice (some ⟨g13,0,none⟩) qn1 qc2) zz13]) rfl ?_
   have hzn5:(v15_1.take x13.r.said.length).length = x13.r.said.length:=Q3R (by first | (have hh:=congrArg (· + 0) hz4; simp only [List.length_append,List.length_set,List.length_take] at hh ⊢; omega) | (simp only [List.length_append,List.length_set,List.length_take]; omega))
   refine Q87 1 (φ':=.own 149 3 R_V (.slice rr13.2.1 ((v15_1.take x13.r.said.length ++ v15_1.drop x13.r.said.length).length) rr13.2.2) (v15_1.take x13.r.said.length ++ v15_1.drop x13.r.said.length)) rfl (by rw [List.take_append_drop]) (H':=[Qi QL 61 3 (.slice rr13.1.1 ((v15_0.take x13.r.facts.length ++ v15_0.drop x13.r.facts.length).length) rr13.1.2) (v15_0.take x13.r.facts.length ++ v15_0.drop x13.r.facts.length),.own 149 3 R_V (.slice rr13.2.1 ((v15_1.take x13.r.said.length ++ v15_1.drop x13.r.said.length).length) rr13.2.2) (v15_1.take x13.r.said.length ++ v15_1.drop x13.r.said.length),QR Q18 zz13 (some u1_2),.own 35 6 Q18.pair (.slice (some ⟨g13,0,none⟩) qn1 qc2) zz13]) rfl (Q3o [_,_,_,.own 35 6 Q18.pair (.slice (some ⟨g13,0,none⟩) qn1 qc2) (zz13.set u1_2 ((⟨x13.id,x13.seq,(⟨x13.r.err,x13.r.num,v15_0.take x13.r.facts.length,v15_0.drop x13.r.facts.length,v15_1.take x13.r.said.length,v15_1.drop x13.r.said.length⟩ : ReplyDS)⟩ : SessDS),rr13))] (fun _ h=>h.pairAs (zs:=zz13) (x:=x13) (r:=rr13) 3 rfl hrr13 (by show Q6I _ _ = Q6I _ _; simp only [Q6I,hzn4,hzn5])) (QE [1,0,2,3] rfl (H':=[_,_,_,_]) rfl (Q3o [QR Q18 (zz13.set u1_2 ((⟨x13.id,x13.seq,(⟨x13.r.err,x13.r.num,v15_0.take x13.r.facts.length,v15_0.drop x13.r.facts.length,v15_1.take x13.r.said.length,v15_1.drop x13.r.said.length⟩ : ReplyDS)⟩ : SessDS),rr13)) none,_] (fun _ h=>Qo.bagClose (T:=Q18) (x:=(⟨x13.id,x13.seq,(⟨x13.r.err,x13.r.num,v15_0.take x13.r.facts.length,v15_0.drop x13.r.facts.length,v15_1.take x13.r.said.length,v15_1.drop x13.r.said.length⟩ : ReplyDS)⟩ : SessDS)) (r:=rr13) (i:=u1_2) (zs:=zz13) (H:=[_,_]) h 0 rfl) ?_)))
   have hzs6:List.map (fun x:SessDS × ((Option Addr × Nat) × (Option Addr × Nat))=>x.1) (zz13.set u1_2 ((⟨x13.id,x13.seq,(⟨x13.r.err,x13.r.num,v15_0.take x13.r.facts.length,v15_0.drop x13.r.facts.length,v15_1.take x13.r.said.length,v15_1.drop x13.r.said.length⟩ : ReplyDS)⟩ : SessDS),rr13)) = u1_0_l.set u1_2 (⟨x13.id,x13.seq,(⟨x13.r.err,x13.r.num,v15_0.take x13.r.facts.length,v15_0.drop x13.r.facts.length,v15_1.take x13.r.said.length,v15_1.drop x13.r.said.length⟩ : ReplyDS)⟩ : SessDS):=Q54 hzz13
   refine Q3o [Qi Q18 35 6 (.slice (some ⟨g13,0,none⟩) qn1 qc2) (u1_0_l.set u1_2 (⟨x13.id,x13.seq,(⟨x13.r.err,x13.r.num,v15_0.take x13.r.facts.length,v15_0.drop x13.r.facts.length,v15_1.take x13.r.said.length,v15_1.drop x13.r.said.length⟩ : ReplyDS)⟩ : SessDS))] (fun _ h=>h.treeIn 1 0 rfl rfl rfl hzs6) ?_
   refine Q1n (_,u1_2 + 1,(u1_0_l.set u1_2 (⟨x13.id,x13.seq,(⟨x13.r.err,x13.r.num,v15_0.take x13.r.facts.length,v15_0.drop x13.r.facts.length,v15_1.take x13.r.said.length,v15_1.drop x13.r.said.length⟩ : ReplyDS)⟩ : SessDS))) (Nat.lt_succ_self _) hE [2,0] rfl (asK [] rfl) rfl
  ·
   replace hm:=QP hm hb8
   refine Q5 [0] (S':=[_]) rfl (QH (Q8 (Q8 (Qh ?_))))
   have hE:=(Option.some.inj hm).symm
   replace hE:=Qy hLu1 hE
   refine Ql u1_0_l hE [0] rfl (asK [] rfl) rfl
 ·
  rintro j_1_0_l hE
  try dsimp only
  have hm:=hLj_1
  rw [hE] at hm
  refine Q4 (Q1 (wP rfl (wP rfl (wN rfl QB (wP rfl ?_)))))
  obtain ⟨hg19,hm⟩:=Qq hm
  refine Qr (d:=19) (v':=.int .i64 ((k1 + 12:Nat):Int)) (S':=[_,_,_,_]) rfl rfl (Qw (a:=k1) (b:=12) hg19) ?_
  obtain ⟨hg20,hm⟩:=Qq hm
  refine Q1q 0 rfl (fun zz20 hzz20=>?_)
  have hgt20:k1 + 12 ≤ zz20.length:=by rw [Q12 hzz20]; exact hg20
  refine Q6s 1 rfl (fun hsp20 hcm20=>(Q4T rfl rfl rfl (Q0 rfl) rfl rfl rfl rfl QB QN (Nat.le_trans hgt20 (by rw [← hcm20.2]; exact hcm20.1)) hsp20 (wP rfl (Q3 (Q2 (Q5 [3] (S':=[_]) rfl (Q4 (Q1 (wP rfl (Q3 (Q2 (Qc (Q6D [Qi Q18 35 6 (.slice qp0 qn1 qc2) j_1_0_l] (fun _ h=>h.treeIn 1 0 rfl rfl rfl hzz20) (QI (σ:=Nat × Nat × (List SessDS)) (fun (nu2,u2_4,u2_3_l)=>Q2s (Q2x N k1) nu2 (u2_4,u2_3_l) = some o0) (fun (nu2,u2_4,u2_3_l)=>nu2) (fun (nu2,u2_4,u2_3_l)=>[(4,.int .i64 ((u2_4:Nat):Int)),(3,.slice qp0 (k1 + 12) qc2)]) (fun (nu2,u2_4,u2_3_l)=>[]) (fun (nu2,u2_4,u2_3_l)=>[Qi Q18 35 6 (.slice qp0 qn1 qc2) u2_3_l]) (N,0,j_1_0_l) hm [4,3] rfl (asK [] rfl) rfl (fun s_ hm=>?_)))))))))))))))
  obtain ⟨nu2,u2_4,u2_3_l⟩:=s_
  try dsimp only at hm ⊢
  obtain ⟨mu2,bu2,hnu2,hq,hLu2⟩:=Q1m hm
  clear hm
  subst hnu2
  replace hm:=hq
  clear hq
  unfold Q2x at hm
  try dsimp only at hm
  refine Q4 (Q4 (Q1 (wP rfl (wP rfl (wN rfl QB (wP rfl (Qr (d:=24) (v':=.bool (decide (u2_4 < (k1 + 12)))) (S':=[_,_,_,_,_]) rfl rfl (Q3a (a:=u2_4) (b:=k1 + 12)) (Q3 (Q2 (Q5 [24,4,3] (S':=[_,_,_]) rfl ?_))))))))))
  refine Qm rfl (fun hb24=>?_) (fun hb24=>?_)
  ·
   replace hm:=QQ hm hb24
   refine Q5 [4,3] (S':=[_,_]) rfl (Qj (Q2 (Q4 (Qc (Q1 (wP rfl (wP rfl (wP rfl ?_))))))))
   obtain ⟨_,hc30,hm⟩:=Q6 hm
   try dsimp only at hm
   refine wC [] [0] rfl fn_24 rfl (Q3f N 2 ((u2_4:Nat):Int) hc30) (asK [] rfl) rfl (H':=[_]) rfl ?_
   rintro _ _ _ ⟨rfl,rfl,rfl⟩
   refine Q1q 0 rfl (fun zz31 hzz31=>?_)
   obtain ⟨x31,hx31,hm⟩:=Q6 hm
   obtain ⟨rr31,hrr31⟩:=Q5x hzz31 hx31
   obtain ⟨hq31,hm⟩:=Qq hm
   refine Q7U 1 u2_4 rfl rfl rfl (Q0 rfl) rfl rfl rfl rfl rfl hq31 (Q1X hrr31) QB QN (fun g31 eg31=>?_)
   subst eg31
   refine Qv [.own 149 3 R_V (.slice rr31.2.1 ((x31.r.said ++ x31.r.saidT).length) rr31.2.2) (x31.r.said ++ x31.r.saidT),Qi QL 61 3 (.slice rr31.1.1 ((x31.r.facts ++ x31.r.factsT).length) rr31.1.2) (x31.r.facts ++ x31.r.factsT),QR Q18 zz31 (some u2_4),_] (fun _ h=>h.bagOpen 0 u2_4 rfl hrr31) (Qv [Qi QL 61 3 (.slice none 0 0) [],_,_,_,_] (fun _ h=>h.treeNil QL 61 3) (QM 149 3 R_V (Q15 1 (φ':=Qi QL 61 3 (.slice none ((([] : List FactDS) ++ []).length) 0) (([] : List FactDS) ++ [])) rfl rfl (H':=[_,_,_,_,_,_]) rfl (Q15 0 (φ':=.own 149 3 R_V (.slice none ((([] : List V) ++ []).length) 0) (([] : List V) ++ [])) rfl rfl (H':=[_,_,_,_,_,_]) rfl (Q3r (u:=((⟨(IntKind.wrap .i64 ((IntKind.wrap .i64 (1000003 * (IntKind.wrap .i64 (2 + 7)))) + ((u2_4:Nat):Int))),0,(⟨0,0,([] : List FactDS),[],([] : List V),[]⟩ : ReplyDS)⟩ : SessDS),((none,0),(none,0)))) 5 u2_4 rfl rfl rfl rfl rfl (Q1X hrr31) rfl rfl QN rfl (fun _ _ _=>rfl) (H':=[_,_,_,_,_,_]) rfl ?_)))))
   have hrs12:(zz31.set u2_4 ((⟨(IntKind.wrap .i64 ((IntKind.wrap .i64 (1000003 * (IntKind.wrap .i64 (2 + 7)))) + ((u2_4:Nat):Int))),0,(⟨0,0,([] : List FactDS),[],([] : List V),[]⟩ : ReplyDS)⟩ : SessDS),((none,0),(none,0))))[u2_4]? = some ((⟨(IntKind.wrap .i64 ((IntKind.wrap .i64 (1000003 * (IntKind.wrap .i64 (2 + 7)))) + ((u2_4:Nat):Int))),0,(⟨0,0,([] : List FactDS),[],([] : List V),[]⟩ : ReplyDS)⟩ : SessDS),((none,0),(none,0))):=set_atZ hrr31
   have hzs12:List.map (fun x:SessDS × ((Option Addr × Nat) × (Option Addr × Nat))=>x.1) (zz31.set u2_4 ((⟨(IntKind.wrap .i64 ((IntKind.wrap .i64 (1000003 * (IntKind.wrap .i64 (2 + 7)))) + ((u2_4:Nat):Int))),0,(⟨0,0,([] : List FactDS),[],([] : List V),[]⟩ : ReplyDS)⟩ : SessDS),((none,0),(none,0)))) = u2_3_l.set u2_4 (⟨(IntKind.wrap .i64 ((IntKind.wrap .i64 (1000003 * (IntKind.wrap .i64 (2 + 7)))) + ((u2_4:Nat):Int))),0,(⟨0,0,([] : List FactDS),[],([] : List V),[]⟩ : ReplyDS)⟩ : SessDS):=Q54 hzz31
   refine Q3 (Qa (Q2 (Q5 [4,3] (S':=[_,_]) rfl (Q1 (wP rfl (wP rfl ?_))))))
   obtain ⟨hg26,hm⟩:=Qq hm
   refine Qr (d:=26) (v':=.int .i64 ((u2_4 + 1:Nat):Int)) (S':=[_,_,_]) rfl rfl (Qw (a:=u2_4) (b:=1) hg26) (Qs (S':=[_,_,_]) rfl rfl rfl rfl rfl (Q3 ?_))
   have hE:=(Option.some.inj hm).symm
   replace hE:=QZ hLu2 hE
   refine Q3o [_,_,QR Q18 (zz31.set u2_4 ((⟨(IntKind.wrap .i64 ((IntKind.wrap .i64 (1000003 * (IntKind.wrap .i64 (2 + 7)))) + ((u2_4:Nat):Int))),0,(⟨0,0,([] : List FactDS),[],([] : List V),[]⟩ : ReplyDS)⟩ : SessDS),((none,0),(none,0)))) none,_] (fun _ h=>Qo.bagClose (T:=Q18) (x:=(⟨(IntKind.wrap .i64 ((IntKind.wrap .i64 (1000003 * (IntKind.wrap .i64 (2 + 7)))) + ((u2_4:Nat):Int))),0,(⟨0,0,([] : List FactDS),[],([] : List V),[]⟩ : ReplyDS)⟩ : SessDS)) (r:=((none,0),(none,0))) (i:=u2_4) (zs:=zz31) (H:=[_,_,_,_]) h 2 rfl) ?_
   have hzs13:List.map (fun x:SessDS × ((Option Addr × Nat) × (Option Addr × Nat))=>x.1) (zz31.set u2_4 ((⟨(IntKind.wrap .i64 ((IntKind.wrap .i64 (1000003 * (IntKind.wrap .i64 (2 + 7)))) + ((u2_4:Nat):Int))),0,(⟨0,0,([] : List FactDS),[],([] : List V),[]⟩ : ReplyDS)⟩ : SessDS),((none,0),(none,0)))) = u2_3_l.set u2_4 (⟨(IntKind.wrap .i64 ((IntKind.wrap .i64 (1000003 * (IntKind.wrap .i64 (2 + 7)))) + ((u2_4:Nat):Int))),0,(⟨0,0,([] : List FactDS),[],([] : List V),[]⟩ : ReplyDS)⟩ : SessDS):=Q54 hzz31
   refine Q3o [_,_,Qi Q18 35 6 (.slice (some ⟨g31,0,none⟩) qn1 qc2) (u2_3_l.set u2_4 (⟨(IntKind.wrap .i64 ((IntKind.wrap .i64 (1000003 * (IntKind.wrap .i64 (2 + 7)))) + ((u2_4:Nat):Int))),0,(⟨0,0,([] : List FactDS),[],([] : List V),[]⟩ : ReplyDS)⟩ : SessDS))] (fun _ h=>h.treeIn 3 2 rfl rfl rfl hzs13) (QE [2] rfl (H':=[_]) rfl ?_)
   refine Q1n (_,u2_4 + 1,(u2_3_l.set u2_4 (⟨(IntKind.wrap .i64 ((IntKind.wrap .i64 (1000003 * (IntKind.wrap .i64 (2 + 7)))) + ((u2_4:Nat):Int))),0,(⟨0,0,([] : List FactDS),[],([] : List V),[]⟩ : ReplyDS)⟩ : SessDS))) (Nat.lt_succ_self _) hE [4,3] rfl (asK [] rfl) rfl
  ·
   replace hm:=QP hm hb24
   refine Q5 [] (S':=[]) rfl (QH (Q8 (Q8 (Qh ?_))))
   have hE:=(Option.some.inj hm).symm
   replace hE:=Qy hLu2 hE
   replace hE:=hE.symm
   subst hE
   refine Q5v (Hr:=[_]) [0] Tryz.results14 ⟨rfl,rfl,rfl⟩ (asK [] rfl) rfl rfl (.inr rfl)
theorem Q8x (N:Nat) (a0:Int) (a1:Int) (o0:Int) (hm:Q4V N a0 a1 = some o0):Q1v Tryz.prog 30 [.int .i64 a0,.int .i64 a1] [] [] (fun v Φr Hr=>v = .int .i64 o0 ∧ Φr = [] ∧ Hr = []):=by
 unfold Q4V at hm
 refine Qx Tryz.func30 rfl Tryz.ntmps30 rfl (S:=[_,_]) rfl (fun C=>(Q4 (Q1 (wP rfl (Q3 (Q2 (Q5 [0,1] (S':=[_,_]) rfl (Q4 (Q4 (Q1 (wP rfl (wP rfl (Q3 (Q2 ?_))))))))))))))
 refine Q5 [6,0,1] (S':=[_,_,_]) rfl ?_
 refine Qm rfl (fun hb6=>?_) (fun hb6=>?_)
 ·
  replace hm:=QQ hm hb6
  refine Q5 [] (S':=[]) rfl (Q4 (Q1 (wP rfl (Q3 (Q2 (Qn (Qb ?_)))))))
  have hE:=(Option.some.inj hm).symm
  replace hE:=hE.symm
  subst hE
  refine Qp (Hr:=[]) [] Tryz.results30 (Qd rfl) ⟨rfl,rfl,rfl⟩ (asK [] rfl) rfl rfl (.inl rfl)
 ·
  replace hm:=QP hm hb6
  refine Q5 [0,1] (S':=[_,_]) rfl (Qj (Q2 (Q4 (Q1 (wP rfl (wP rfl ?_))))))
  obtain ⟨hg9,hm⟩:=Qq hm
  refine Q7J rfl rfl rfl (Q0 rfl) rfl rfl rfl (run_rem hg9) (Qs (S':=[_,_,_,_]) rfl rfl rfl rfl rfl (Q3 (Q2 (Q5 [0,1] (S':=[_,_]) rfl (Q4 ?_)))))
  obtain ⟨bj_1,hm,hLj_1⟩:=Q6 hm
  refine Q14 (σ:=Int) (fun j_1_0=>bj_1 = j_1_0) (fun j_1_0=>[(0,.int .i64 j_1_0)]) (fun j_1_0=>[]) (fun j_1_0=>[]) ?_ ?_
  ·
   refine Q4 (Q1 (wP rfl (wP rfl (Q3 (Q2 (Q5 [11,0,1] (S':=[_,_,_]) rfl ?_))))))
   refine Qm rfl (fun hb11=>?_) (fun hb11=>?_)
   ·
    replace hm:=QQ hm hb11
    refine Q5 [0,1] (S':=[_,_]) rfl (Q1 (wP rfl (wP rfl (wP rfl ?_))))
    obtain ⟨hg14,hm⟩:=Qq hm
    refine Qr (d:=14) (v':=.int .i64 ((Int.tmod a0 a1) + a1)) (S':=[_,_,_,_]) rfl rfl (i64_in hg14) (Qs (S':=[_,_,_,_]) rfl rfl rfl rfl rfl (Q3 ?_))
    have hE:=(Option.some.inj hm).symm
    refine Ql ((Int.tmod a0 a1) + a1) hE [0] rfl (asK [] rfl) rfl
   ·
    replace hm:=QP hm hb11
    refine Q5 [0] (S':=[_]) rfl (Qj ?_)
    have hE:=(Option.some.inj hm).symm
    refine Ql (Int.tmod a0 a1) hE [0] rfl (asK [] rfl) rfl
  ·
   rintro j_1_0 hE
   try dsimp only
   have hm:=hLj_1
   rw [hE] at hm
   refine Q4 (Q1 (wP rfl (wP rfl (Q3 (Q2 (Q5 [4] (S':=[_]) rfl (Qn ?_)))))))
   have hE:=(Option.some.inj hm).symm
   replace hE:=hE.symm
   subst hE
   refine Qp (Hr:=[]) [] Tryz.results30 (Qd rfl) ⟨rfl,rfl,rfl⟩ (asK [] rfl) rfl rfl (.inl rfl)
theorem Q43 (N:Nat) (qg0:Nat) (qp1:Option Addr) (qn2:Nat) (qc3:Nat) (l0:List SessD) (a1:Int)  (hm:Q1O N l0 a1 = some ()):Q1v Tryz.prog 42 [.pointer (some ⟨qg0,0,none⟩)] [] [.blk qg0 [.slice qp1 qn2 qc3,.int .i64 a1] 65,Qi Qe 35 6 (.slice qp1 qn2 qc3) l0] (fun v Φr Hr=>v = .bool (decide (a1 > 0)) ∧ Φr = [] ∧ Hr = [.blk qg0 [.slice qp1 qn2 qc3,.int .i64 a1] 65,Qi Qe 35 6 (.slice qp1 qn2 qc3) l0]):=by
 unfold Q1O at hm
 refine Qx Tryz.func42 rfl Tryz.ntmps42 rfl (S:=[_]) rfl (fun C=>(Q4 (Q1 (wP rfl (Q3 (Q2 (Q5 [0] (S':=[_]) rfl (Q4 (Q1 (wP rfl (Q7J rfl rfl rfl (Q0 rfl) rfl rfl rfl (neqP tQ_38 _ _ _) (wP rfl (wP rfl (wP rfl ?_))))))))))))))
 refine wF rfl Q67 (wD 0 1 rfl Q1g Q1D rfl (wP rfl (wP rfl (wP rfl (Q3 (Q2 (Q5 [2] (S':=[_]) rfl (Qn ?_))))))))
 have hE:=(Option.some.inj hm).symm
 refine Qp (Hr:=[_,_]) [0,1] Tryz.results42 (Qd rfl) ⟨rfl,rfl,rfl⟩ (asK [] rfl) rfl rfl (.inl rfl)
theorem Q7x (N:Nat) (qg0:Nat) (qp1:Option Addr) (qn2:Nat) (qc3:Nat) (l0:List SessD) (a1:Int) (o0:Int) (o1:Nat) (o4:List SessD) (o6:Int) (hm:Q3T N l0 a1 = some (o0,o1,o4,o6)):Q1v Tryz.prog 19 [.pointer (some ⟨qg0,0,none⟩)] [] [.blk qg0 [.slice qp1 qn2 qc3,.int .i64 a1] 65,Qi Qe 35 6 (.slice qp1 qn2 qc3) l0] (fun v Φr Hr=>∃ (o2:Option Addr) (o3:Nat) (o5:Nat),v = .tuple #[.int .i64 o0,.int .i64 ((o1:Nat):Int)] ∧ Φr = [] ∧ Hr = [.blk qg0 [.slice o2 o5 o3,.int .i64 o6] 65,Qi Qe 35 6 (.slice o2 o5 o3) o4]):=by
 unfold Q3T at hm
 refine Qx Tryz.func19 rfl Tryz.ntmps19 rfl (S:=[_]) rfl (fun C=>(Q4 (Q1 (wP rfl (wP rfl (Q3 (Q2 (Q5 [0] (S':=[_]) rfl (Q4 (Qc (Q4 (Q1 (wP rfl ?_)))))))))))))
 obtain ⟨_,hc6,hm⟩:=Q6 hm
 try dsimp only at hm
 refine wC [0,1] [] rfl fn_42 rfl (Q43 N qg0 qp1 qn2 qc3 l0 a1 hc6) (asK [] rfl) rfl (H':=[]) rfl ?_
 rintro _ _ _ ⟨rfl,rfl,rfl⟩
 refine wP rfl (wP rfl (Q3 (Q2 (Q5 [4,0] (S':=[_,_]) rfl ?_))))
 refine Qm rfl (fun hb4=>?_) (fun hb4=>?_)
 ·
  replace hm:=QQ hm hb4
  refine Q5 [] (S':=[]) rfl (Q4 (Q1 (wP rfl (wP rfl (Q3 (Q2 (Qn (Qu (Qb ?_)))))))))
  have hE:=(Option.some.inj hm).symm
  obtain ⟨hE0,hF1⟩:=Prod.mk.inj hE
  obtain ⟨hE1,hF2⟩:=Prod.mk.inj hF1
  obtain ⟨hE2,hE3⟩:=Prod.mk.inj hF2
  clear hE hF1 hF2
  replace hE0:=hE0.symm
  subst hE0
  replace hE1:=hE1.symm
  subst hE1
  replace hE2:=hE2.symm
  subst hE2
  replace hE3:=hE3.symm
  subst hE3
  refine Q4z (Hr:=[_,_]) [0,1] Tryz.results19 (Qd rfl) (Qd rfl) ⟨qp1,qc3,qn2,rfl,rfl,rfl⟩ (asK [] rfl) rfl rfl (.inl rfl)
 ·
  replace hm:=QP hm hb4
  refine Q5 [0] (S':=[_]) rfl (Q4 ?_)
  obtain ⟨bj_1,hm,hLj_1⟩:=Q6 hm
  refine Q14 (σ:=Bool) (fun j_1_8=>bj_1 = j_1_8) (fun j_1_8=>[(0,.pointer (some ⟨qg0,0,none⟩)),(8,.bool j_1_8)]) (fun j_1_8=>[]) (fun j_1_8=>[.blk qg0 [.slice qp1 qn2 qc3,.int .i64 a1] 65,Qi Qe 35 6 (.slice qp1 qn2 qc3) l0]) ?_ ?_
  ·
   refine Q1 (wP rfl (wP rfl (wF rfl Q4t (wF rfl Q4r (wD 0 0 rfl Q1L Q3Q rfl (QG 1 rfl (fun hzt4 _=>?_)))))))
   subst hzt4
   refine wN rfl QB (wP rfl (Qr (d:=15) (v':=.bool (decide (32 ≤ l0.length))) (S':=[_,_,_,_,_,_,_]) rfl rfl (Q7r (a:=l0.length) (b:=32)) (wP rfl ?_)))
   refine QA (d:=16) (S':=[_,_,_,_,_,_,_,_]) rfl rfl (fun hs16=>?_) (fun hs16=>?_)
   ·
    replace hm:=QQ hm hs16
    refine wO rfl (wO rfl (wO rfl (wO rfl (wO rfl (wP rfl (wP rfl (Q3 ?_)))))))
    have hE:=(Option.some.inj hm).symm
    refine Ql true hE [0,8] rfl (asK [] rfl) rfl
   ·
    replace hm:=QP hm hs16
    refine wP rfl (wP rfl (wF rfl Q67 (wD 0 1 rfl Q1g Q1D rfl (wP rfl (wP rfl (wP rfl (Q3 ?_)))))))
    have hE:=(Option.some.inj hm).symm
    refine Ql (decide (a1 > 1099511627776)) hE [0,8] rfl (asK [] rfl) rfl
  ·
   rintro j_1_8 hE
   try dsimp only
   have hm:=hLj_1
   rw [hE] at hm
   refine Qm rfl (fun hb8=>?_) (fun hb8=>?_)
   ·
    replace hm:=QQ hm hb8
    refine Q5 [] (S':=[]) rfl (Q4 (Q1 (wP rfl (wP rfl (Q3 (Q2 (Qn (Qu (Qb ?_)))))))))
    have hE:=(Option.some.inj hm).symm
    obtain ⟨hE0,hF1⟩:=Prod.mk.inj hE
    obtain ⟨hE1,hF2⟩:=Prod.mk.inj hF1
    obtain ⟨hE2,hE3⟩:=Prod.mk.inj hF2
    clear hE hF1 hF2
    replace hE0:=hE0.symm
    subst hE0
    replace hE1:=hE1.symm
    subst hE1
    replace hE2:=hE2.symm
    subst hE2
    replace hE3:=hE3.symm
    subst hE3
    refine Q4z (Hr:=[_,_]) [0,1] Tryz.results19 (Qd rfl) (Qd rfl) ⟨qp1,qc3,qn2,rfl,rfl,rfl⟩ (asK [] rfl) rfl rfl (.inl rfl)
   ·
    replace hm:=QP hm hb8
    refine Q5 [0] (S':=[_]) rfl (Qj (Qa (Q2 (Q4 ?_))))
    obtain ⟨hg35,hm⟩:=Qq hm
    refine Q1l [0,1,2,3,4,5,6,7,8,9,10,13,14,15] rfl rfl (fun hok=>(xP hok 0 rfl (xP hok 1 rfl (xP hok 2 rfl (Qz hok 3 rfl rfl rfl (Q0 rfl) rfl rfl rfl Q4t (Qz hok 4 rfl rfl rfl (Q0 rfl) rfl rfl rfl Q4r (Q1R hok 5 0 0 rfl rfl rfl (Q0 rfl) rfl rfl rfl rfl (cs:=[_]) rfl Q1L Q3Q rfl rfl (xP hok 6 rfl (xP hok 7 rfl (Qz hok 8 rfl rfl rfl (Q0 rfl) rfl rfl rfl Q67 (Q1R hok 9 0 1 rfl rfl rfl (Q0 rfl) rfl rfl rfl rfl (cs:=[_]) rfl Q1g Q1D rfl rfl (Q4Q hok 10 rfl rfl rfl (Q0 rfl) rfl rfl Q4G tP_35 rfl (out:=[_,_,_,_,_,_]) rfl (xS hok 11 rfl (QJ rfl rfl rfl (Q0 rfl) rfl QB QN Q4G rfl (zs:=[.int .i64 0,.int .i64 0,.int .i64 0,.int .i64 0,.slice none 0 0,.slice none 0 0]) (by kernel_rfl) rfl (out:=[_,_,_,_,_,_]) rfl (fun g34=>?_)))))))))))))))
    refine Q3 (QT [] [1,1] rfl rfl (xS hok 12 rfl (QG 2 rfl (fun hzt8 _=>?_))))
    subst hzt8
    refine Qv [Qi Qf 61 3 (.slice none 0 0) [],_,_,_] (fun _ h=>h.treeNil Qf 61 3) (QM 149 3 R_V (Q1q 4 rfl (fun zz35 hzz35=>?_)))
    have hzs2:List.map (fun x:SessD × ((Option Addr × Nat) × (Option Addr × Nat))=>x.1) (zz35 ++ [((⟨a1,0,(⟨0,0,[],[]⟩ : ReplyD)⟩ : SessD),((none,0),(none,0)))]) = l0 ++ [(⟨a1,0,(⟨0,0,[],[]⟩ : ReplyD)⟩ : SessD)]:=Q5I hzz35 (us:=[(⟨a1,0,(⟨0,0,[],[]⟩ : ReplyD)⟩ : SessD)]) rfl
    have hgl35:zz35.length + ([((⟨a1,0,(⟨0,0,[],[]⟩ : ReplyD)⟩ : SessD),((none,0),(none,0)))] : List (SessD × ((Option Addr × Nat) × (Option Addr × Nat)))).length ≤ 1759218604441:=by rw [Q12 hzz35]; exact hg35
    refine Q3c (R:=Qe.pair) ([((⟨a1,0,(⟨0,0,[],[]⟩ : ReplyD)⟩ : SessD),((none,0),(none,0)))]) 5 3 rfl rfl rfl (Q0 rfl) rfl rfl rfl rfl rfl (fun F w hφ=>⟨[.int .i64 a1,.int .i64 0,.int .i64 0,.int .i64 0,.slice none 0 0,.slice none 0 0],[],rfl,rfl,rfl,rfl⟩) QB Q6Q rfl rfl (Nat.le_trans hgl35 (by decide)) (Nat.le_trans (Nat.mul_le_mul_right _ hgl35) (by decide)) (H2:=fun p35 c35=>[_,_,_,_,_,.own 35 6 Qe.pair (.slice p35 ((zz35 ++ [((⟨a1,0,(⟨0,0,[],[]⟩ : ReplyD)⟩ : SessD),((none,0),(none,0)))]).length) c35) (zz35 ++ [((⟨a1,0,(⟨0,0,[],[]⟩ : ReplyD)⟩ : SessD),((none,0),(none,0)))])]) (fun _ _=>rfl) (fun p35 c35=>(Q2k 3 rfl (H':=[_,_,_,_,_]) rfl (Qr (d:=35) (v':=.slice p35 ((l0 ++ [(⟨a1,0,(⟨0,0,[],[]⟩ : ReplyD)⟩ : SessD)]).length) c35) (S':=[_,_,_,_,_,_,_,_,_,_,_,_,_]) rfl rfl (by rw [Q12 hzs2]) (Q15 4 (φ':=.own 35 6 Qe.pair (.slice p35 ((l0 ++ [(⟨a1,0,(⟨0,0,[],[]⟩ : ReplyD)⟩ : SessD)]).length) c35) (zz35 ++ [((⟨a1,0,(⟨0,0,[],[]⟩ : ReplyD)⟩ : SessD),((none,0),(none,0)))])) rfl (by rw [Q12 hzs2]) (H':=[_,_,_,_,_]) rfl (Q13 [1,2,0,3,4] rfl (H':=[_,_,_,_,_]) rfl (Qv [QR Qe (zz35 ++ [((⟨a1,0,(⟨0,0,[],[]⟩ : ReplyD)⟩ : SessD),((none,0),(none,0)))]) none,_,_] (fun _ h=>Qo.bagPush (T:=Qe) (x:=(⟨a1,0,(⟨0,0,[],[]⟩ : ReplyD)⟩ : SessD)) (r:=((none,0),(none,0))) (zs:=zz35) (H:=[_,_,_]) h 0 rfl) (Qv [_,Qi Qe 35 6 (.slice p35 ((l0 ++ [(⟨a1,0,(⟨0,0,[],[]⟩ : ReplyD)⟩ : SessD)]).length) c35) (l0 ++ [(⟨a1,0,(⟨0,0,[],[]⟩ : ReplyD)⟩ : SessD)])] (fun _ h=>h.treeIn 2 0 rfl rfl rfl hzs2) (Q3 (QT [] [0] rfl rfl (xP hok 13 rfl (Qz hok 14 rfl rfl rfl (Q0 rfl) rfl rfl rfl Q4t (Qz hok 15 rfl rfl rfl (Q0 rfl) rfl rfl rfl Q4r (xS hok 16 rfl (wS 0 0 rfl Q1L (all':=[_,_]) rfl (H':=[_,_]) rfl ?_))))))))))))))
    refine Q3 (QT [] [] rfl rfl (Q19 hok rfl (Q2 (Q5 [0] (S':=[_]) rfl (Q4 (Q1 (wP rfl (wP rfl (wF rfl Q67 (wD 0 1 rfl Q1g Q1D rfl (wP rfl ?_)))))))))))
    obtain ⟨hg43,hm⟩:=Qq hm
    refine Qr (d:=43) (v':=.int .i64 (a1 + 1)) (S':=[_,_,_,_,_]) rfl rfl (i64_in hg43) (wP rfl (wF rfl Q67 (wS 0 1 rfl Q1g (all':=[_,_]) rfl (H':=[_,_]) rfl (Q3 (Q2 (Q5 [0] (S':=[_]) rfl (Q4 (Q1 (wP rfl (wP rfl (wF rfl Q67 (wD 0 1 rfl Q1g Q1D rfl (wP rfl ?_)))))))))))))
    obtain ⟨hg50,hm⟩:=Qq hm
    refine Qr (d:=50) (v':=.int .i64 ((a1 + 1) - 1)) (S':=[_,_,_,_,_]) rfl rfl (i64_in hg50) (wP rfl (wP rfl (Q3 (Q2 (Q5 [3,2] (S':=[_,_]) rfl (Qn ?_))))))
    have hE:=(Option.some.inj hm).symm
    obtain ⟨hE0,hF1⟩:=Prod.mk.inj hE
    obtain ⟨hE1,hF2⟩:=Prod.mk.inj hF1
    obtain ⟨hE2,hE3⟩:=Prod.mk.inj hF2
    clear hE hF1 hF2
    replace hE0:=hE0.symm
    subst hE0
    replace hE1:=hE1.symm
    subst hE1
    replace hE2:=hE2.symm
    subst hE2
    replace hE3:=hE3.symm
    subst hE3
    refine Q4z (Hr:=[_,_]) [0,1] Tryz.results19 (Qd rfl) (Qd rfl) ⟨p35,c35,(l0 ++ [(⟨a1,0,(⟨0,0,[],[]⟩ : ReplyD)⟩ : SessD)]).length,rfl,rfl,rfl⟩ (asK [] rfl) rfl rfl (.inl rfl)
theorem Q7Y (N:Nat) (qg0:Nat) (qp1:Option Addr) (qn2:Nat) (qc3:Nat) (l0:List SessD) (a1:Int) (a2:Int) (o0:Int) (hm:Q4p N l0 a1 a2 = some o0):Q1v Tryz.prog 92 [.pointer (some ⟨qg0,0,none⟩),.int .i64 a2] [] [.blk qg0 [.slice qp1 qn2 qc3,.int .i64 a1] 65,Qi Qe 35 6 (.slice qp1 qn2 qc3) l0] (fun v Φr Hr=>v = .int .i64 o0 ∧ Φr = [] ∧ Hr = [.blk qg0 [.slice qp1 qn2 qc3,.int .i64 a1] 65,Qi Qe 35 6 (.slice qp1 qn2 qc3) l0]):=by
 unfold Q4p at hm
 refine Qx Tryz.func92 rfl Tryz.ntmps92 rfl (S:=[_,_]) rfl (fun C=>(Q4 (Q1 (wB rfl (fun g3=>(wP rfl (Q3 (Q2 (Q5 [3,0] (S':=[_,_]) rfl (Q4 (Q1 (wP rfl (wP rfl (wF rfl Q4r (wD 1 0 rfl Q1L Q3Q rfl ?_)))))))))))))))
 refine wl_makeFunc rfl rfl rfl (Q0 rfl) rfl rfl (QG 2 rfl (fun hzt2 _=>?_))
 subst hzt2
 obtain ⟨v10,hc10,hm⟩:=Q6 hm
 refine Q3h [0] [1,2] [2] rfl rfl rfl (Q0 rfl) rfl rfl fn_142 rfl (Q5C N qp1 qc3 l0 g3 a2 _ hc10) (fun F w hφ hh=>(QD (Q1M Q2z (hh _ (QS (k:=0) rfl)) (fun _ h=>h) (fun _ h=>h)) Q1f)) (fun _ _ _ hR=>by obtain ⟨rfl,rfl,rfl⟩:=hR; exact ⟨rfl,(Q4B (Q8p) (fun _ h=>Q2h h))⟩) rfl rfl (H':=[_,_]) rfl ?_
 rintro _ _ _ ⟨rfl,rfl,rfl⟩
 refine wP rfl (Q3 (Q2 (Q5 [4] (S':=[_]) rfl (Qn ?_))))
 have hE:=(Option.some.inj hm).symm
 replace hE:=hE.symm
 subst hE
 refine Qp (Hr:=[_,_]) [1,2] Tryz.results92 (Qd rfl) ⟨rfl,rfl,rfl⟩ (asK [] rfl) rfl rfl (.inl rfl)
theorem Q5p (N:Nat) (qg0:Nat) (qp1:Option Addr) (qn2:Nat) (qc3:Nat) (l0:List SessD) (a1:Int) (a2:Int) (o0:Int) (o1:Nat) (hm:Q2j N l0 a1 a2 = some (o0,o1)):Q1v Tryz.prog 45 [.pointer (some ⟨qg0,0,none⟩),.int .i64 a2] [] [.blk qg0 [.slice qp1 qn2 qc3,.int .i64 a1] 65,Qi Qe 35 6 (.slice qp1 qn2 qc3) l0] (fun v Φr Hr=>v = .tuple #[.int .i64 o0,.int .i64 ((o1:Nat):Int)] ∧ Φr = [] ∧ Hr = [.blk qg0 [.slice qp1 qn2 qc3,.int .i64 a1] 65,Qi Qe 35 6 (.slice qp1 qn2 qc3) l0]):=by
 unfold Q2j at hm
 refine Qx Tryz.func45 rfl Tryz.ntmps45 rfl (S:=[_,_]) rfl (fun C=>(Q4 (Q1 (wP rfl (wP rfl (Q3 (Q2 (Q5 [0,1] (S':=[_,_]) rfl (Q4 (Q4 (Q1 (wP rfl ?_))))))))))))
 obtain ⟨_,hc8,hm⟩:=Q6 hm
 try dsimp only at hm
 refine wC [0,1] [] rfl fn_42 rfl (Q43 N qg0 qp1 qn2 qc3 l0 a1 hc8) (asK [] rfl) rfl (H':=[]) rfl ?_
 rintro _ _ _ ⟨rfl,rfl,rfl⟩
 refine wP rfl (Q3 (Q2 (Q5 [9,0,1] (S':=[_,_,_]) rfl ?_)))
 refine Qm rfl (fun hb9=>?_) (fun hb9=>?_)
 ·
  replace hm:=QQ hm hb9
  refine Q5 [] (S':=[]) rfl (Q4 (Q1 (wP rfl (wP rfl (Q3 (Q2 (Qn (Qb ?_))))))))
  have hE:=(Option.some.inj hm).symm
  obtain ⟨hE0,hE1⟩:=Prod.mk.inj hE
  clear hE
  replace hE0:=hE0.symm
  subst hE0
  replace hE1:=hE1.symm
  subst hE1
  refine Q4z (Hr:=[_,_]) [0,1] Tryz.results45 (Qd rfl) (Qd rfl) ⟨rfl,rfl,rfl⟩ (asK [] rfl) rfl rfl (.inl rfl)
 ·
  replace hm:=QP hm hb9
  refine Q5 [0,1] (S':=[_,_]) rfl (Qj (Q2 (Q4 (Q1 (wP rfl (wP rfl (wF rfl Q4t (wP rfl ?_))))))))
  obtain ⟨v14,hc14,hm⟩:=Q6 hm
  refine wC [0,1] [] rfl fn_92 rfl (Q7Y N qg0 qp1 qn2 qc3 l0 a1 a2 _ hc14) (asK [] rfl) rfl (H':=[]) rfl ?_
  rintro _ _ _ ⟨rfl,rfl,rfl⟩
  refine wP rfl (Q3 (Q2 (Q5 [6] (S':=[_]) rfl (Q4 (Q4 (Q1 (wP rfl (wP rfl (Q3 (Q2 (Q5 [16,6] (S':=[_,_]) rfl ?_)))))))))))
  refine Qm rfl (fun hb16=>?_) (fun hb16=>?_)
  ·
   replace hm:=QQ hm hb16
   refine Q5 [] (S':=[]) rfl (Q4 (Q1 (wP rfl (wP rfl (Q3 (Q2 (Qn (Qb ?_))))))))
   have hE:=(Option.some.inj hm).symm
   obtain ⟨hE0,hE1⟩:=Prod.mk.inj hE
   clear hE
   replace hE0:=hE0.symm
   subst hE0
   replace hE1:=hE1.symm
   subst hE1
   refine Q4z (Hr:=[_,_]) [0,1] Tryz.results45 (Qd rfl) (Qd rfl) ⟨rfl,rfl,rfl⟩ (asK [] rfl) rfl rfl (.inl rfl)
  ·
   replace hm:=QP hm hb16
   refine Q5 [6] (S':=[_]) rfl (Qj (Q2 (Q4 (Q1 (wP rfl (wP rfl (wP rfl (Q3 (Q2 (Q5 [5,4] (S':=[_,_]) rfl (Qn ?_)))))))))))
   have hE:=(Option.some.inj hm).symm
   obtain ⟨hE0,hE1⟩:=Prod.mk.inj hE
   clear hE
   replace hE0:=hE0.symm
   subst hE0
   replace hE1:=hE1.symm
   subst hE1
   refine Q4z (Hr:=[_,_]) [0,1] Tryz.results45 (Qd rfl) (Qd rfl) ⟨rfl,rfl,rfl⟩ (asK [] rfl) rfl rfl (.inl rfl)
theorem Delete47T_SessD_n (p:Option Addr) (c k:Nat) (L:List (SessD × ((Option Addr × Nat) × (Option Addr × Nat)))) (hk:k < L.length):Q1v Tryz.prog 47 [.slice p L.length c,.int .i64 ((k:Nat):Int),.int .i64 ((k + 1:Nat):Int)] [] [.own 35 6 Qe.pair (.slice p L.length c) L] (fun v Φr Hr=>∃ p' c',v = .slice p' (L.take k ++ L.drop (k + 1)).length c' ∧ Φr = [] ∧ Hr = [.own 35 6 Qe.pair v (L.take k ++ L.drop (k + 1))]):=by
 refine Qx Tryz.func47 rfl Tryz.ntmps47 rfl (S:=[_,_,_]) rfl (fun C=>(wc_ownSome 0 rfl (by omega) (fun g0 e0 hc1 hc2=>?_)))
 subst e0
 refine Q4 (Q1 (wP rfl (Q3 (Q2 (Q4 (Q1 (wP rfl (wP rfl (wP rfl (wP rfl (wN rfl QB (wl_slice3 rfl rfl rfl (Q0 rfl) rfl rfl rfl rfl rfl rfl rfl rfl QB QN (by omega) (by omega) (by omega) (fun a13=>(Q3 ?_))))))))))))))
 refine Q2 (Q5 [6,0,1,2] (S':=[_,_,_,_]) rfl (Q4 (Q4 (Q1 (wP rfl (wP rfl (wP rfl (Q3 (Q2 (Q5 [16,6,0,1,2] (S':=[_,_,_,_,_]) rfl ?_))))))))))
 refine Qm rfl (fun h16=>?_) (fun h16=>?_)
 ·
  replace h16:=eq_of_beq h16
  exfalso
  omega
 ·
  replace h16:=ne_of_beq_false h16
  refine Qj (Q2 (Q4 (Q1 (wP rfl (wN rfl QB (wP rfl (Q3 (Q2 (Q5 [7,16,6,0,1,2] (S':=[_,_,_,_,_,_]) rfl (Q4 ?_))))))))))
  refine Q14 (σ:=Addr) (fun a25=>k + 1 < c → a25 = ⟨g0,(k + 1) * 6,none⟩) (fun a25=>[(0,.slice (some ⟨g0,0,none⟩) ((L.take k ++ L.drop (k + 1)).length) c),(7,.int .i64 ((L.length:Nat):Int)),(16,.bool (((k:Nat):Int) == ((k + 1:Nat):Int))),(6,.slice none 0 0),(1,.int .i64 ((k:Nat):Int)),(2,.int .i64 ((k + 1:Nat):Int))]) (fun a25=>[]) (fun a25=>[.own 35 6 Qe.pair (.slice (some ⟨g0,0,none⟩) ((L.take k ++ L.drop (k + 1)).length) c) (L.take k ++ L.drop (k + 1))]) ?_ ?_
  ·
   refine Q1l [0,1,3,4] rfl rfl (fun hok=>(xP hok 0 rfl (xP hok 1 rfl (xP hok 3 rfl (xP hok 4 rfl ?_)))))
   refine wx_step2 hok 2 5 rfl rfl rfl rfl rfl rfl ?_ ?_
   ·
    refine Q4T rfl rfl rfl (Q0 rfl) rfl rfl rfl rfl QB QN (by omega) (fun _ h=>by cases h; rfl) (Q3 (QT [] [] rfl rfl (xS hok 5 rfl (Q7d rfl rfl rfl (Q0 rfl) rfl rfl rfl rfl QB QN (by omega) (by omega) (fun a25 ha25=>(Q3 (QT [] [] rfl rfl (xS hok 6 rfl (Q6X 0 k (k + 1) rfl rfl rfl (Q0 rfl) rfl rfl rfl rfl (by omega) (by omega) (fun h=>ha25 (by omega)) QB Q6Q (H2:=[.own 35 6 Qe.pair (.slice (some ⟨g0,0,none⟩) ((L.take k ++ L.drop (k + 1)).length) c) (L.take k ++ L.drop (k + 1))]) rfl (fun _=>(Q3 (QT [] [] rfl rfl (xS hok 7 rfl (Qs (S':=[_,_,_,_,_,_,_,_,_,_,_,_]) rfl rfl rfl rfl rfl (Q3 ?_)))))))))))))))
    refine QT [] [] rfl rfl (Q19 hok rfl ?_)
    refine Ql (a25) ha25 [0,7,16,6,1,2] rfl (asK [] rfl) rfl
   ·
    refine Q7d rfl rfl rfl (Q0 rfl) rfl rfl rfl rfl QB QN (by omega) (by omega) (fun a25 ha25=>(Q3 (QT [] [] rfl rfl (xS hok 2 rfl (Q4T rfl rfl rfl (Q0 rfl) rfl rfl rfl rfl QB QN (by omega) (fun _ h=>by cases h; rfl) (Q3 (QT [] [] rfl rfl (xS hok 6 rfl (Q6X 0 k (k + 1) rfl rfl rfl (Q0 rfl) rfl rfl rfl rfl (by omega) (by omega) (fun h=>ha25 (by omega)) QB Q6Q (H2:=[.own 35 6 Qe.pair (.slice (some ⟨g0,0,none⟩) ((L.take k ++ L.drop (k + 1)).length) c) (L.take k ++ L.drop (k + 1))]) rfl (fun _=>(Q3 (QT [] [] rfl rfl (xS hok 7 rfl (Qs (S':=[_,_,_,_,_,_,_,_,_,_,_,_]) rfl rfl rfl rfl rfl (Q3 ?_)))))))))))))))
    refine QT [] [] rfl rfl (Q19 hok rfl ?_)
    refine Ql (a25) ha25 [0,7,16,6,1,2] rfl (asK [] rfl) rfl
  ·
   rintro a25 ha25
   try dsimp only
   refine Q4 (Q1 (wP rfl (wP rfl (wN rfl QB (wP rfl (wl_sliceMid rfl rfl rfl (Q0 rfl) rfl rfl rfl rfl rfl rfl QB QN (by simp; omega) (by omega) (fun a31 ha31=>(wl_clearTail 0 rfl rfl rfl rfl rfl (fun h=>ha31 (by simp at h ⊢; omega)) (by simp; omega) QB Q4G rfl rfl rfl (Q3 (Q2 (Q5 [0,7,16,6,1,2] (S':=[_,_,_,_,_,_]) rfl (Q4 (Q1 (wP rfl ?_))))))))))))))
   refine Qs (S':=[_,_,_,_,_,_]) rfl rfl rfl rfl rfl (Q3 (Q2 (Q5 [6,0,7,16,1,2] (S':=[_,_,_,_,_,_]) rfl (Qn (Qp (Hr:=[.own 35 6 Qe.pair (.slice (some ⟨g0,0,none⟩) ((L.take k ++ L.drop (k + 1)).length) c) (L.take k ++ L.drop (k + 1))]) [0] Tryz.results47 (Qd rfl) ?_ (asK [] rfl) rfl rfl (.inl rfl))))))
   exact ⟨_,_,rfl,rfl,rfl⟩
theorem Delete47T_SessD_s (p:Option Addr) (c:Nat) (i:Int) (L:List (SessD × ((Option Addr × Nat) × (Option Addr × Nat)))) (h0 : 0 ≤ i) (hk:i.toNat < L.length):Q1v Tryz.prog 47 [.slice p L.length c,.int .i64 i,.int .i64 (i + 1)] [] [.own 35 6 Qe.pair (.slice p L.length c) L] (fun v Φr Hr=>∃ p' c',v = .slice p' (L.take i.toNat ++ L.drop (i.toNat + 1)).length c' ∧ Φr = [] ∧ Hr = [.own 35 6 Qe.pair v (L.take i.toNat ++ L.drop (i.toNat + 1))]):=by
  obtain ⟨k,rfl⟩:=Int.eq_ofNat_of_zero_le h0
  have e1:((k:Int) + 1) = ((k + 1:Nat):Int):=by omega
  rw [e1]
  exact Delete47T_SessD_n p c k L hk
theorem Delete47T_SessD_t (p:Option Addr) (c n:Nat) (i:Int) (L:List (SessD × ((Option Addr × Nat) × (Option Addr × Nat)))) (hn:n = L.length) (h0 : 0 ≤ i) (hk:i.toNat < L.length):Q1v Tryz.prog 47 [.slice p n c,.int .i64 i,.int .i64 (i + 1)] [] [.own 35 6 Qe.pair (.slice p n c) L] (fun v Φr Hr=>∃ p' c',v = .slice p' (L.take i.toNat ++ L.drop (i.toNat + 1)).length c' ∧ Φr = [] ∧ Hr = [.own 35 6 Qe.pair v (L.take i.toNat ++ L.drop (i.toNat + 1))]):=by
  subst hn
  exact Delete47T_SessD_s p c i L h0 hk
theorem Q7e (N:Nat) (qg0:Nat) (qp1:Option Addr) (qn2:Nat) (qc3:Nat) (l0:List SessD) (a1:Int) (a2:Int) (o0:Nat) (o3:List SessD) (hm:Q1U N l0 a1 a2 = some (o0,o3)):Q1v Tryz.prog 22 [.pointer (some ⟨qg0,0,none⟩),.int .i64 a2] [] [.blk qg0 [.slice qp1 qn2 qc3,.int .i64 a1] 65,Qi Qe 35 6 (.slice qp1 qn2 qc3) l0] (fun v Φr Hr=>∃ (o1:Option Addr) (o2:Nat) (o4:Nat),v = .int .i64 ((o0:Nat):Int) ∧ Φr = [] ∧ Hr = [.blk qg0 [.slice o1 o4 o2,.int .i64 a1] 65,Qi Qe 35 6 (.slice o1 o4 o2) o3]):=by
 unfold Q1U at hm
 refine Qx Tryz.func22 rfl Tryz.ntmps22 rfl (S:=[_,_]) rfl (fun C=>(Q4 (Q1 (wP rfl (Q3 (Q2 (Q5 [0,1] (S':=[_,_]) rfl (Q4 (Q1 (wP rfl (wP rfl ?_)))))))))))
 obtain ⟨⟨v10_0,v10_1⟩,hc10,hm⟩:=Q6 hm
 try dsimp only at hm
 refine wC [0,1] [] rfl fn_45 rfl (Q5p N qg0 qp1 qn2 qc3 l0 a1 a2 _ _ hc10) (asK [] rfl) rfl (H':=[]) rfl ?_
 rintro _ _ _ ⟨rfl,rfl,rfl⟩
 refine wP rfl (wP rfl (wP rfl (wP rfl (wP rfl (Q3 (Q2 (Q5 [6,5,0] (S':=[_,_,_]) rfl (Q4 ?_))))))))
 obtain ⟨bj_1,hm,hLj_1⟩:=Q6 hm
 refine Q14 (σ:=(List SessD) × (Option Addr) × Nat × Nat) (fun (j_1_r0_f0_l,j_1_r0_f0_p,j_1_r0_f0_c,j_1_r0_f0_n)=>bj_1 = j_1_r0_f0_l) (fun (j_1_r0_f0_l,j_1_r0_f0_p,j_1_r0_f0_c,j_1_r0_f0_n)=>[(6,.int .i64 ((v10_1:Nat):Int))]) (fun (j_1_r0_f0_l,j_1_r0_f0_p,j_1_r0_f0_c,j_1_r0_f0_n)=>[]) (fun (j_1_r0_f0_l,j_1_r0_f0_p,j_1_r0_f0_c,j_1_r0_f0_n)=>[.blk qg0 [.slice j_1_r0_f0_p j_1_r0_f0_n j_1_r0_f0_c,.int .i64 a1] 65,Qi Qe 35 6 (.slice j_1_r0_f0_p j_1_r0_f0_n j_1_r0_f0_c) j_1_r0_f0_l]) ?_ ?_
 ·
  refine Q4 (Q1 (wP rfl (wP rfl (Qr (d:=14) (v':=.bool (v10_1 == 0)) (S':=[_,_,_,_]) rfl rfl (Q77 (a:=v10_1) (b:=0)) (Q3 (Q2 (Q5 [14,6,5,0] (S':=[_,_,_,_]) rfl ?_)))))))
  refine Qm rfl (fun hb14=>?_) (fun hb14=>?_)
  ·
   replace hm:=QQ hm hb14
   refine Q5 [6,5,0] (S':=[_,_,_]) rfl (Q1 (wP rfl (wP rfl (wP rfl (wF rfl Q4t (wF rfl Q4r (wD 0 0 rfl Q1L Q3Q rfl (wP rfl (wP rfl (wP rfl ?_))))))))))
   obtain ⟨hg23,hm⟩:=Qq hm
   refine Qr (d:=23) (v':=.int .i64 (v10_0 + 1)) (S':=[_,_,_,_,_,_,_,_,_,_,_]) rfl rfl (i64_in hg23) (QG 1 rfl (fun hzt2 _=>?_))
   subst hzt2
   refine Q1q 1 rfl (fun zz24 hzz24=>?_)
   obtain ⟨hg24,hm⟩:=Qq hm
   obtain ⟨hgk24,hm⟩:=Qq hm
   have hzs2:List.map (fun x:SessD × ((Option Addr × Nat) × (Option Addr × Nat))=>x.1) (zz24.take v10_0.toNat ++ zz24.drop (v10_0.toNat + 1)) = l0.take v10_0.toNat ++ l0.drop (v10_0.toNat + 1):=pair_del hzz24
   refine wC [2] [0,1] rfl fn_47 rfl (Delete47T_SessD_t qp1 qc3 l0.length v10_0 zz24 (by rw [Q12 hzz24]) hg24 (by rw [Q12 hzz24]; exact hgk24)) (asK [] rfl) rfl (H':=[_,_]) rfl ?_
   rintro _ _ _ ⟨p24,c24,rfl,rfl,rfl⟩
   refine Qr (d:=24) (v':=.slice p24 ((l0.take v10_0.toNat ++ l0.drop (v10_0.toNat + 1)).length) c24) (S':=[_,_,_,_,_,_,_,_,_,_,_,_]) rfl rfl (by rw [Q12 hzs2]) (Q15 0 (φ':=.own 35 6 Qe.pair (.slice p24 ((l0.take v10_0.toNat ++ l0.drop (v10_0.toNat + 1)).length) c24) (zz24.take v10_0.toNat ++ zz24.drop (v10_0.toNat + 1))) rfl (by rw [Q12 hzs2]) (H':=[_,_,_]) rfl (Qv [.own 35 6 Qe.pair (.slice p24 ((l0.take v10_0.toNat ++ l0.drop (v10_0.toNat + 1)).length) c24) (zz24.take v10_0.toNat ++ zz24.drop (v10_0.toNat + 1)),QR Qe (zz24.take v10_0.toNat ++ zz24.drop (v10_0.toNat + 1)) none,.blk qg0 [.slice qp1 l0.length qc3,.int .i64 a1] 65] (fun _ h=>h.bagDel 1 v10_0.toNat rfl) (Qv [Qi Qe 35 6 (.slice p24 ((l0.take v10_0.toNat ++ l0.drop (v10_0.toNat + 1)).length) c24) (l0.take v10_0.toNat ++ l0.drop (v10_0.toNat + 1)),_] (fun _ h=>h.treeIn 0 1 rfl rfl rfl hzs2) (wP rfl (wF rfl Q4t (wF rfl Q4r (wS 1 0 rfl Q1L (all':=[_,_]) rfl (H':=[_,_]) rfl (Q3 ?_))))))))
   have hE:=(Option.some.inj hm).symm
   refine QE [1,0] rfl (H':=[_,_]) rfl ?_
   refine Ql (l0.take v10_0.toNat ++ l0.drop (v10_0.toNat + 1),p24,c24,(l0.take v10_0.toNat ++ l0.drop (v10_0.toNat + 1)).length) hE [6] rfl (asK [] rfl) rfl
  ·
   replace hm:=QP hm hb14
   refine Q5 [6] (S':=[_]) rfl (Qj ?_)
   have hE:=(Option.some.inj hm).symm
   refine Ql (l0,qp1,qc3,qn2) hE [6] rfl (asK [] rfl) rfl
 ·
  rintro ⟨j_1_r0_f0_l,j_1_r0_f0_p,j_1_r0_f0_c,j_1_r0_f0_n⟩ hE
  try dsimp only
  have hm:=hLj_1
  rw [hE] at hm
  refine Q4 (Q1 (wP rfl (wP rfl (Q3 (Q2 (Q5 [4] (S':=[_]) rfl (Qn ?_)))))))
  have hE:=(Option.some.inj hm).symm
  obtain ⟨hE0,hE1⟩:=Prod.mk.inj hE
  clear hE
  replace hE0:=hE0.symm
  subst hE0
  replace hE1:=hE1.symm
  subst hE1
  refine Qp (Hr:=[_,_]) [0,1] Tryz.results22 (Qd rfl) ⟨j_1_r0_f0_p,j_1_r0_f0_c,j_1_r0_f0_n,rfl,rfl,rfl⟩ (asK [] rfl) rfl rfl (.inl rfl)
theorem Q6g (N:Nat) (qg0:Nat) (qp1:Option Addr) (qn2:Nat) (qc3:Nat) (l0:List SessD) (a1:Int) (a2:Int) (a3:Int) (a4:Int) (a5:Int) (qp4:Option Addr) (qc5:Nat) (l6:List FactD) (qp6:Option Addr) (qc7:Nat) (l7:List V) (o0:Nat) (o1:List SessD) (hm:Q3V N l0 a1 a2 a3 a4 a5 l6 l7 = some (o0,o1)):Q1v Tryz.prog 21 [.pointer (some ⟨qg0,0,none⟩),.int .i64 a2,.int .i64 a3,.agg #[.int .i64 a4,.int .i64 a5,.slice qp4 l6.length qc5,.slice qp6 l7.length qc7]] [.sli 3 QO qp4 qc5 l6,.sli 3 R_V qp6 qc7 l7] [.blk qg0 [.slice qp1 qn2 qc3,.int .i64 a1] 65,Qi Qe 35 6 (.slice qp1 qn2 qc3) l0] (fun v Φr Hr=>v = .int .i64 ((o0:Nat):Int) ∧ Φr = [] ∧ Hr = [.blk qg0 [.slice qp1 qn2 qc3,.int .i64 a1] 65,Qi Qe 35 6 (.slice qp1 qn2 qc3) o1]):=by
 unfold Q3V at hm
 refine Qx Tryz.func21 rfl Tryz.ntmps21 rfl (S:=[_,_,_,_]) rfl (fun C=>(Q4 (Q1 (wB rfl (fun g7=>(wP rfl (Q3 (Q2 (Q5 [7,0,1,2] (S':=[_,_,_,_]) rfl (Q4 (Q1 (wP rfl (wP rfl ?_)))))))))))))
 obtain ⟨⟨v14_0,v14_1⟩,hc14,hm⟩:=Q6 hm
 try dsimp only at hm
 refine wC [1,2] [0] rfl fn_45 rfl (Q5p N qg0 qp1 qn2 qc3 l0 a1 a2 _ _ hc14) (asK [] rfl) rfl (H':=[_]) rfl ?_
 rintro _ _ _ ⟨rfl,rfl,rfl⟩
 refine wP rfl (wP rfl (wP rfl (wP rfl (wP rfl (Q3 (Q2 (Q5 [10,9,7,0,2] (S':=[_,_,_,_,_]) rfl (Q4 (Qc (Q4 (Q1 (wP rfl (wP rfl ?_)))))))))))))
 refine Qr (d:=19) (v':=.bool (v14_1 != 0)) (S':=[_,_,_,_,_,_]) rfl rfl (natne (a:=v14_1) (b:=0)) (wP rfl (Q3 (Q2 (Q5 [17,10,9,7,0,2] (S':=[_,_,_,_,_,_]) rfl ?_))))
 refine Qm rfl (fun hb17=>?_) (fun hb17=>?_)
 ·
  replace hm:=QQ hm hb17
  refine Q5 [10] (S':=[_]) rfl (Q4 (Q1 (wP rfl (wP rfl (Q3 (Q2 (Q5 [8] (S':=[_]) rfl (Qn (Qu (Qb ?_))))))))))
  have hE:=(Option.some.inj hm).symm
  obtain ⟨hE0,hE1⟩:=Prod.mk.inj hE
  clear hE
  replace hE0:=hE0.symm
  subst hE0
  replace hE1:=hE1.symm
  subst hE1
  refine Qp (Hr:=[_,_]) [0,1] Tryz.results21 (Qd rfl) ⟨rfl,rfl,rfl⟩ (asK [] rfl) rfl rfl (.inl rfl)
 ·
  replace hm:=QP hm hb17
  refine Q5 [9,7,0,2] (S':=[_,_,_,_]) rfl (Q4 ?_)
  obtain ⟨bj_1,hm,hLj_1⟩:=Q6 hm
  refine Q14 (σ:=Bool) (fun j_1_21=>bj_1 = j_1_21) (fun j_1_21=>[(9,.int .i64 v14_0),(7,.pointer (some ⟨g7,0,none⟩)),(0,.pointer (some ⟨qg0,0,none⟩)),(2,.int .i64 a3),(21,.bool j_1_21)]) (fun j_1_21=>[.sli 3 QO qp4 qc5 l6,.sli 3 R_V qp6 qc7 l7]) (fun j_1_21=>[.blk g7 [.int .i64 a4,.int .i64 a5,.slice qp4 l6.length qc5,.slice qp6 l7.length qc7] 27,.blk qg0 [.slice qp1 qn2 qc3,.int .i64 a1] 65,Qi Qe 35 6 (.slice qp1 qn2 qc3) l0]) ?_ ?_
  ·
   refine Q1 (wP rfl (wP rfl (wP rfl ?_)))
   refine QA (d:=24) (S':=[_,_,_,_,_,_]) rfl rfl (fun hs24=>?_) (fun hs24=>?_)
   ·
    replace hm:=QQ hm hs24
    refine wO rfl (wO rfl (wO rfl (wO rfl (wO rfl (wO rfl (wO rfl (wO rfl (wO rfl (wO rfl (wO rfl (wP rfl (wP rfl (Q3 ?_)))))))))))))
    have hE:=(Option.some.inj hm).symm
    refine QE [2,0,1] rfl (H':=[_,_,_]) rfl ?_
    refine Ql true hE [9,7,0,2,21] rfl (asK [0,1] rfl) rfl
   ·
    replace hm:=QP hm hs24
    refine wP rfl (wP rfl (wP rfl (wF rfl Q4t (wF rfl Q4r (wD 0 0 rfl Q1L Q3Q rfl (wP rfl ?_))))))
    obtain ⟨hn32,hm⟩:=Qq hm
    refine Q1q 1 rfl (fun zz32 hzz32=>?_)
    obtain ⟨x32,hx32,hm⟩:=Q6 hm
    obtain ⟨rr32,hrr32⟩:=Q5x hzz32 hx32
    refine Q1r 2 v14_0.toNat rfl rfl rfl (Q0 rfl) rfl rfl rfl rfl (Q4F hn32) (Q1X hrr32) QB QN (fun g32 eg32=>?_)
    subst eg32
    refine wF rfl Q4h ?_
    obtain ⟨x34,hx34,hm⟩:=Q6 hm
    obtain ⟨rr34,hrr34⟩:=Q5x hzz32 hx34
    refine QU Q4W 2 v14_0.toNat 1 rfl rfl rfl (Q0 rfl) rfl rfl rfl hrr34 Q1g Q1D (v:=fun _=>.int .i64 (x34.seq)) (fun _=>rfl) (fun _=>rfl) (fun _ _=>(wP rfl (wP rfl (wP rfl (Q3 ?_)))))
    have hE:=(Option.some.inj hm).symm
    refine Q3o [_,Qi Qe 35 6 (.slice (some ⟨g32,0,none⟩) qn2 qc3) l0,_] (fun _ h=>h.treeIn 2 0 rfl rfl rfl hzz32) (QE [2,0,1] rfl (H':=[_,_,_]) rfl ?_)
    refine Ql (decide (a3 ≤ x34.seq)) hE [9,7,0,2,21] rfl (asK [0,1] rfl) rfl
  ·
   rintro j_1_21 hE
   try dsimp only
   have hm:=hLj_1
   rw [hE] at hm
   refine Qm rfl (fun hb21=>?_) (fun hb21=>?_)
   ·
    replace hm:=QQ hm hb21
    refine Q5 [] (S':=[]) rfl (Q4 (Q1 (wP rfl (Q3 (Q2 (Qn (Qu (Qb ?_))))))))
    have hE:=(Option.some.inj hm).symm
    obtain ⟨hE0,hE1⟩:=Prod.mk.inj hE
    clear hE
    replace hE0:=hE0.symm
    subst hE0
    replace hE1:=hE1.symm
    subst hE1
    refine Qp (Hr:=[_,_]) [1,2] Tryz.results21 (Qd rfl) ⟨rfl,rfl,rfl⟩ (asK [] rfl) rfl rfl (.inl rfl)
   ·
    replace hm:=QP hm hb21
    refine Q5 [9,7,0,2] (S':=[_,_,_,_]) rfl (Qj (Qa (Q2 (Q4 ?_))))
    obtain ⟨v51,hc51,hm⟩:=Q6 hm
    obtain ⟨hn52,hm⟩:=Qq hm
    obtain ⟨x52,hx52,hm⟩:=Q6 hm
    obtain ⟨x1012,hx1012,hm⟩:=Q6 hm
    obtain ⟨hn54,hm⟩:=Qq hm
    refine Q1l [0,1,2,3,4,5,6,7,8,9,10,11,12,13,16,19] rfl rfl (fun hok=>(xP hok 0 rfl (xP hok 1 rfl (Qz hok 2 rfl rfl rfl (Q0 rfl) rfl rfl rfl Q4t (Qz hok 3 rfl rfl rfl (Q0 rfl) rfl rfl rfl Q4r (Q1R hok 4 1 0 rfl rfl rfl (Q0 rfl) rfl rfl rfl rfl (cs:=[_]) rfl Q1L Q3Q rfl rfl (xP hok 5 rfl (xP hok 6 rfl (xP hok 7 rfl (Qz hok 8 rfl rfl rfl (Q0 rfl) rfl rfl rfl Q4t (Qz hok 9 rfl rfl rfl (Q0 rfl) rfl rfl rfl Q4r (Q1R hok 10 1 0 rfl rfl rfl (Q0 rfl) rfl rfl rfl rfl (cs:=[_]) rfl Q1L Q3Q rfl rfl (xP hok 11 rfl (xP hok 12 rfl ?_))))))))))))))
    refine Q1R hok 13 0 0 rfl rfl rfl (Q0 rfl) rfl rfl rfl rfl (cs:=[_,_,_,_]) rfl Q11 Q1W rfl rfl (xS hok 14 rfl (wC [] [0,1,2] rfl fn_46 rfl (Q5F N a4 a5 qp4 qc5 l6 qp6 qc7 l7 _ hc51) (asK [0,1] rfl) rfl (H':=[_,_,_]) rfl ?_))
    rintro _ _ _ ⟨p51_0,c51_1,p51_2,c51_3,rfl,rfl,rfl⟩
    refine Q3 (QT [0,1] [3,3] rfl rfl (xS hok 15 rfl (Q1q 4 rfl (fun zz52 hzz52=>?_))))
    obtain ⟨rr52,hrr52⟩:=Q5x hzz52 hx52
    refine Q1r 5 v14_0.toNat rfl rfl rfl (Q0 rfl) rfl rfl rfl rfl (Q4F hn52) (Q1X hrr52) QB QN (fun g52 eg52=>?_)
    subst eg52
    refine Q3 (QT [0,1] [3] rfl rfl (Qz hok 16 rfl rfl rfl (Q0 rfl) rfl rfl rfl Q4h (xS hok 17 rfl ?_)))
    obtain ⟨rr1012,hrr1012⟩:=Q5x hzz52 hx1012
    refine Qv [.own 149 3 R_V (.slice rr1012.2.1 x1012.r.said.length rr1012.2.2) x1012.r.said,Qi Qf 61 3 (.slice rr1012.1.1 x1012.r.facts.length rr1012.1.2) x1012.r.facts,QR Qe zz52 (some v14_0.toNat),_,_,_,_,_] (fun _ h=>h.bagOpen 0 v14_0.toNat rfl hrr1012) (Q55 (u:=((⟨x1012.id,a3,x1012.r⟩ : SessD),((rr1012.1.1,rr1012.1.2),(rr1012.2.1,rr1012.2.2)))) 7 v14_0.toNat 1 rfl rfl rfl rfl rfl hrr1012 rfl rfl Q1g rfl rfl (fun F w hφ ds hd=>by cases hd; rfl) rfl (H':=[_,_,_,_,_,_,_,_]) rfl ?_)
    have hrs3:(zz52.set v14_0.toNat ((⟨x1012.id,a3,x1012.r⟩ : SessD),((rr1012.1.1,rr1012.1.2),(rr1012.2.1,rr1012.2.2))))[v14_0.toNat]? = some ((⟨x1012.id,a3,x1012.r⟩ : SessD),((rr1012.1.1,rr1012.1.2),(rr1012.2.1,rr1012.2.2))):=set_atZ hrr1012
    have hzs3:List.map (fun x:SessD × ((Option Addr × Nat) × (Option Addr × Nat))=>x.1) (zz52.set v14_0.toNat ((⟨x1012.id,a3,x1012.r⟩ : SessD),((rr1012.1.1,rr1012.1.2),(rr1012.2.1,rr1012.2.2)))) = l0.set v14_0.toNat (⟨x1012.id,a3,x1012.r⟩ : SessD):=Q54 hzz52
    refine Q3 (QT [0,1] [5] rfl rfl (xS hok 18 rfl (Q2c 7 v14_0.toNat rfl rfl rfl (Q0 rfl) rfl rfl rfl rfl (Q4F hn54) (Q1X hrs3) QB QN (Q3 (QT [0,1] [] rfl rfl (Qz hok 19 rfl rfl rfl (Q0 rfl) rfl rfl rfl Q4b (xS hok 20 rfl (QG 3 rfl (fun hzt4 _=>(Q4q 4 (v':=.agg #[.int .i64 a4,.int .i64 a5,.slice p51_0 v51.length c51_1,.slice p51_2 l7.length c51_3]) rfl (by rw [hzt4]) (Q15 3 (φ':=Qi Qf 61 3 (.slice p51_0 v51.length c51_1) v51) rfl (by rw [hzt4]) (H':=[_,_,_,_,_,_,_,_]) rfl (Q55 (u:=((⟨(⟨x1012.id,a3,x1012.r⟩ : SessD).id,(⟨x1012.id,a3,x1012.r⟩ : SessD).seq,(⟨a4,a5,v51,l7⟩ : ReplyD)⟩ : SessD),((p51_0,c51_1),(p51_2,c51_3)))) 7 v14_0.toNat 2 rfl rfl rfl rfl rfl hrs3 rfl rfl Q11 rfl rfl (fun F w hφ ds hd=>by cases hd; rfl) rfl (H':=[_,_,_,_,_,_,_,_]) rfl (Q15 7 (φ':=.own 35 6 Qe.pair (.slice (some ⟨g52,0,none⟩) qn2 qc3) (zz52.set v14_0.toNat ((⟨(⟨x1012.id,a3,x1012.r⟩ : SessD).id,(⟨x1012.id,a3,x1012.r⟩ : SessD).seq,(⟨a4,a5,v51,l7⟩ : ReplyD)⟩ : SessD),((p51_0,c51_1),(p51_2,c51_3))))) rfl (by rw [List.set_set]) (H':=[_,_,_,_,_,_,_,_]) rfl ?_)))))))))))))
    have hrs4:(zz52.set v14_0.toNat ((⟨(⟨x1012.id,a3,x1012.r⟩ : SessD).id,(⟨x1012.id,a3,x1012.r⟩ : SessD).seq,(⟨a4,a5,v51,l7⟩ : ReplyD)⟩ : SessD),((p51_0,c51_1),(p51_2,c51_3))))[v14_0.toNat]? = some ((⟨(⟨x1012.id,a3,x1012.r⟩ : SessD).id,(⟨x1012.id,a3,x1012.r⟩ : SessD).seq,(⟨a4,a5,v51,l7⟩ : ReplyD)⟩ : SessD),((p51_0,c51_1),(p51_2,c51_3))):=set_atZ hrr1012
    have hzs4:List.map (fun x:SessD × ((Option Addr × Nat) × (Option Addr × Nat))=>x.1) (zz52.set v14_0.toNat ((⟨(⟨x1012.id,a3,x1012.r⟩ : SessD).id,(⟨x1012.id,a3,x1012.r⟩ : SessD).seq,(⟨a4,a5,v51,l7⟩ : ReplyD)⟩ : SessD),((p51_0,c51_1),(p51_2,c51_3)))) = l0.set v14_0.toNat (⟨(⟨x1012.id,a3,x1012.r⟩ : SessD).id,(⟨x1012.id,a3,x1012.r⟩ : SessD).seq,(⟨a4,a5,v51,l7⟩ : ReplyD)⟩ : SessD):=Q54 hzz52
    refine Q3 (QT [0,1] [] rfl rfl (Q19 hok rfl (Q2 (Q5 [] (S':=[]) rfl (Q4 (Q1 (wP rfl (Q3 (Q2 (Qn ?_))))))))))
    have hE:=(Option.some.inj hm).symm
    obtain ⟨hE0,hE1⟩:=Prod.mk.inj hE
    clear hE
    replace hE0:=hE0.symm
    subst hE0
    replace hE1:=hE1.symm
    subst hE1
    refine QE [4,3,0,1,2,5,6,7] rfl (H':=[_,_,_,_,_,_,_,_]) rfl (Q3o [_,_,QR Qe (zz52.set v14_0.toNat ((⟨(⟨x1012.id,a3,x1012.r⟩ : SessD).id,(⟨x1012.id,a3,x1012.r⟩ : SessD).seq,(⟨a4,a5,v51,l7⟩ : ReplyD)⟩ : SessD),((p51_0,c51_1),(p51_2,c51_3)))) none,_,_,_] (fun _ h=>Qo.bagClose (T:=Qe) (x:=(⟨(⟨x1012.id,a3,x1012.r⟩ : SessD).id,(⟨x1012.id,a3,x1012.r⟩ : SessD).seq,(⟨a4,a5,v51,l7⟩ : ReplyD)⟩ : SessD)) (r:=((p51_0,c51_1),(p51_2,c51_3))) (i:=v14_0.toNat) (zs:=zz52) (H:=[_,_,_,_,_,_]) h 2 rfl) ?_)
    have hzs5:List.map (fun x:SessD × ((Option Addr × Nat) × (Option Addr × Nat))=>x.1) (zz52.set v14_0.toNat ((⟨(⟨x1012.id,a3,x1012.r⟩ : SessD).id,(⟨x1012.id,a3,x1012.r⟩ : SessD).seq,(⟨a4,a5,v51,l7⟩ : ReplyD)⟩ : SessD),((p51_0,c51_1),(p51_2,c51_3)))) = l0.set v14_0.toNat (⟨(⟨x1012.id,a3,x1012.r⟩ : SessD).id,(⟨x1012.id,a3,x1012.r⟩ : SessD).seq,(⟨a4,a5,v51,l7⟩ : ReplyD)⟩ : SessD):=Q54 hzz52
    refine Q3o [_,_,_,_,Qi Qe 35 6 (.slice (some ⟨g52,0,none⟩) qn2 qc3) (l0.set v14_0.toNat (⟨(⟨x1012.id,a3,x1012.r⟩ : SessD).id,(⟨x1012.id,a3,x1012.r⟩ : SessD).seq,(⟨a4,a5,v51,l7⟩ : ReplyD)⟩ : SessD))] (fun _ h=>h.treeIn 5 2 rfl rfl rfl hzs5) ?_
    refine Qp (Hr:=[_,_]) [3,4] Tryz.results21 (Qd rfl) ⟨rfl,rfl,rfl⟩ (asK [] rfl) rfl rfl (.inl rfl)
end Go.Proofs.YtjfpefddanmliaaGreat
