import Derived.Test.YtjfpefddanmliaaGreatXW4
namespace Go.Proofs.YtjfpefddanmliaaGreat
open Go.RowKit
set_option maxRecDepth 100000
set_option maxHeartbeats 4000000
theorem Q3Y (N:Nat) (a0:Int) (a1:Int) (a2:Int) (a3:Int) (o0:Bool) (hm:Q4k N a0 a1 a2 a3 = some o0):Q1v Tryz.prog 38 [.agg #[.int .i64 a0,.int .i64 a1,.slice none 0 0,.slice none 0 0],.agg #[.int .i64 a2,.int .i64 a3,.slice none 0 0,.slice none 0 0]] [] [] (fun v Φr Hr=>v = .bool o0 ∧ Φr = [] ∧ Hr = []):=by
 unfold Q4k at hm
 refine Qx Tryz.func38 rfl Tryz.ntmps38 rfl (S:=[_,_]) rfl (fun C=>(Q4 (Q1 (wB rfl (fun g2=>(wB rfl (fun g3=>(wP rfl (Q3 (Q2 (Q5 [3,2] (S':=[_,_]) rfl (Q4 ?_))))))))))))
 obtain ⟨bj_1,hm,hLj_1⟩:=Q6 hm
 unfold Q4E at hm
 refine Q14 (σ:=Bool) (fun j_1_4=>bj_1 = j_1_4) (fun j_1_4=>[(4,.bool j_1_4)]) (fun j_1_4=>[]) (fun j_1_4=>[]) ?_ ?_
 ·
  refine Q1 (wF rfl tF_27_0 (wD 1 0 rfl tS_23 tA_23 rfl (wF rfl tF_27_0 (wD 0 0 rfl tS_23 tA_23 rfl (wP rfl (wP rfl ?_))))))
  refine QA (d:=10) (S':=[_,_,_,_,_,_,_]) rfl rfl (fun hs10=>?_) (fun hs10=>?_)
  ·
   replace hm:=QQ hm hs10
   refine wF rfl Q86 (wD 1 1 rfl Q1g Q1D rfl (wF rfl Q86 (wD 0 1 rfl Q1g Q1D rfl (wP rfl (wP rfl (wP rfl ?_))))))
   refine QA (d:=17) (S':=[_,_,_,_,_,_,_,_,_,_,_,_,_,_]) rfl rfl (fun hs17=>?_) (fun hs17=>?_)
   ·
    replace hm:=QQ hm hs17
    refine wF rfl Q4g (wD 1 2 rfl Q31 Q4R rfl (wF rfl Q4g (wD 0 2 rfl Q31 Q4R rfl (Q2l (.sli 3 QO none 0 ([] : List FactD)) (fun _ _ _=>Q2B) (Q2l (.sli 3 QO none 0 ([] : List FactD)) (fun _ _ _=>Q2B) ?_)))))
    obtain ⟨v22,hc22,hm⟩:=Q6 hm
    refine wC [] [0,1] rfl fn_59 rfl (Q6d N none 0 ([] : List FactD) none 0 ([] : List FactD) _ hc22) (asK [1,0] rfl) rfl (H':=[_,_]) rfl ?_
    rintro _ _ _ ⟨rfl,rfl,rfl⟩
    refine wP rfl (wP rfl ?_)
    refine QA (d:=24) (S':=[_,_,_,_,_,_,_,_,_,_,_,_,_,_,_,_,_,_,_,_,_]) rfl rfl (fun hs24=>?_) (fun hs24=>?_)
    ·
     replace hm:=QQ hm hs24
     refine wF rfl Q5b (wD 1 3 rfl Q1Z Q41 rfl (wF rfl Q5b (wD 0 3 rfl Q1Z Q41 rfl (Q2l (.sli 3 R_V none 0 ([] : List V)) (fun _ _ _=>Q2B) (Q2l (.sli 3 R_V none 0 ([] : List V)) (fun _ _ _=>Q2B) ?_)))))
     obtain ⟨v29,hc29,hm⟩:=Q6 hm
     refine wC [] [0,1] rfl fn_60 rfl (Q4d N none 0 ([] : List V) none 0 ([] : List V) _ hc29) (asK [1,0] rfl) rfl (H':=[_,_]) rfl ?_
     rintro _ _ _ ⟨rfl,rfl,rfl⟩
     refine wP rfl (wP rfl (Q3 ?_))
     have hE:=(Option.some.inj hm).symm
     refine QE [] rfl (H':=[]) rfl ?_
     refine Ql v29 hE [4] rfl (asK [] rfl) rfl
    ·
     replace hm:=QP hm hs24
     refine wO rfl (wO rfl (wO rfl (wO rfl (wO rfl (wP rfl (wP rfl (Q3 ?_)))))))
     have hE:=(Option.some.inj hm).symm
     refine QE [] rfl (H':=[]) rfl ?_
     refine Ql false hE [4] rfl (asK [] rfl) rfl
   ·
    replace hm:=QP hm hs17
    refine wO rfl (wO rfl (wO rfl (wO rfl (wO rfl (wP rfl (wP rfl (wO rfl (wO rfl (wO rfl (wO rfl (wO rfl (wP rfl (wP rfl ?_)))))))))))))
    refine Q3 ?_
    have hE:=(Option.some.inj hm).symm
    refine QE [] rfl (H':=[]) rfl ?_
    refine Ql false hE [4] rfl (asK [] rfl) rfl
  ·
   replace hm:=QP hm hs10
   refine wO rfl (wO rfl (wO rfl (wO rfl (wO rfl (wP rfl (wP rfl (wO rfl (wO rfl (wO rfl (wO rfl (wO rfl (wP rfl (wP rfl ?_)))))))))))))
   refine wO rfl (wO rfl (wO rfl (wO rfl (wO rfl (wP rfl (wP rfl (Q3 ?_)))))))
   have hE:=(Option.some.inj hm).symm
   refine QE [] rfl (H':=[]) rfl ?_
   refine Ql false hE [4] rfl (asK [] rfl) rfl
 ·
  rintro j_1_4 hE
  try dsimp only
  have hm:=hLj_1
  rw [hE] at hm
  refine Qn ?_
  have hE:=(Option.some.inj hm).symm
  replace hE:=hE.symm
  subst hE
  refine Qp (Hr:=[]) [] Tryz.results38 (Qd rfl) ⟨rfl,rfl,rfl⟩ (asK [] rfl) rfl rfl (.inl rfl)
def Q3b (k i:Int):Int:=IntKind.wrap .i64 ((IntKind.wrap .i64 (1000003 * (IntKind.wrap .i64 (k + 7)))) + i)
theorem Q5f (k i:Int):Q1v Tryz.prog 125 [.int .i64 k,.int .i64 i] [] [] (fun v Φr Hr=>v = .agg #[.int .i64 0,.int .i64 (Q3b k i),.slice none 0 0,.slice none 0 0] ∧ Φr = [] ∧ Hr = []):=Q7z 0 k i rfl
def Q2g (k i:Nat):List Value:=[.int .i64 0,.int .i64 (Q3b ((k:Nat):Int) ((i:Nat):Int)),.slice none 0 0,.slice none 0 0]
theorem Q7k (z:Int):Q4k 2 0 z 0 z = some true:=by
  simp [Q4k,Q4E,Q1j,Q1B,Q23,Q1Y,Q2V,Q2s,Qg,Q5u,gd]
theorem fl_flatReplies (p:Option Addr) (c:Nat) (hs:List Hdr) (hL:hs.length ≤ 1073741824) (hb : ∀ h ∈ hs,h.2.1 ≤ 1073741824):Q1v Tryz.prog 82 [.slice p hs.length c] [] [.own 77 1 QF (.slice p hs.length c) hs,Qk 27 4 (hs.map Q1c)] (fun v Φr Hr=>∃ rows,FlE hs Q2g rows ∧ v = .bool true ∧ Φr = [] ∧ Hr = [Qk 27 4 rows]):=by
 refine Qx Tryz.func82 rfl Tryz.ntmps82 rfl (S:=[_]) rfl (fun C=>(Q4 (Q1 (wP rfl (Q3 (Q2 (Q4 (Q4 (Q1 (wP rfl (Q3 (Q2 (Qc (QI (σ:=List Twin × Nat) (fun s=>s.2 ≤ hs.length ∧ FlA hs Q2g s.2 0 s.1) (fun s=>hs.length - s.2) (fun s=>[(3,.int .i64 ((s.2:Nat):Int)),(2,.bool false),(0,.slice p hs.length c)]) (fun s=>[]) (fun s=>[.own 77 1 QF (.slice p hs.length c) hs,Qk 27 4 s.1]) (hs.map Q1c,0) ⟨Nat.zero_le _,FlA.start⟩ [3,2,0] rfl (asK [] rfl) rfl (fun s1 oks1=>?_)))))))))))))))
 refine Q4 (Q4 (Q1 (wP rfl (wP rfl (wN rfl Q5o (wP rfl (Q3 (Q2 (Q5 [19,3,2,0] (S':=[_,_,_,_]) rfl ?_)))))))))
 refine Qm rfl (fun h19=>?_) (fun h19=>?_)
 ·
  replace h19:=of_decide_eq_true h19
  have hk1:s1.2 < hs.length:=by omega
  obtain ⟨y1,hy1⟩ : ∃ y,hs[s1.2]? = some y:=⟨_,List.getElem?_eq_getElem hk1⟩
  have hB1:y1.2.1 ≤ 1073741824:=hb _ (List.mem_of_getElem? hy1)
  refine Qj (Q2 (Q4 (Qc (Q4 (Q1 (wP rfl (Q3 (Q2 (Qc (QI (σ:=List Twin × Nat) (fun s=>s.2 ≤ y1.2.1 ∧ FlA hs Q2g s1.2 s.2 s.1) (fun s=>y1.2.1 - s.2) (fun s=>[(4,.int .i64 ((s.2:Nat):Int)),(19,.bool (decide (((s1.2:Nat):Int) < ((hs.length:Nat):Int)))),(3,.int .i64 ((s1.2:Nat):Int)),(2,.bool false),(0,.slice p hs.length c)]) (fun s=>[]) (fun s=>[.own 77 1 QF (.slice p hs.length c) hs,Qk 27 4 s.1]) (s1.1,0) ⟨Nat.zero_le _,oks1.2⟩ [4,19,3,2,0] rfl (asK [] rfl) rfl (fun s2 oks2=>(Q4 (Q4 (Q1 ?_))))))))))))))
  refine wP rfl (wP rfl (wP rfl (Q1r 0 s1.2 rfl rfl rfl (Q0 rfl) rfl rfl rfl rfl rfl hk1 Q5o Q4P (fun g25 eg25=>?_))))
  subst eg25
  refine QU QW 0 s1.2 0 rfl rfl rfl (Q0 rfl) rfl rfl rfl hy1 Q4P tA_77 (v:=fun _=>.slice y1.1 y1.2.1 y1.2.2) (fun _=>rfl) (fun _=>rfl) (fun _ _=>(wN rfl Q6F (wP rfl (Q3 (Q2 (Q5 [28,4,19,3,2,0] (S':=[_,_,_,_,_,_]) rfl ?_))))))
  refine Qm rfl (fun h28=>?_) (fun h28=>?_)
  ·
   replace h28:=of_decide_eq_true h28
   obtain ⟨r2,hr2,hh2,hsm2,hl2⟩:=oks2.2.at_ hy1
   refine Qj (Q2 (Q4 (Qc (Q1l [0,1,2,3,4,5,6,8] rfl rfl (fun hok=>(xP hok 0 rfl (xP hok 1 rfl (Q1d hok 2 0 s1.2 rfl rfl rfl (Q0 rfl) rfl rfl rfl rfl rfl rfl hk1 Q5o Q4P (QV hok 3 QW 0 s1.2 0 rfl rfl rfl (Q0 rfl) rfl rfl rfl rfl hy1 Q4P tA_77 (v:=.slice y1.1 y1.2.1 y1.2.2) rfl rfl (fun _=>(xP hok 4 rfl (xP hok 5 rfl (xP hok 6 rfl (xS hok 7 rfl (wC [] [0,1] rfl fn_125 rfl (Q5f ((s1.2:Nat):Int) ((s2.2:Nat):Int)) (asK [] rfl) rfl (H':=[_,_]) rfl ?_)))))))))))))))
   rintro _ _ _ ⟨rfl,rfl,rfl⟩
   refine Q3 (QT [] [0] rfl rfl (Q51 hok 8 (p:=y1.1) (m:=y1.2.1) (cp:=y1.2.2) 1 s1.2 s2.2 rfl rfl rfl (Q0 rfl) rfl rfl rfl hr2 hh2 rfl rfl rfl (by omega) hl2 Q6F Q11 (fun g39 eg39=>(xS hok 9 rfl (Q8b (cs:=Q2g s1.2 s2.2) 1 s1.2 s2.2 rfl rfl rfl rfl hr2 hsm2 (Q75 hh2 eg39) rfl (by omega) rfl rfl Q11 rfl (one_of rfl) (H':=[_,_]) rfl (Q3 (QT [] [] rfl rfl (Q19 hok rfl (Qa (Q2 (Q1 (wP rfl (wP rfl (Qr (d:=30) (v':=.int .i64 ((s2.2 + 1:Nat):Int)) (S':=[_,_,_,_,_,_,_,_,_,_,_,_,_,_,_,_]) rfl rfl (Qw (a:=s2.2) (b:=1) (by omega)) ?_))))))))))))))
   refine Qs (S':=[_,_,_,_,_,_,_,_,_,_,_,_,_,_,_,_]) rfl rfl rfl rfl rfl (Q3 ?_)
   refine Q16 (s2.1.set s1.2 ⟨r2.h,(r2.l.set s2.2 (some (Q2g s1.2 s2.2))),r2.h,(r2.l.set s2.2 (some (Q2g s1.2 s2.2)))⟩,s2.2 + 1) (by show y1.2.1 - (s2.2 + 1) < _; omega) ⟨by show s2.2 + 1 ≤ _; omega,oks2.2.store hy1 hr2 (by omega)⟩ [4,19,3,2,0] rfl (asK [] rfl) rfl
  ·
   replace h28:=of_decide_eq_false h28
   refine QH (Q8 (Q8 (Qh (Qa (Q2 (Q1 (wP rfl (wP rfl (Qr (d:=21) (v':=.int .i64 ((s1.2 + 1:Nat):Int)) (S':=[_,_,_,_,_,_,_]) rfl rfl (Qw (a:=s1.2) (b:=1) (by omega)) (Qs (S':=[_,_,_,_,_,_,_]) rfl rfl rfl rfl rfl (Q3 ?_)))))))))))
   refine Q16 (s2.1,s1.2 + 1) (by show hs.length - (s1.2 + 1) < _; omega) ⟨by show s1.2 + 1 ≤ _; omega,oks2.2.next hy1 (by omega)⟩ [3,2,0] rfl (asK [] rfl) rfl
 ·
  replace h19:=of_decide_eq_false h19
  refine QH (Q8 (Q8 (Qh (Q2 (Q4 (Q1 (wP rfl (wN rfl Q5o (Q4J (m:=hs.length) QF (none,0,0) rfl rfl rfl (Q0 rfl) rfl rfl rfl rfl rfl Q5o tR_77 rfl rfl (fun _ _=>rfl) (by omega) (by omega) (fun g42=>(wP rfl (Q3 (Q2 (Q5 [5,19,3,2,0] (S':=[_,_,_,_,_]) rfl ?_))))))))))))))
  refine Q4 (Q4 (Q1 (wP rfl (Q3 (Q2 (Qc (QI (σ:=List Hdr × List Twin × Nat) (fun s=>s.2.2 ≤ hs.length ∧ FlB hs Q2g s.1 s.2.2 s.2.1) (fun s=>hs.length - s.2.2) (fun s=>[(6,.int .i64 ((s.2.2:Nat):Int)),(5,.slice (some ⟨g42,0,none⟩) hs.length hs.length),(19,.bool (decide (((s1.2:Nat):Int) < ((hs.length:Nat):Int)))),(3,.int .i64 ((s1.2:Nat):Int)),(2,.bool false),(0,.slice p hs.length c)]) (fun s=>[]) (fun s=>[.own 77 1 QF (.slice (some ⟨g42,0,none⟩) hs.length hs.length) s.1,.own 77 1 QF (.slice p hs.length c) hs,Qk 27 4 s.2.1]) (List.replicate hs.length (none,0,0),s1.1,0) ⟨Nat.zero_le _,oks1.2.grow (by omega) (by simp)⟩ [6,5,19,3,2,0] rfl (asK [] rfl) rfl (fun s3 oks3=>(Q4 (Q4 (Q1 (wP rfl (wP rfl (wN rfl Q5o ?_))))))))))))))
  refine wP rfl (Q3 (Q2 (Q5 [46,6,5,19,3,2,0] (S':=[_,_,_,_,_,_,_]) rfl ?_)))
  refine Qm rfl (fun h46=>?_) (fun h46=>?_)
  ·
   replace h46:=of_decide_eq_true h46
   have hk3:s3.2.2 < hs.length:=by omega
   obtain ⟨y3,hy3⟩ : ∃ y,hs[s3.2.2]? = some y:=⟨_,List.getElem?_eq_getElem hk3⟩
   have hB3:y3.2.1 ≤ 1073741824:=hb _ (List.mem_of_getElem? hy3)
   refine Qj (Q2 (Q4 (Qc (Q4 (Q1 (wP rfl (wP rfl (Q1r 1 s3.2.2 rfl rfl rfl (Q0 rfl) rfl rfl rfl rfl rfl hk3 Q5o Q4P (fun g51 eg51=>?_)))))))))
   subst eg51
   refine QU QW 1 s3.2.2 0 rfl rfl rfl (Q0 rfl) rfl rfl rfl hy3 Q4P tA_77 (v:=fun _=>.slice y3.1 y3.2.1 y3.2.2) (fun _=>rfl) (fun _=>rfl) (fun _ _=>(wP rfl (Q3 (Q2 (Q5 [7,46,6,5,19,3,2,0] (S':=[_,_,_,_,_,_,_,_]) rfl (Q4 (Q4 (Q1 (wP rfl (Q3 (Q2 (Qc (QI (σ:=List Twin × Hdr × Nat) (fun s=>s.2.2 ≤ 64 ∧ FlC hs Q2g s3.1 s3.2.2 s.2.2 s.2.1 s.1) (fun s=>64 - s.2.2) (fun s=>[(8,.int .i64 ((s.2.2:Nat):Int)),(7,.slice s.2.1.1 s.2.1.2.1 s.2.1.2.2),(46,.bool (decide (((s3.2.2:Nat):Int) < ((hs.length:Nat):Int)))),(6,.int .i64 ((s3.2.2:Nat):Int)),(5,.slice (some ⟨g42,0,none⟩) hs.length hs.length),(19,.bool (decide (((s1.2:Nat):Int) < ((hs.length:Nat):Int)))),(3,.int .i64 ((s1.2:Nat):Int)),(2,.bool false),(0,.slice (some ⟨g51,0,none⟩) hs.length c)]) (fun s=>[]) (fun s=>[.own 77 1 QF (.slice (some ⟨g42,0,none⟩) hs.length hs.length) s3.1,.own 77 1 QF (.slice (some ⟨g51,0,none⟩) hs.length c) hs,Qk 27 4 s.1]) (s3.2.1,y3,0) ⟨Nat.zero_le _,oks3.2.begin hy3⟩ [8,7,46,6,5,19,3,2,0] rfl (asK [] rfl) rfl (fun s4 oks4=>(Q4 ?_)))))))))))))))
   refine Q4 (Q1 (wP rfl (wP rfl (Q3 (Q2 (Q5 [54,8,7,46,6,5,19,3,2,0] (S':=[_,_,_,_,_,_,_,_,_,_]) rfl ?_))))))
   refine Qm rfl (fun h54=>?_) (fun h54=>?_)
   ·
    replace h54:=of_decide_eq_true h54
    obtain ⟨r4,hr4,hh4,hl4,hg4,hm4⟩:=oks4.2.at_ hy3
    refine Qj (Q2 (Q4 (Qc (Q1 (wP rfl (wP rfl (wP rfl (wP rfl (Q2c 1 s3.2.2 rfl rfl rfl (Q0 rfl) rfl rfl rfl rfl rfl hk3 Q5o Q4P (QU QW 1 s3.2.2 0 rfl rfl rfl (Q0 rfl) rfl rfl rfl hy3 Q4P tA_77 (v:=fun _=>.slice y3.1 y3.2.1 y3.2.2) (fun _=>rfl) (fun _=>rfl) (fun _ _=>(wN rfl Q6F (wP rfl (wP rfl ?_))))))))))))))
    refine Qr (d:=65) (v':=.int .i64 ((y3.2.1 + s4.2.2:Nat):Int)) (S':=[_,_,_,_,_,_,_,_,_,_,_,_,_,_,_,_,_,_]) rfl rfl (Qw (a:=y3.2.1) (b:=s4.2.2) (by omega)) (wC [] [0,1,2] rfl fn_125 rfl (Q5f ((s3.2.2:Nat):Int) ((y3.2.1 + s4.2.2:Nat):Int)) (asK [] rfl) rfl (H':=[_,_,_]) rfl ?_)
    rintro _ _ _ ⟨rfl,rfl,rfl⟩
    refine QJ rfl rfl rfl (Q0 rfl) rfl Q6F Q11 Q5Q rfl (zs:=[.int .i64 0,.int .i64 0,.slice none 0 0,.slice none 0 0]) (by kernel_rfl) rfl (out:=[_,_,_,_]) rfl (fun g67=>(Q8y (cs:=Q2g s3.2.2 (y3.2.1 + s4.2.2)) 3 s3.2.2 0 rfl rfl rfl (Q0 rfl) rfl rfl hr4 (by rw [hg4]; rfl) rfl rfl rfl (one_of rfl) Q6F tR_27 rfl rfl (by rw [hm4]; simp only [Q10,List.length_append,List.length_cons,List.length_nil]; omega) (by rw [hm4]; simp only [Q10,List.length_append,List.length_cons,List.length_nil]; omega) (H2:=fun gh68=>[_,_,_,Qk 27 4 (s4.1.set s3.2.2 ⟨r4.h,r4.l,gh68,r4.m ++ [some (Q2g s3.2.2 (y3.2.1 + s4.2.2))]⟩)]) (fun _=>rfl) (fun gh68=>(Q2k 0 rfl (H':=[_,_,_]) rfl (Qs (S':=[_,_,_,_,_,_,_,_,_,_,_,_,_,_,_,_,_,_,_,_,_]) rfl rfl rfl rfl rfl (Q3 (Qa (Q2 (Q1 (wP rfl (wP rfl (Qr (d:=56) (v':=.int .i64 ((s4.2.2 + 1:Nat):Int)) (S':=[_,_,_,_,_,_,_,_,_,_,_,_,_,_,_,_,_,_,_,_,_,_,_]) rfl rfl (Qw (a:=s4.2.2) (b:=1) (by omega)) (Qs (S':=[_,_,_,_,_,_,_,_,_,_,_,_,_,_,_,_,_,_,_,_,_,_,_]) rfl rfl rfl rfl rfl (Q3 ?_))))))))))))))
    refine Q16 (s4.1.set s3.2.2 ⟨r4.h,r4.l,gh68,r4.m ++ [some (Q2g s3.2.2 (y3.2.1 + s4.2.2))]⟩,gh68,s4.2.2 + 1) (by show 64 - (s4.2.2 + 1) < _; omega) ⟨by show s4.2.2 + 1 ≤ 64; omega,oks4.2.app hy3 hr4 _⟩ [8,7,46,6,5,19,3,2,0] rfl (asK [] rfl) rfl
   ·
    replace h54:=of_decide_eq_false h54
    refine QH (Q8 (Q8 (Qh (Q2 (Q1 (wP rfl (wP rfl (wP rfl (Q2c 0 s3.2.2 rfl rfl rfl (Q0 rfl) rfl rfl rfl rfl rfl (by rw [oks3.2.2.1]; exact hk3) Q5o Q4P (Q3r (u:=s4.2.1) 0 s3.2.2 rfl rfl rfl rfl rfl (by rw [oks3.2.2.1]; exact hk3) rfl rfl Q4P rfl (fun _ _ _=>rfl) (H':=[_,_,_]) rfl (Q3 (Qa (Q2 ?_)))))))))))))
    refine Q1 (wP rfl (wP rfl (Qr (d:=48) (v':=.int .i64 ((s3.2.2 + 1:Nat):Int)) (S':=[_,_,_,_,_,_,_,_,_,_,_,_,_,_,_]) rfl rfl (Qw (a:=s3.2.2) (b:=1) (by omega)) (Qs (S':=[_,_,_,_,_,_,_,_,_,_,_,_,_,_,_]) rfl rfl rfl rfl rfl (Q3 ?_)))))
    have hc3:=oks4.2
    rw [show s4.2.2 = 64 from by omega] at hc3
    refine Q16 (s3.1.set s3.2.2 s4.2.1,s4.1,s3.2.2 + 1) (by show hs.length - (s3.2.2 + 1) < _; omega) ⟨by show s3.2.2 + 1 ≤ _; omega,hc3.done hk3⟩ [6,5,19,3,2,0] rfl (asK [] rfl) rfl
  ·
   replace h46:=of_decide_eq_false h46
   refine QH (Q8 (Q8 (Qh (Q2 (Q4 (Q4 (Q1 (wP rfl (Q3 (Q2 (Qc (QI (σ:=Nat) (fun s=>s ≤ hs.length) (fun s=>hs.length - s) (fun s=>[(9,.int .i64 ((s:Nat):Int)),(46,.bool (decide (((s3.2.2:Nat):Int) < ((hs.length:Nat):Int)))),(6,.int .i64 ((s3.2.2:Nat):Int)),(5,.slice (some ⟨g42,0,none⟩) hs.length hs.length),(19,.bool (decide (((s1.2:Nat):Int) < ((hs.length:Nat):Int)))),(3,.int .i64 ((s1.2:Nat):Int)),(2,.bool false),(0,.slice p hs.length c)]) (fun s=>[]) (fun s=>[.own 77 1 QF (.slice (some ⟨g42,0,none⟩) hs.length hs.length) s3.1,.own 77 1 QF (.slice p hs.length c) hs,Qk 27 4 s3.2.1]) 0 (Nat.zero_le _) [9,46,6,5,19,3,2,0] rfl (asK [] rfl) rfl (fun s5 oks5=>(Q4 ?_))))))))))))))
   refine Q4 (Q1 (wP rfl (wP rfl (wN rfl Q5o (wP rfl (Q3 (Q2 (Q5 [76,9,46,6,5,19,3,2,0] (S':=[_,_,_,_,_,_,_,_,_]) rfl ?_))))))))
   refine Qm rfl (fun h76=>?_) (fun h76=>?_)
   ·
    replace h76:=of_decide_eq_true h76
    have hk5:s5 < hs.length:=by omega
    obtain ⟨y5,hy5⟩ : ∃ y,hs[s5]? = some y:=⟨_,List.getElem?_eq_getElem hk5⟩
    have hB5:y5.2.1 ≤ 1073741824:=hb _ (List.mem_of_getElem? hy5)
    obtain ⟨r5,hr5,hh5,hl5,hg5,hm5⟩:=oks3.2.look (by omega) hy5
    refine Q6Y 2 rfl hr5 (fun hA5 hC5=>?_)
    rw [hl5,Q10] at hA5
    rw [hm5,Q10] at hC5
    refine Qj (Q2 (Q4 (Qc (Q4 (Q1 (wP rfl (Q3 (Q2 (Qc (QI (σ:=Nat) (fun s=>s ≤ y5.2.1 + 64) (fun s=>y5.2.1 + 64 - s) (fun s=>[(10,.int .i64 ((s:Nat):Int)),(76,.bool (decide (((s5:Nat):Int) < ((hs.length:Nat):Int)))),(9,.int .i64 ((s5:Nat):Int)),(46,.bool (decide (((s3.2.2:Nat):Int) < ((hs.length:Nat):Int)))),(6,.int .i64 ((s3.2.2:Nat):Int)),(5,.slice (some ⟨g42,0,none⟩) hs.length hs.length),(19,.bool (decide (((s1.2:Nat):Int) < ((hs.length:Nat):Int)))),(3,.int .i64 ((s1.2:Nat):Int)),(2,.bool false),(0,.slice p hs.length c)]) (fun s=>[]) (fun s=>[.own 77 1 QF (.slice (some ⟨g42,0,none⟩) hs.length hs.length) s3.1,.own 77 1 QF (.slice p hs.length c) hs,Qk 27 4 s3.2.1]) 0 (Nat.zero_le _) [10,76,9,46,6,5,19,3,2,0] rfl (asK [] rfl) rfl (fun s6 oks6=>(Q4 (Q4 (Q1 ?_))))))))))))))
    refine wP rfl (wP rfl (wP rfl (Q2c 0 s5 rfl rfl rfl (Q0 rfl) rfl rfl rfl rfl rfl (by rw [oks3.2.2.1]; exact hk5) Q5o Q4P (QU QW 0 s5 0 rfl rfl rfl (Q0 rfl) rfl rfl rfl hg5 Q4P tA_77 (v:=fun _=>.slice r5.g.1 r5.g.2.1 r5.g.2.2) (fun _=>rfl) (fun _=>rfl) (fun _ _=>(wN rfl Q6F (wP rfl (Q3 (Q2 (Q5 [85,10,76,9,46,6,5,19,3,2,0] (S':=[_,_,_,_,_,_,_,_,_,_,_]) rfl ?_))))))))))
    refine Qm rfl (fun h85=>?_) (fun h85=>?_)
    ·
     replace h85:=of_decide_eq_true h85
     refine Qj (Q2 (Q4 (Qc (Q4 (Q1l [0,1,2,3,4,5,6,7,8,11,12,13,14,15,16,17,18,19,20,21,22,23,24,25,26,27,28,29,32,33,34] rfl rfl (fun hok=>(xP hok 0 rfl (xP hok 1 rfl (Q1d hok 2 0 s5 rfl rfl rfl (Q0 rfl) rfl rfl rfl rfl rfl rfl (by rw [oks3.2.2.1]; exact hk5) Q5o Q4P (QV hok 3 QW 0 s5 0 rfl rfl rfl (Q0 rfl) rfl rfl rfl rfl hg5 Q4P tA_77 (v:=.slice r5.g.1 r5.g.2.1 r5.g.2.2) rfl rfl (fun _=>(xP hok 4 rfl (Q6z hok 5 (p:=r5.g.1) (m:=r5.g.2.1) (cp:=r5.g.2.2) 2 s5 s6 rfl rfl rfl (Q0 rfl) rfl rfl rfl hr5 rfl rfl rfl rfl (by omega) (by rw [hm5,Q10]; omega) Q6F Q11 (fun g93 eg93=>(Q5Y hok 6 2 s5 s6 rfl rfl rfl (Q0 rfl) rfl rfl rfl hr5 (Q7C eg93) rfl (cs:=Q2g s5 s6) (by rw [hm5]; exact Q56 (by omega)) Q11 Q1W rfl (v:=.agg #[.int .i64 0,.int .i64 (Q3b ((s5:Nat):Int) ((s6:Nat):Int)),.slice none 0 0,.slice none 0 0]) rfl (xP hok 7 rfl ?_))))))))))))))))
     refine xP hok 8 rfl (xS hok 9 rfl (wC [] [0,1,2] rfl fn_125 rfl (Q5f ((s5:Nat):Int) ((s6:Nat):Int)) (asK [] rfl) rfl (H':=[_,_,_]) rfl ?_))
     rintro _ _ _ ⟨rfl,rfl,rfl⟩
     refine Q3 (QT [] [2,0] rfl rfl (xS hok 10 rfl (wC [] [0,1,2] rfl fn_38 rfl (Q3Y 2 0 (Q3b ((s5:Nat):Int) ((s6:Nat):Int)) 0 (Q3b ((s5:Nat):Int) ((s6:Nat):Int)) _ (Q7k _)) (asK [] rfl) rfl (H':=[_,_,_]) rfl ?_)))
     rintro _ _ _ ⟨rfl,rfl,rfl⟩
     refine Q3 (QT [] [0] rfl rfl (xP hok 11 rfl (xP hok 12 rfl (xP hok 13 rfl (xP hok 14 rfl (xP hok 15 rfl (Q7m hok 16 1 s5 rfl rfl rfl (Q0 rfl) rfl rfl rfl rfl rfl rfl hk5 Q5o Q4P (fun g104 eg104=>?_))))))))
     subst eg104
     refine QV hok 17 QW 1 s5 0 rfl rfl rfl (Q0 rfl) rfl rfl rfl rfl hy5 Q4P tA_77 (v:=.slice y5.1 y5.2.1 y5.2.2) rfl rfl (fun _=>(Q3e hok 18 rfl rfl rfl (Q0 rfl) rfl rfl rfl Q6F (xP hok 19 rfl (xP hok 20 rfl ?_))))
     refine wx_split (d:=108) (S':=[_,_,_,_,_,_,_,_,_,_,_,_,_,_,_,_,_,_,_,_,_,_,_,_,_,_,_,_,_,_,_]) rfl rfl (fun h108=>?_) (fun h108=>?_)
     ·
      replace h108:=of_decide_eq_true h108
      refine xP hok 21 rfl (xP hok 22 rfl (Q1d hok 23 1 s5 rfl rfl rfl (Q0 rfl) rfl rfl rfl rfl rfl rfl hk5 Q5o Q4P (QV hok 24 QW 1 s5 0 rfl rfl rfl (Q0 rfl) rfl rfl rfl rfl hy5 Q4P tA_77 (v:=.slice y5.1 y5.2.1 y5.2.2) rfl rfl (fun _=>(xP hok 25 rfl (Q51 hok 26 (p:=y5.1) (m:=y5.2.1) (cp:=y5.2.2) 2 s5 s6 rfl rfl rfl (Q0 rfl) rfl rfl rfl hr5 hh5 rfl rfl rfl (by omega) (by rw [hl5,Q10]) Q6F Q11 (fun g114 eg114=>(Q5X hok 27 2 s5 s6 rfl rfl rfl (Q0 rfl) rfl rfl rfl hr5 (Q75 hh5 eg114) rfl (cs:=Q2g s5 s6) (by rw [hl5]; exact Q56 (by omega)) Q11 Q1W rfl (v:=.agg #[.int .i64 0,.int .i64 (Q3b ((s5:Nat):Int) ((s6:Nat):Int)),.slice none 0 0,.slice none 0 0]) rfl (xP hok 28 rfl (xP hok 29 rfl (xS hok 30 rfl (wC [] [0,1,2] rfl fn_125 rfl (Q5f ((s5:Nat):Int) ((s6:Nat):Int)) (asK [] rfl) rfl (H':=[_,_,_]) rfl ?_))))))))))))
      rintro _ _ _ ⟨rfl,rfl,rfl⟩
      refine Q3 (QT [] [2,1,1,2,0] rfl rfl (xS hok 31 rfl (wC [] [0,1,2] rfl fn_38 rfl (Q3Y 2 0 (Q3b ((s5:Nat):Int) ((s6:Nat):Int)) 0 (Q3b ((s5:Nat):Int) ((s6:Nat):Int)) _ (Q7k _)) (asK [] rfl) rfl (H':=[_,_,_]) rfl ?_)))
      rintro _ _ _ ⟨rfl,rfl,rfl⟩
      refine Q3 (QT [] [1,1,2,0] rfl rfl (xP hok 32 rfl (xP hok 33 rfl (xP hok 34 rfl (Q19 hok rfl (Q2 (Q5 [122,85,10,76,9,46,6,5,19,3,2,0] (S':=[_,_,_,_,_,_,_,_,_,_,_,_]) rfl (Q58 rfl (Qj (Qa (Q2 (Q1 (wP rfl ?_)))))))))))))
      refine wP rfl (Qr (d:=87) (v':=.int .i64 ((s6 + 1:Nat):Int)) (S':=[_,_,_,_,_,_,_,_,_,_,_,_,_]) rfl rfl (Qw (a:=s6) (b:=1) (by omega)) (Qs (S':=[_,_,_,_,_,_,_,_,_,_,_,_,_]) rfl rfl rfl rfl rfl (Q3 ?_)))
      refine Q16 (s6 + 1) (by omega) (by omega) [10,76,9,46,6,5,19,3,2,0] rfl (asK [] rfl) rfl
     ·
      replace h108:=of_decide_eq_false h108
      refine xO hok 21 rfl (xO hok 22 rfl (xO hok 23 rfl (xO hok 24 rfl (xO hok 25 rfl (xO hok 26 rfl (xO hok 27 rfl (xO hok 28 rfl (xO hok 29 rfl (xS hok 30 rfl (wO rfl (Q3 (QT [] [1,2,0] rfl rfl (xS hok 31 rfl ?_)))))))))))))
      refine wO rfl (Q3 (QT [] [1,2,0] rfl rfl (xO hok 32 rfl (xP hok 33 rfl (xP hok 34 rfl (Q19 hok rfl (Q2 (Q5 [122,85,10,76,9,46,6,5,19,3,2,0] (S':=[_,_,_,_,_,_,_,_,_,_,_,_]) rfl (Q58 rfl (Qj (Qa (Q2 (Q1 ?_)))))))))))))
      refine wP rfl (wP rfl (Qr (d:=87) (v':=.int .i64 ((s6 + 1:Nat):Int)) (S':=[_,_,_,_,_,_,_,_,_,_,_,_,_]) rfl rfl (Qw (a:=s6) (b:=1) (by omega)) (Qs (S':=[_,_,_,_,_,_,_,_,_,_,_,_,_]) rfl rfl rfl rfl rfl (Q3 ?_))))
      refine Q16 (s6 + 1) (by omega) (by omega) [10,76,9,46,6,5,19,3,2,0] rfl (asK [] rfl) rfl
    ·
     replace h85:=of_decide_eq_false h85
     refine QH (Q8 (Q8 (Qh (Qa (Q2 (Q1 (wP rfl (wP rfl (Qr (d:=78) (v':=.int .i64 ((s5 + 1:Nat):Int)) (S':=[_,_,_,_,_,_,_,_,_,_,_,_]) rfl rfl (Qw (a:=s5) (b:=1) (by omega)) (Qs (S':=[_,_,_,_,_,_,_,_,_,_,_,_]) rfl rfl rfl rfl rfl (Q3 ?_)))))))))))
     refine Q16 (s5 + 1) (by omega) (by omega) [9,46,6,5,19,3,2,0] rfl (asK [] rfl) rfl
   ·
    replace h76:=of_decide_eq_false h76
    refine QH (Q8 (Q8 (Qh (Q2 (Q4 (Q4 (Q1 (wP rfl (Q3 (Q2 (Qc (QI (σ:=List Hdr × List Twin × Nat) (fun s=>s.2.2 ≤ hs.length ∧ FlD hs Q2g s.1 s.2.2 s.2.1) (fun s=>hs.length - s.2.2) (fun s=>[(11,.int .i64 ((s.2.2:Nat):Int)),(76,.bool (decide (((s5:Nat):Int) < ((hs.length:Nat):Int)))),(9,.int .i64 ((s5:Nat):Int)),(46,.bool (decide (((s3.2.2:Nat):Int) < ((hs.length:Nat):Int)))),(6,.int .i64 ((s3.2.2:Nat):Int)),(5,.slice (some ⟨g42,0,none⟩) hs.length hs.length),(19,.bool (decide (((s1.2:Nat):Int) < ((hs.length:Nat):Int)))),(3,.int .i64 ((s1.2:Nat):Int)),(2,.bool false),(0,.slice p hs.length c)]) (fun s=>[]) (fun s=>[.own 77 1 QF (.slice (some ⟨g42,0,none⟩) hs.length hs.length) s.1,.own 77 1 QF (.slice p hs.length c) hs,Qk 27 4 s.2.1]) (s3.1,s3.2.1,0) ⟨Nat.zero_le _,oks3.2.again⟩ [11,76,9,46,6,5,19,3,2,0] rfl (asK [] rfl) rfl (fun s7 oks7=>(Q4 ?_))))))))))))))
    refine Q4 (Q1 (wP rfl (wP rfl (wN rfl Q5o (wP rfl (Q3 (Q2 (Q5 [126,11,76,9,46,6,5,19,3,2,0] (S':=[_,_,_,_,_,_,_,_,_,_,_]) rfl ?_))))))))
    refine Qm rfl (fun h126=>?_) (fun h126=>?_)
    ·
     replace h126:=of_decide_eq_true h126
     have hk7:s7.2.2 < hs.length:=by omega
     obtain ⟨y7,hy7⟩ : ∃ y,hs[s7.2.2]? = some y:=⟨_,List.getElem?_eq_getElem hk7⟩
     have hB7:y7.2.1 ≤ 1073741824:=hb _ (List.mem_of_getElem? hy7)
     obtain ⟨r7,hr7,hh7,hl7⟩:=oks7.2.at_ hy7
     refine Qj (Q2 (Q4 (Qc (Q4 (Q1 (Q4J (m:=64) celR (none:Cel) rfl rfl rfl (Q0 rfl) rfl rfl rfl rfl rfl Q6F tR_27 rfl rfl (fun _ _=>cel_any rfl) (by omega) (by omega) (fun g129=>(wP rfl (Q3 (Q2 (Q5 [12,126,11,76,9,46,6,5,19,3,2,0] (S':=[_,_,_,_,_,_,_,_,_,_,_,_]) rfl (Q4 (Q4 (Q1 ?_))))))))))))))
     refine wP rfl (Q3 (Q2 (Qc (QI (σ:=List Cel × Nat) (fun s=>s.2 ≤ 64 ∧ s.1.length = 64) (fun s=>64 - s.2) (fun s=>[(13,.int .i64 ((s.2:Nat):Int)),(12,.slice (some ⟨g129,0,none⟩) 64 64),(126,.bool (decide (((s7.2.2:Nat):Int) < ((hs.length:Nat):Int)))),(11,.int .i64 ((s7.2.2:Nat):Int)),(76,.bool (decide (((s5:Nat):Int) < ((hs.length:Nat):Int)))),(9,.int .i64 ((s5:Nat):Int)),(46,.bool (decide (((s3.2.2:Nat):Int) < ((hs.length:Nat):Int)))),(6,.int .i64 ((s3.2.2:Nat):Int)),(5,.slice (some ⟨g42,0,none⟩) hs.length hs.length),(19,.bool (decide (((s1.2:Nat):Int) < ((hs.length:Nat):Int)))),(3,.int .i64 ((s1.2:Nat):Int)),(2,.bool false),(0,.slice p hs.length c)]) (fun s=>[]) (fun s=>[.own 27 4 celR (.slice (some ⟨g129,0,none⟩) 64 64) s.1,.own 77 1 QF (.slice (some ⟨g42,0,none⟩) hs.length hs.length) s7.1,.own 77 1 QF (.slice p hs.length c) hs,Qk 27 4 s7.2.1]) (List.replicate 64 (none:Cel),0) ⟨Nat.zero_le _,by simp⟩ [13,12,126,11,76,9,46,6,5,19,3,2,0] rfl (asK [] rfl) rfl (fun s8 oks8=>(Q4 (Q4 (Q1 (wP rfl (wP rfl (Q3 (Q2 (Q5 [131,13,12,126,11,76,9,46,6,5,19,3,2,0] (S':=[_,_,_,_,_,_,_,_,_,_,_,_,_,_]) rfl ?_)))))))))))))
     refine Qm rfl (fun h131=>?_) (fun h131=>?_)
     ·
      replace h131:=of_decide_eq_true h131
      refine Qj (Q2 (Q4 (Qc (Q1 (wP rfl (wP rfl (wP rfl (wP rfl (wN rfl Q5o (wP rfl (Qr (d:=139) (v':=.int .i64 ((s7.2.2 + hs.length:Nat):Int)) (S':=[_,_,_,_,_,_,_,_,_,_,_,_,_,_,_,_,_,_,_]) rfl rfl (Qw (a:=s7.2.2) (b:=hs.length) (by omega)) (wP rfl (wC [] [0,1,2,3] rfl fn_125 rfl (Q5f ((s7.2.2 + hs.length:Nat):Int) ((s8.2:Nat):Int)) (asK [] rfl) rfl (H':=[_,_,_,_]) rfl ?_)))))))))))))
      rintro _ _ _ ⟨rfl,rfl,rfl⟩
      refine Q2c 0 s8.2 rfl rfl rfl (Q0 rfl) rfl rfl rfl rfl rfl (by rw [oks8.2]; omega) Q6F Q11 (Q3r (u:=some ([.int .i64 0,.int .i64 (Q3b ((s7.2.2 + hs.length:Nat):Int) ((s8.2:Nat):Int)),.slice none 0 0,.slice none 0 0] : List Value)) 0 s8.2 rfl rfl rfl rfl rfl (by rw [oks8.2]; omega) rfl rfl Q11 rfl (fun _ _ _=>cel_some rfl) (H':=[_,_,_,_]) rfl (Q3 (Qa (Q2 (Q1 (wP rfl (wP rfl (Qr (d:=133) (v':=.int .i64 ((s8.2 + 1:Nat):Int)) (S':=[_,_,_,_,_,_,_,_,_,_,_,_,_,_,_,_,_,_,_,_,_,_,_,_]) rfl rfl (Qw (a:=s8.2) (b:=1) (by omega)) (Qs (S':=[_,_,_,_,_,_,_,_,_,_,_,_,_,_,_,_,_,_,_,_,_,_,_,_]) rfl rfl rfl rfl rfl (Q3 ?_))))))))))
      refine Q16 (s8.1.set s8.2 (some ([.int .i64 0,.int .i64 (Q3b ((s7.2.2 + hs.length:Nat):Int) ((s8.2:Nat):Int)),.slice none 0 0,.slice none 0 0] : List Value)),s8.2 + 1) (by show 64 - (s8.2 + 1) < _; omega) ⟨by show s8.2 + 1 ≤ 64; omega,by show (List.set _ _ _).length = 64; rw [List.length_set]; exact oks8.2⟩ [13,12,126,11,76,9,46,6,5,19,3,2,0] rfl (asK [] rfl) rfl
     ·
      replace h131:=of_decide_eq_false h131
      refine QH (Q8 (Q8 (Qh (Q2 (Q1 (wP rfl (wP rfl (wP rfl (wP rfl (Q1r 2 s7.2.2 rfl rfl rfl (Q0 rfl) rfl rfl rfl rfl rfl hk7 Q5o Q4P (fun g147 eg147=>?_)))))))))))
      subst eg147
      refine QU QW 2 s7.2.2 0 rfl rfl rfl (Q0 rfl) rfl rfl rfl hy7 Q4P tA_77 (v:=fun _=>.slice y7.1 y7.2.1 y7.2.2) (fun _=>rfl) (fun _=>rfl) (fun _ _=>(wP rfl (Qv [_,_,_,Qk 27 4 (s7.2.1.set s7.2.2 ⟨r7.h,r7.l,r7.h,r7.l⟩)] (fun _ h=>h.flReset 3 s7.2.2 rfl hr7) (Q8A 3 s7.2.2 0 rfl rfl rfl (Q0 rfl) rfl rfl (Q88 _ hr7) (by show _ = some (hdv r7.h); rw [hh7]; rfl) rfl rfl oks8.2 (by decide) Q6F tR_27 rfl rfl (by show r7.l.length + _ ≤ _; rw [hl7,Q10]; omega) (by show (r7.l.length + _) * _ ≤ _; rw [hl7,Q10]; omega) (H2:=fun gh150=>[_,_,_,Qk 27 4 ((s7.2.1.set s7.2.2 ⟨r7.h,r7.l,r7.h,r7.l⟩).set s7.2.2 ⟨r7.h,r7.l,gh150,r7.l ++ s8.1⟩)]) (fun _=>rfl) (fun gh150=>(Q2k 0 rfl (H':=[_,_,_]) rfl (Q2c 0 s7.2.2 rfl rfl rfl (Q0 rfl) rfl rfl rfl rfl rfl (by rw [oks7.2.2.1]; exact hk7) Q5o Q4P (Q3r (u:=gh150) 0 s7.2.2 rfl rfl rfl rfl rfl (by rw [oks7.2.2.1]; exact hk7) rfl rfl Q4P rfl (fun _ _ _=>rfl) (H':=[_,_,_]) rfl (Q3 (Qa (Q2 (Q1 (wP rfl (wP rfl (Qr (d:=128) (v':=.int .i64 ((s7.2.2 + 1:Nat):Int)) (S':=[_,_,_,_,_,_,_,_,_,_,_,_,_,_,_,_,_,_,_,_,_,_,_,_]) rfl rfl (Qw (a:=s7.2.2) (b:=1) (by omega)) ?_)))))))))))))))
      refine Qs (S':=[_,_,_,_,_,_,_,_,_,_,_,_,_,_,_,_,_,_,_,_,_,_,_,_]) rfl rfl rfl rfl rfl (Q3 ?_)
      refine Q16 (s7.1.set s7.2.2 gh150,(s7.2.1.set s7.2.2 ⟨r7.h,r7.l,r7.h,r7.l⟩).set s7.2.2 ⟨r7.h,r7.l,gh150,r7.l ++ s8.1⟩,s7.2.2 + 1) (by show hs.length - (s7.2.2 + 1) < _; omega) ⟨by show s7.2.2 + 1 ≤ _; omega,oks7.2.app hy7 hr7 _ _⟩ [11,76,9,46,6,5,19,3,2,0] rfl (asK [] rfl) rfl
    ·
     replace h126:=of_decide_eq_false h126
     refine QH (Q8 (Q8 (Qh (Q2 (Q4 (Q4 (Q1 (wP rfl (Q3 (Q2 (Qc (QI (σ:=Nat) (fun s=>s ≤ hs.length) (fun s=>hs.length - s) (fun s=>[(14,.int .i64 ((s:Nat):Int)),(126,.bool (decide (((s7.2.2:Nat):Int) < ((hs.length:Nat):Int)))),(11,.int .i64 ((s7.2.2:Nat):Int)),(76,.bool (decide (((s5:Nat):Int) < ((hs.length:Nat):Int)))),(9,.int .i64 ((s5:Nat):Int)),(46,.bool (decide (((s3.2.2:Nat):Int) < ((hs.length:Nat):Int)))),(6,.int .i64 ((s3.2.2:Nat):Int)),(5,.slice (some ⟨g42,0,none⟩) hs.length hs.length),(19,.bool (decide (((s1.2:Nat):Int) < ((hs.length:Nat):Int)))),(3,.int .i64 ((s1.2:Nat):Int)),(2,.bool false),(0,.slice p hs.length c)]) (fun s=>[]) (fun s=>[.own 77 1 QF (.slice (some ⟨g42,0,none⟩) hs.length hs.length) s7.1,.own 77 1 QF (.slice p hs.length c) hs,Qk 27 4 s7.2.1]) 0 (Nat.zero_le _) [14,126,11,76,9,46,6,5,19,3,2,0] rfl (asK [] rfl) rfl (fun s9 oks9=>(Q4 ?_))))))))))))))
     refine Q4 (Q1 (wP rfl (wP rfl (wN rfl Q5o (wP rfl (Q3 (Q2 (Q5 [155,14,126,11,76,9,46,6,5,19,3,2,0] (S':=[_,_,_,_,_,_,_,_,_,_,_,_,_]) rfl ?_))))))))
     refine Qm rfl (fun h155=>?_) (fun h155=>?_)
     ·
      replace h155:=of_decide_eq_true h155
      have hk9:s9 < hs.length:=by omega
      obtain ⟨y9,hy9⟩ : ∃ y,hs[s9]? = some y:=⟨_,List.getElem?_eq_getElem hk9⟩
      have hB9:y9.2.1 ≤ 1073741824:=hb _ (List.mem_of_getElem? hy9)
      obtain ⟨r9,hr9,hh9,hl9,hg9,t9,hm9⟩:=oks7.2.look (by omega) hy9
      refine Q6Y 2 rfl hr9 (fun hA9 hC9=>?_)
      rw [hl9,Q10] at hA9
      have hE9:=hC9
      rw [hm9,List.length_append,Q10] at hE9
      refine Qj (Q2 (Q4 (Qc (Q4 (Q1 (wP rfl (Q3 (Q2 (Qc (QI (σ:=Nat) (fun s=>s ≤ y9.2.1) (fun s=>y9.2.1 - s) (fun s=>[(15,.int .i64 ((s:Nat):Int)),(155,.bool (decide (((s9:Nat):Int) < ((hs.length:Nat):Int)))),(14,.int .i64 ((s9:Nat):Int)),(126,.bool (decide (((s7.2.2:Nat):Int) < ((hs.length:Nat):Int)))),(11,.int .i64 ((s7.2.2:Nat):Int)),(76,.bool (decide (((s5:Nat):Int) < ((hs.length:Nat):Int)))),(9,.int .i64 ((s5:Nat):Int)),(46,.bool (decide (((s3.2.2:Nat):Int) < ((hs.length:Nat):Int)))),(6,.int .i64 ((s3.2.2:Nat):Int)),(5,.slice (some ⟨g42,0,none⟩) hs.length hs.length),(19,.bool (decide (((s1.2:Nat):Int) < ((hs.length:Nat):Int)))),(3,.int .i64 ((s1.2:Nat):Int)),(2,.bool false),(0,.slice p hs.length c)]) (fun s=>[]) (fun s=>[.own 77 1 QF (.slice (some ⟨g42,0,none⟩) hs.length hs.length) s7.1,.own 77 1 QF (.slice p hs.length c) hs,Qk 27 4 s7.2.1]) 0 (Nat.zero_le _) [15,155,14,126,11,76,9,46,6,5,19,3,2,0] rfl (asK [] rfl) rfl (fun s10 oks10=>(Q4 (Q4 (Q1 ?_))))))))))))))
      refine wP rfl (wP rfl (wP rfl (Q1r 1 s9 rfl rfl rfl (Q0 rfl) rfl rfl rfl rfl rfl hk9 Q5o Q4P (fun g161 eg161=>?_))))
      subst eg161
      refine QU QW 1 s9 0 rfl rfl rfl (Q0 rfl) rfl rfl rfl hy9 Q4P tA_77 (v:=fun _=>.slice y9.1 y9.2.1 y9.2.2) (fun _=>rfl) (fun _=>rfl) (fun _ _=>(wN rfl Q6F (wP rfl (Q3 (Q2 (Q5 [164,15,155,14,126,11,76,9,46,6,5,19,3,2,0] (S':=[_,_,_,_,_,_,_,_,_,_,_,_,_,_,_]) rfl ?_))))))
      refine Qm rfl (fun h164=>?_) (fun h164=>?_)
      ·
       replace h164:=of_decide_eq_true h164
       refine Qj (Q2 (Q4 (Qc (Q4 (Q1l [0,1,2,3,4,5,6,7,8,11,12,13,14,15,16,17,18,19,20,21,24,25] rfl rfl (fun hok=>(xP hok 0 rfl (xP hok 1 rfl (Q1d hok 2 1 s9 rfl rfl rfl (Q0 rfl) rfl rfl rfl rfl rfl rfl hk9 Q5o Q4P (QV hok 3 QW 1 s9 0 rfl rfl rfl (Q0 rfl) rfl rfl rfl rfl hy9 Q4P tA_77 (v:=.slice y9.1 y9.2.1 y9.2.2) rfl rfl (fun _=>(xP hok 4 rfl (Q51 hok 5 (p:=y9.1) (m:=y9.2.1) (cp:=y9.2.2) 2 s9 s10 rfl rfl rfl (Q0 rfl) rfl rfl rfl hr9 hh9 rfl rfl rfl (by omega) (by rw [hl9,Q10]) Q6F Q11 (fun g172 eg172=>(Q5X hok 6 2 s9 s10 rfl rfl rfl (Q0 rfl) rfl rfl rfl hr9 (Q75 hh9 eg172) rfl (cs:=Q2g s9 s10) (by rw [hl9]; exact Q56 (by omega)) Q11 Q1W rfl (v:=.agg #[.int .i64 0,.int .i64 (Q3b ((s9:Nat):Int) ((s10:Nat):Int)),.slice none 0 0,.slice none 0 0]) rfl (xP hok 7 rfl ?_))))))))))))))))
       refine xP hok 8 rfl (xS hok 9 rfl (wC [] [0,1,2] rfl fn_125 rfl (Q5f ((s9:Nat):Int) ((s10:Nat):Int)) (asK [] rfl) rfl (H':=[_,_,_]) rfl ?_))
       rintro _ _ _ ⟨rfl,rfl,rfl⟩
       refine Q3 (QT [] [2,1] rfl rfl (xS hok 10 rfl (wC [] [0,1,2] rfl fn_38 rfl (Q3Y 2 0 (Q3b ((s9:Nat):Int) ((s10:Nat):Int)) 0 (Q3b ((s9:Nat):Int) ((s10:Nat):Int)) _ (Q7k _)) (asK [] rfl) rfl (H':=[_,_,_]) rfl ?_)))
       rintro _ _ _ ⟨rfl,rfl,rfl⟩
       refine Q3 (QT [] [1] rfl rfl (xP hok 11 rfl (xP hok 12 rfl (xP hok 13 rfl (xP hok 14 rfl (Q1d hok 15 0 s9 rfl rfl rfl (Q0 rfl) rfl rfl rfl rfl rfl rfl (by rw [oks7.2.2.1]; exact hk9) Q5o Q4P (QV hok 16 QW 0 s9 0 rfl rfl rfl (Q0 rfl) rfl rfl rfl rfl hg9 Q4P tA_77 (v:=.slice r9.g.1 r9.g.2.1 r9.g.2.2) rfl rfl (fun _=>(xP hok 17 rfl (Q6z hok 18 (p:=r9.g.1) (m:=r9.g.2.1) (cp:=r9.g.2.2) 2 s9 s10 rfl rfl rfl (Q0 rfl) rfl rfl rfl hr9 rfl rfl rfl rfl (by omega) hC9.symm Q6F Q11 (fun g185 eg185=>(Q5Y hok 19 2 s9 s10 rfl rfl rfl (Q0 rfl) rfl rfl rfl hr9 (Q7C eg185) rfl (cs:=Q2g s9 s10) (by rw [hm9]; exact app_at (by omega)) Q11 Q1W rfl (v:=.agg #[.int .i64 0,.int .i64 (Q3b ((s9:Nat):Int) ((s10:Nat):Int)),.slice none 0 0,.slice none 0 0]) rfl (xP hok 20 rfl (xP hok 21 rfl (xS hok 22 rfl ?_)))))))))))))))
       refine wC [] [0,1,2] rfl fn_125 rfl (Q5f ((s9:Nat):Int) ((s10:Nat):Int)) (asK [] rfl) rfl (H':=[_,_,_]) rfl ?_
       rintro _ _ _ ⟨rfl,rfl,rfl⟩
       refine Q3 (QT [] [2,0,2,1] rfl rfl (xS hok 23 rfl (wC [] [0,1,2] rfl fn_38 rfl (Q3Y 2 0 (Q3b ((s9:Nat):Int) ((s10:Nat):Int)) 0 (Q3b ((s9:Nat):Int) ((s10:Nat):Int)) _ (Q7k _)) (asK [] rfl) rfl (H':=[_,_,_]) rfl ?_)))
       rintro _ _ _ ⟨rfl,rfl,rfl⟩
       refine Q3 (QT [] [0,2,1] rfl rfl (xP hok 24 rfl (xP hok 25 rfl (Q19 hok rfl (Q2 (Q5 [192,164,15,155,14,126,11,76,9,46,6,5,19,3,2,0] (S':=[_,_,_,_,_,_,_,_,_,_,_,_,_,_,_,_]) rfl (Q58 rfl (Qj (Qa (Q2 (Q1 (wP rfl (wP rfl ?_)))))))))))))
       refine Qr (d:=166) (v':=.int .i64 ((s10 + 1:Nat):Int)) (S':=[_,_,_,_,_,_,_,_,_,_,_,_,_,_,_,_,_]) rfl rfl (Qw (a:=s10) (b:=1) (by omega)) (Qs (S':=[_,_,_,_,_,_,_,_,_,_,_,_,_,_,_,_,_]) rfl rfl rfl rfl rfl (Q3 ?_))
       refine Q16 (s10 + 1) (by omega) (by omega) [15,155,14,126,11,76,9,46,6,5,19,3,2,0] rfl (asK [] rfl) rfl
      ·
       replace h164:=of_decide_eq_false h164
       refine QH (Q8 (Q8 (Qh (Qa (Q2 (Q1 (wP rfl (wP rfl (Qr (d:=157) (v':=.int .i64 ((s9 + 1:Nat):Int)) (S':=[_,_,_,_,_,_,_,_,_,_,_,_,_,_,_,_]) rfl rfl (Qw (a:=s9) (b:=1) (by omega)) (Qs (S':=[_,_,_,_,_,_,_,_,_,_,_,_,_,_,_,_]) rfl rfl rfl rfl rfl (Q3 ?_)))))))))))
       refine Q16 (s9 + 1) (by omega) (by omega) [14,126,11,76,9,46,6,5,19,3,2,0] rfl (asK [] rfl) rfl
     ·
      replace h155:=of_decide_eq_false h155
      refine QH (Q8 (Q8 (Qh (Q2 (Q4 (Q1 (Qs (S':=[_,_,_,_,_,_,_,_,_,_,_,_]) rfl rfl rfl rfl rfl (Q3 (Q2 (Qn (Qp (Hr:=[Qk 27 4 s7.2.1]) [2] Tryz.results82 (Qd rfl) ?_ (asK [] rfl) rfl rfl (.inl rfl))))))))))))
      exact ⟨_,oks7.2.left,rfl,rfl,rfl⟩
theorem Q3J (N:Nat) (a0:Int) (a1:Int) (a2:Int) (a3:Int) (a4:Int) (a5:Int) (a6:Int) (a7:Int) (o0:Bool) (hm:Q3Z N a0 a1 a2 a3 a4 a5 a6 a7 = some o0):Q1v Tryz.prog 28 [.agg #[.int .i64 a0,.int .i64 a1,.int .i64 a2,.int .i64 a3,.slice none 0 0,.slice none 0 0],.agg #[.int .i64 a4,.int .i64 a5,.int .i64 a6,.int .i64 a7,.slice none 0 0,.slice none 0 0]] [] [] (fun v Φr Hr=>v = .bool o0 ∧ Φr = [] ∧ Hr = []):=by
 unfold Q3Z at hm
 refine Qx Tryz.func28 rfl Tryz.ntmps28 rfl (S:=[_,_]) rfl (fun C=>(Q4 (Q1 (wB rfl (fun g2=>(wB rfl (fun g3=>(wP rfl (Q3 (Q2 (Q5 [3,2] (S':=[_,_]) rfl (Q4 (Q1 (wF rfl Q4A (wD 1 0 rfl Q1g Q1D rfl (wF rfl Q4A ?_))))))))))))))))
 refine wD 0 0 rfl Q1g Q1D rfl (wP rfl (wP rfl ?_))
 refine QA (d:=10) (S':=[_,_,_,_,_,_,_]) rfl rfl (fun hs10=>?_) (fun hs10=>?_)
 ·
  replace hm:=QQ hm hs10
  refine wF rfl Q4h (wD 1 1 rfl Q1g Q1D rfl (wF rfl Q4h (wD 0 1 rfl Q1g Q1D rfl (wP rfl (wP rfl (wP rfl ?_))))))
  refine QA (d:=17) (S':=[_,_,_,_,_,_,_,_,_,_,_,_,_,_]) rfl rfl (fun hs17=>?_) (fun hs17=>?_)
  ·
   replace hm:=QQ hm hs17
   refine wF rfl Q4b (Q1e 1 2 rfl rfl rfl (Q0 rfl) rfl rfl rfl (cs:=[_,_,_,_]) rfl Q11 Q1W rfl rfl (wF rfl Q4b (Q1e 0 2 rfl rfl rfl (Q0 rfl) rfl rfl rfl (cs:=[_,_,_,_]) rfl Q11 Q1W rfl rfl (Q2l (.sli 3 QO none 0 ([] : List FactD)) (fun _ _ _=>Q2B) (Q2l (.sli 3 R_V none 0 ([] : List V)) (fun _ _ _=>Q2B) (Q2l (.sli 3 QO none 0 ([] : List FactD)) (fun _ _ _=>Q2B) (Q2l (.sli 3 R_V none 0 ([] : List V)) (fun _ _ _=>Q2B) ?_)))))))
   obtain ⟨v22,hc22,hm⟩:=Q6 hm
   refine wC [] [0,1] rfl fn_38 rfl (Q4Z N a2 a3 none 0 ([] : List FactD) none 0 ([] : List V) a6 a7 none 0 ([] : List FactD) none 0 ([] : List V) _ hc22) (asK [3,2,1,0] rfl) rfl (H':=[_,_]) rfl ?_
   rintro _ _ _ ⟨rfl,rfl,rfl⟩
   refine wP rfl (wP rfl (Q3 (Q2 (Q5 [4] (S':=[_]) rfl (Qn ?_)))))
   have hE:=(Option.some.inj hm).symm
   replace hE:=hE.symm
   subst hE
   refine Qp (Hr:=[]) [] Tryz.results28 (Qd rfl) ⟨rfl,rfl,rfl⟩ (asK [] rfl) rfl rfl (.inl rfl)
  ·
   replace hm:=QP hm hs17
   refine wO rfl (wO rfl (wO rfl (wO rfl (wO rfl (wP rfl (wP rfl (Q3 (Q2 (Q5 [4] (S':=[_]) rfl (Qn ?_))))))))))
   have hE:=(Option.some.inj hm).symm
   replace hE:=hE.symm
   subst hE
   refine Qp (Hr:=[]) [] Tryz.results28 (Qd rfl) ⟨rfl,rfl,rfl⟩ (asK [] rfl) rfl rfl (.inl rfl)
 ·
  replace hm:=QP hm hs10
  refine wO rfl (wO rfl (wO rfl (wO rfl (wO rfl (wP rfl (wP rfl (wO rfl (wO rfl (wO rfl (wO rfl (wO rfl (wP rfl (wP rfl ?_)))))))))))))
  refine Q3 (Q2 (Q5 [4] (S':=[_]) rfl (Qn ?_)))
  have hE:=(Option.some.inj hm).symm
  replace hE:=hE.symm
  subst hE
  refine Qp (Hr:=[]) [] Tryz.results28 (Qd rfl) ⟨rfl,rfl,rfl⟩ (asK [] rfl) rfl rfl (.inl rfl)
def Q26 (k i:Int):Int:=IntKind.wrap .i64 ((IntKind.wrap .i64 (1000003 * (IntKind.wrap .i64 (k + 7)))) + i)
theorem Q4C (k i:Int):Q1v Tryz.prog 24 [.int .i64 k,.int .i64 i] [] [] (fun v Φr Hr=>v = .agg #[.int .i64 (Q26 k i),.int .i64 0,.int .i64 0,.int .i64 0,.slice none 0 0,.slice none 0 0] ∧ Φr = [] ∧ Hr = []):=Q3f 0 k i rfl
def Q1I (k i:Nat):List Value:=[.int .i64 (Q26 ((k:Nat):Int) ((i:Nat):Int)),.int .i64 0,.int .i64 0,.int .i64 0,.slice none 0 0,.slice none 0 0]
theorem Q6K (z:Int):Q3Z 2 z 0 0 0 z 0 0 0 = some true:=by
  simp [Q3Z,Q21,Q44,Q1j,Q1B,Q23,Q1Y,Q2V,Q2s,Qg,Q5u,gd]
theorem fl_flatSessions (p:Option Addr) (c:Nat) (hs:List Hdr) (hL:hs.length ≤ 1073741824) (hb : ∀ h ∈ hs,h.2.1 ≤ 1073741824):Q1v Tryz.prog 89 [.slice p hs.length c] [] [.own 32 1 QF (.slice p hs.length c) hs,Qk 35 6 (hs.map Q1c)] (fun v Φr Hr=>∃ rows,FlE hs Q1I rows ∧ v = .bool true ∧ Φr = [] ∧ Hr = [Qk 35 6 rows]):=by
 refine Qx Tryz.func89 rfl Tryz.ntmps89 rfl (S:=[_]) rfl (fun C=>(Q4 (Q1 (wP rfl (Q3 (Q2 (Q4 (Q4 (Q1 (wP rfl (Q3 (Q2 (Qc (QI (σ:=List Twin × Nat) (fun s=>s.2 ≤ hs.length ∧ FlA hs Q1I s.2 0 s.1) (fun s=>hs.length - s.2) (fun s=>[(3,.int .i64 ((s.2:Nat):Int)),(2,.bool false),(0,.slice p hs.length c)]) (fun s=>[]) (fun s=>[.own 32 1 QF (.slice p hs.length c) hs,Qk 35 6 s.1]) (hs.map Q1c,0) ⟨Nat.zero_le _,FlA.start⟩ [3,2,0] rfl (asK [] rfl) rfl (fun s1 oks1=>?_)))))))))))))))
 refine Q4 (Q4 (Q1 (wP rfl (wP rfl (wN rfl Q5s (wP rfl (Q3 (Q2 (Q5 [19,3,2,0] (S':=[_,_,_,_]) rfl ?_)))))))))
 refine Qm rfl (fun h19=>?_) (fun h19=>?_)
 ·
  replace h19:=of_decide_eq_true h19
  have hk1:s1.2 < hs.length:=by omega
  obtain ⟨y1,hy1⟩ : ∃ y,hs[s1.2]? = some y:=⟨_,List.getElem?_eq_getElem hk1⟩
  have hB1:y1.2.1 ≤ 1073741824:=hb _ (List.mem_of_getElem? hy1)
  refine Qj (Q2 (Q4 (Qc (Q4 (Q1 (wP rfl (Q3 (Q2 (Qc (QI (σ:=List Twin × Nat) (fun s=>s.2 ≤ y1.2.1 ∧ FlA hs Q1I s1.2 s.2 s.1) (fun s=>y1.2.1 - s.2) (fun s=>[(4,.int .i64 ((s.2:Nat):Int)),(19,.bool (decide (((s1.2:Nat):Int) < ((hs.length:Nat):Int)))),(3,.int .i64 ((s1.2:Nat):Int)),(2,.bool false),(0,.slice p hs.length c)]) (fun s=>[]) (fun s=>[.own 32 1 QF (.slice p hs.length c) hs,Qk 35 6 s.1]) (s1.1,0) ⟨Nat.zero_le _,oks1.2⟩ [4,19,3,2,0] rfl (asK [] rfl) rfl (fun s2 oks2=>(Q4 (Q4 (Q1 ?_))))))))))))))
  refine wP rfl (wP rfl (wP rfl (Q1r 0 s1.2 rfl rfl rfl (Q0 rfl) rfl rfl rfl rfl rfl hk1 Q5s Q1L (fun g25 eg25=>?_))))
  subst eg25
  refine QU QW 0 s1.2 0 rfl rfl rfl (Q0 rfl) rfl rfl rfl hy1 Q1L Q3Q (v:=fun _=>.slice y1.1 y1.2.1 y1.2.2) (fun _=>rfl) (fun _=>rfl) (fun _ _=>(wN rfl QB (wP rfl (Q3 (Q2 (Q5 [28,4,19,3,2,0] (S':=[_,_,_,_,_,_]) rfl ?_))))))
  refine Qm rfl (fun h28=>?_) (fun h28=>?_)
  ·
   replace h28:=of_decide_eq_true h28
   obtain ⟨r2,hr2,hh2,hsm2,hl2⟩:=oks2.2.at_ hy1
   refine Qj (Q2 (Q4 (Qc (Q1l [0,1,2,3,4,5,6,8] rfl rfl (fun hok=>(xP hok 0 rfl (xP hok 1 rfl (Q1d hok 2 0 s1.2 rfl rfl rfl (Q0 rfl) rfl rfl rfl rfl rfl rfl hk1 Q5s Q1L (QV hok 3 QW 0 s1.2 0 rfl rfl rfl (Q0 rfl) rfl rfl rfl rfl hy1 Q1L Q3Q (v:=.slice y1.1 y1.2.1 y1.2.2) rfl rfl (fun _=>(xP hok 4 rfl (xP hok 5 rfl (xP hok 6 rfl (xS hok 7 rfl (wC [] [0,1] rfl fn_24 rfl (Q4C ((s1.2:Nat):Int) ((s2.2:Nat):Int)) (asK [] rfl) rfl (H':=[_,_]) rfl ?_)))))))))))))))
   rintro _ _ _ ⟨rfl,rfl,rfl⟩
   refine Q3 (QT [] [0] rfl rfl (Q51 hok 8 (p:=y1.1) (m:=y1.2.1) (cp:=y1.2.2) 1 s1.2 s2.2 rfl rfl rfl (Q0 rfl) rfl rfl rfl hr2 hh2 rfl rfl rfl (by omega) hl2 QB QN (fun g39 eg39=>(xS hok 9 rfl (Q8b (cs:=Q1I s1.2 s2.2) 1 s1.2 s2.2 rfl rfl rfl rfl hr2 hsm2 (Q75 hh2 eg39) rfl (by omega) rfl rfl QN rfl (one_of rfl) (H':=[_,_]) rfl (Q3 (QT [] [] rfl rfl (Q19 hok rfl (Qa (Q2 (Q1 (wP rfl (wP rfl (Qr (d:=30) (v':=.int .i64 ((s2.2 + 1:Nat):Int)) (S':=[_,_,_,_,_,_,_,_,_,_,_,_,_,_,_,_]) rfl rfl (Qw (a:=s2.2) (b:=1) (by omega)) ?_))))))))))))))
   refine Qs (S':=[_,_,_,_,_,_,_,_,_,_,_,_,_,_,_,_]) rfl rfl rfl rfl rfl (Q3 ?_)
   refine Q16 (s2.1.set s1.2 ⟨r2.h,(r2.l.set s2.2 (some (Q1I s1.2 s2.2))),r2.h,(r2.l.set s2.2 (some (Q1I s1.2 s2.2)))⟩,s2.2 + 1) (by show y1.2.1 - (s2.2 + 1) < _; omega) ⟨by show s2.2 + 1 ≤ _; omega,oks2.2.store hy1 hr2 (by omega)⟩ [4,19,3,2,0] rfl (asK [] rfl) rfl
  ·
   replace h28:=of_decide_eq_false h28
   refine QH (Q8 (Q8 (Qh (Qa (Q2 (Q1 (wP rfl (wP rfl (Qr (d:=21) (v':=.int .i64 ((s1.2 + 1:Nat):Int)) (S':=[_,_,_,_,_,_,_]) rfl rfl (Qw (a:=s1.2) (b:=1) (by omega)) (Qs (S':=[_,_,_,_,_,_,_]) rfl rfl rfl rfl rfl (Q3 ?_)))))))))))
   refine Q16 (s2.1,s1.2 + 1) (by show hs.length - (s1.2 + 1) < _; omega) ⟨by show s1.2 + 1 ≤ _; omega,oks2.2.next hy1 (by omega)⟩ [3,2,0] rfl (asK [] rfl) rfl
 ·
  replace h19:=of_decide_eq_false h19
  refine QH (Q8 (Q8 (Qh (Q2 (Q4 (Q1 (wP rfl (wN rfl Q5s (Q4J (m:=hs.length) QF (none,0,0) rfl rfl rfl (Q0 rfl) rfl rfl rfl rfl rfl Q5s tR_32 rfl rfl (fun _ _=>rfl) (by omega) (by omega) (fun g42=>(wP rfl (Q3 (Q2 (Q5 [5,19,3,2,0] (S':=[_,_,_,_,_]) rfl ?_))))))))))))))
  refine Q4 (Q4 (Q1 (wP rfl (Q3 (Q2 (Qc (QI (σ:=List Hdr × List Twin × Nat) (fun s=>s.2.2 ≤ hs.length ∧ FlB hs Q1I s.1 s.2.2 s.2.1) (fun s=>hs.length - s.2.2) (fun s=>[(6,.int .i64 ((s.2.2:Nat):Int)),(5,.slice (some ⟨g42,0,none⟩) hs.length hs.length),(19,.bool (decide (((s1.2:Nat):Int) < ((hs.length:Nat):Int)))),(3,.int .i64 ((s1.2:Nat):Int)),(2,.bool false),(0,.slice p hs.length c)]) (fun s=>[]) (fun s=>[.own 32 1 QF (.slice (some ⟨g42,0,none⟩) hs.length hs.length) s.1,.own 32 1 QF (.slice p hs.length c) hs,Qk 35 6 s.2.1]) (List.replicate hs.length (none,0,0),s1.1,0) ⟨Nat.zero_le _,oks1.2.grow (by omega) (by simp)⟩ [6,5,19,3,2,0] rfl (asK [] rfl) rfl (fun s3 oks3=>(Q4 (Q4 (Q1 (wP rfl (wP rfl (wN rfl Q5s ?_))))))))))))))
  refine wP rfl (Q3 (Q2 (Q5 [46,6,5,19,3,2,0] (S':=[_,_,_,_,_,_,_]) rfl ?_)))
  refine Qm rfl (fun h46=>?_) (fun h46=>?_)
  ·
   replace h46:=of_decide_eq_true h46
   have hk3:s3.2.2 < hs.length:=by omega
   obtain ⟨y3,hy3⟩ : ∃ y,hs[s3.2.2]? = some y:=⟨_,List.getElem?_eq_getElem hk3⟩
   have hB3:y3.2.1 ≤ 1073741824:=hb _ (List.mem_of_getElem? hy3)
   refine Qj (Q2 (Q4 (Qc (Q4 (Q1 (wP rfl (wP rfl (Q1r 1 s3.2.2 rfl rfl rfl (Q0 rfl) rfl rfl rfl rfl rfl hk3 Q5s Q1L (fun g51 eg51=>?_)))))))))
   subst eg51
   refine QU QW 1 s3.2.2 0 rfl rfl rfl (Q0 rfl) rfl rfl rfl hy3 Q1L Q3Q (v:=fun _=>.slice y3.1 y3.2.1 y3.2.2) (fun _=>rfl) (fun _=>rfl) (fun _ _=>(wP rfl (Q3 (Q2 (Q5 [7,46,6,5,19,3,2,0] (S':=[_,_,_,_,_,_,_,_]) rfl (Q4 (Q4 (Q1 (wP rfl (Q3 (Q2 (Qc (QI (σ:=List Twin × Hdr × Nat) (fun s=>s.2.2 ≤ 64 ∧ FlC hs Q1I s3.1 s3.2.2 s.2.2 s.2.1 s.1) (fun s=>64 - s.2.2) (fun s=>[(8,.int .i64 ((s.2.2:Nat):Int)),(7,.slice s.2.1.1 s.2.1.2.1 s.2.1.2.2),(46,.bool (decide (((s3.2.2:Nat):Int) < ((hs.length:Nat):Int)))),(6,.int .i64 ((s3.2.2:Nat):Int)),(5,.slice (some ⟨g42,0,none⟩) hs.length hs.length),(19,.bool (decide (((s1.2:Nat):Int) < ((hs.length:Nat):Int)))),(3,.int .i64 ((s1.2:Nat):Int)),(2,.bool false),(0,.slice (some ⟨g51,0,none⟩) hs.length c)]) (fun s=>[]) (fun s=>[.own 32 1 QF (.slice (some ⟨g42,0,none⟩) hs.length hs.length) s3.1,.own 32 1 QF (.slice (some ⟨g51,0,none⟩) hs.length c) hs,Qk 35 6 s.1]) (s3.2.1,y3,0) ⟨Nat.zero_le _,oks3.2.begin hy3⟩ [8,7,46,6,5,19,3,2,0] rfl (asK [] rfl) rfl (fun s4 oks4=>(Q4 ?_)))))))))))))))
   refine Q4 (Q1 (wP rfl (wP rfl (Q3 (Q2 (Q5 [54,8,7,46,6,5,19,3,2,0] (S':=[_,_,_,_,_,_,_,_,_,_]) rfl ?_))))))
   refine Qm rfl (fun h54=>?_) (fun h54=>?_)
   ·
    replace h54:=of_decide_eq_true h54
    obtain ⟨r4,hr4,hh4,hl4,hg4,hm4⟩:=oks4.2.at_ hy3
    refine Qj (Q2 (Q4 (Qc (Q1 (wP rfl (wP rfl (wP rfl (wP rfl (Q2c 1 s3.2.2 rfl rfl rfl (Q0 rfl) rfl rfl rfl rfl rfl hk3 Q5s Q1L (QU QW 1 s3.2.2 0 rfl rfl rfl (Q0 rfl) rfl rfl rfl hy3 Q1L Q3Q (v:=fun _=>.slice y3.1 y3.2.1 y3.2.2) (fun _=>rfl) (fun _=>rfl) (fun _ _=>(wN rfl QB (wP rfl (wP rfl ?_))))))))))))))
    refine Qr (d:=65) (v':=.int .i64 ((y3.2.1 + s4.2.2:Nat):Int)) (S':=[_,_,_,_,_,_,_,_,_,_,_,_,_,_,_,_,_,_]) rfl rfl (Qw (a:=y3.2.1) (b:=s4.2.2) (by omega)) (wC [] [0,1,2] rfl fn_24 rfl (Q4C ((s3.2.2:Nat):Int) ((y3.2.1 + s4.2.2:Nat):Int)) (asK [] rfl) rfl (H':=[_,_,_]) rfl ?_)
    rintro _ _ _ ⟨rfl,rfl,rfl⟩
    refine QJ rfl rfl rfl (Q0 rfl) rfl QB QN Q4G rfl (zs:=[.int .i64 0,.int .i64 0,.int .i64 0,.int .i64 0,.slice none 0 0,.slice none 0 0]) (by kernel_rfl) rfl (out:=[_,_,_,_,_,_]) rfl (fun g67=>(Q8y (cs:=Q1I s3.2.2 (y3.2.1 + s4.2.2)) 3 s3.2.2 0 rfl rfl rfl (Q0 rfl) rfl rfl hr4 (by rw [hg4]; rfl) rfl rfl rfl (one_of rfl) QB Q6Q rfl rfl (by rw [hm4]; simp only [Q10,List.length_append,List.length_cons,List.length_nil]; omega) (by rw [hm4]; simp only [Q10,List.length_append,List.length_cons,List.length_nil]; omega) (H2:=fun gh68=>[_,_,_,Qk 35 6 (s4.1.set s3.2.2 ⟨r4.h,r4.l,gh68,r4.m ++ [some (Q1I s3.2.2 (y3.2.1 + s4.2.2))]⟩)]) (fun _=>rfl) (fun gh68=>(Q2k 0 rfl (H':=[_,_,_]) rfl (Qs (S':=[_,_,_,_,_,_,_,_,_,_,_,_,_,_,_,_,_,_,_,_,_]) rfl rfl rfl rfl rfl (Q3 (Qa (Q2 (Q1 (wP rfl (wP rfl (Qr (d:=56) (v':=.int .i64 ((s4.2.2 + 1:Nat):Int)) (S':=[_,_,_,_,_,_,_,_,_,_,_,_,_,_,_,_,_,_,_,_,_,_,_]) rfl rfl (Qw (a:=s4.2.2) (b:=1) (by omega)) (Qs (S':=[_,_,_,_,_,_,_,_,_,_,_,_,_,_,_,_,_,_,_,_,_,_,_]) rfl rfl rfl rfl rfl (Q3 ?_))))))))))))))
    refine Q16 (s4.1.set s3.2.2 ⟨r4.h,r4.l,gh68,r4.m ++ [some (Q1I s3.2.2 (y3.2.1 + s4.2.2))]⟩,gh68,s4.2.2 + 1) (by show 64 - (s4.2.2 + 1) < _; omega) ⟨by show s4.2.2 + 1 ≤ 64; omega,oks4.2.app hy3 hr4 _⟩ [8,7,46,6,5,19,3,2,0] rfl (asK [] rfl) rfl
   ·
    replace h54:=of_decide_eq_false h54
    refine QH (Q8 (Q8 (Qh (Q2 (Q1 (wP rfl (wP rfl (wP rfl (Q2c 0 s3.2.2 rfl rfl rfl (Q0 rfl) rfl rfl rfl rfl rfl (by rw [oks3.2.2.1]; exact hk3) Q5s Q1L (Q3r (u:=s4.2.1) 0 s3.2.2 rfl rfl rfl rfl rfl (by rw [oks3.2.2.1]; exact hk3) rfl rfl Q1L rfl (fun _ _ _=>rfl) (H':=[_,_,_]) rfl (Q3 (Qa (Q2 ?_)))))))))))))
    refine Q1 (wP rfl (wP rfl (Qr (d:=48) (v':=.int .i64 ((s3.2.2 + 1:Nat):Int)) (S':=[_,_,_,_,_,_,_,_,_,_,_,_,_,_,_]) rfl rfl (Qw (a:=s3.2.2) (b:=1) (by omega)) (Qs (S':=[_,_,_,_,_,_,_,_,_,_,_,_,_,_,_]) rfl rfl rfl rfl rfl (Q3 ?_)))))
    have hc3:=oks4.2
    rw [show s4.2.2 = 64 from by omega] at hc3
    refine Q16 (s3.1.set s3.2.2 s4.2.1,s4.1,s3.2.2 + 1) (by show hs.length - (s3.2.2 + 1) < _; omega) ⟨by show s3.2.2 + 1 ≤ _; omega,hc3.done hk3⟩ [6,5,19,3,2,0] rfl (asK [] rfl) rfl
  ·
   replace h46:=of_decide_eq_false h46
   refine QH (Q8 (Q8 (Qh (Q2 (Q4 (Q4 (Q1 (wP rfl (Q3 (Q2 (Qc (QI (σ:=Nat) (fun s=>s ≤ hs.length) (fun s=>hs.length - s) (fun s=>[(9,.int .i64 ((s:Nat):Int)),(46,.bool (decide (((s3.2.2:Nat):Int) < ((hs.length:Nat):Int)))),(6,.int .i64 ((s3.2.2:Nat):Int)),(5,.slice (some ⟨g42,0,none⟩) hs.length hs.length),(19,.bool (decide (((s1.2:Nat):Int) < ((hs.length:Nat):Int)))),(3,.int .i64 ((s1.2:Nat):Int)),(2,.bool false),(0,.slice p hs.length c)]) (fun s=>[]) (fun s=>[.own 32 1 QF (.slice (some ⟨g42,0,none⟩) hs.length hs.length) s3.1,.own 32 1 QF (.slice p hs.length c) hs,Qk 35 6 s3.2.1]) 0 (Nat.zero_le _) [9,46,6,5,19,3,2,0] rfl (asK [] rfl) rfl (fun s5 oks5=>(Q4 ?_))))))))))))))
   refine Q4 (Q1 (wP rfl (wP rfl (wN rfl Q5s (wP rfl (Q3 (Q2 (Q5 [76,9,46,6,5,19,3,2,0] (S':=[_,_,_,_,_,_,_,_,_]) rfl ?_))))))))
   refine Qm rfl (fun h76=>?_) (fun h76=>?_)
   ·
    replace h76:=of_decide_eq_true h76
    have hk5:s5 < hs.length:=by omega
    obtain ⟨y5,hy5⟩ : ∃ y,hs[s5]? = some y:=⟨_,List.getElem?_eq_getElem hk5⟩
    have hB5:y5.2.1 ≤ 1073741824:=hb _ (List.mem_of_getElem? hy5)
    obtain ⟨r5,hr5,hh5,hl5,hg5,hm5⟩:=oks3.2.look (by omega) hy5
    refine Q6Y 2 rfl hr5 (fun hA5 hC5=>?_)
    rw [hl5,Q10] at hA5
    rw [hm5,Q10] at hC5
    refine Qj (Q2 (Q4 (Qc (Q4 (Q1 (wP rfl (Q3 (Q2 (Qc (QI (σ:=Nat) (fun s=>s ≤ y5.2.1 + 64) (fun s=>y5.2.1 + 64 - s) (fun s=>[(10,.int .i64 ((s:Nat):Int)),(76,.bool (decide (((s5:Nat):Int) < ((hs.length:Nat):Int)))),(9,.int .i64 ((s5:Nat):Int)),(46,.bool (decide (((s3.2.2:Nat):Int) < ((hs.length:Nat):Int)))),(6,.int .i64 ((s3.2.2:Nat):Int)),(5,.slice (some ⟨g42,0,none⟩) hs.length hs.length),(19,.bool (decide (((s1.2:Nat):Int) < ((hs.length:Nat):Int)))),(3,.int .i64 ((s1.2:Nat):Int)),(2,.bool false),(0,.slice p hs.length c)]) (fun s=>[]) (fun s=>[.own 32 1 QF (.slice (some ⟨g42,0,none⟩) hs.length hs.length) s3.1,.own 32 1 QF (.slice p hs.length c) hs,Qk 35 6 s3.2.1]) 0 (Nat.zero_le _) [10,76,9,46,6,5,19,3,2,0] rfl (asK [] rfl) rfl (fun s6 oks6=>(Q4 (Q4 (Q1 ?_))))))))))))))
    refine wP rfl (wP rfl (wP rfl (Q2c 0 s5 rfl rfl rfl (Q0 rfl) rfl rfl rfl rfl rfl (by rw [oks3.2.2.1]; exact hk5) Q5s Q1L (QU QW 0 s5 0 rfl rfl rfl (Q0 rfl) rfl rfl rfl hg5 Q1L Q3Q (v:=fun _=>.slice r5.g.1 r5.g.2.1 r5.g.2.2) (fun _=>rfl) (fun _=>rfl) (fun _ _=>(wN rfl QB (wP rfl (Q3 (Q2 (Q5 [85,10,76,9,46,6,5,19,3,2,0] (S':=[_,_,_,_,_,_,_,_,_,_,_]) rfl ?_))))))))))
    refine Qm rfl (fun h85=>?_) (fun h85=>?_)
    ·
     replace h85:=of_decide_eq_true h85
     refine Qj (Q2 (Q4 (Qc (Q4 (Q1l [0,1,2,3,4,5,6,7,8,11,12,13,14,15,16,17,18,19,20,21,22,23,24,25,26,27,28,29,32,33,34] rfl rfl (fun hok=>(xP hok 0 rfl (xP hok 1 rfl (Q1d hok 2 0 s5 rfl rfl rfl (Q0 rfl) rfl rfl rfl rfl rfl rfl (by rw [oks3.2.2.1]; exact hk5) Q5s Q1L (QV hok 3 QW 0 s5 0 rfl rfl rfl (Q0 rfl) rfl rfl rfl rfl hg5 Q1L Q3Q (v:=.slice r5.g.1 r5.g.2.1 r5.g.2.2) rfl rfl (fun _=>(xP hok 4 rfl (Q6z hok 5 (p:=r5.g.1) (m:=r5.g.2.1) (cp:=r5.g.2.2) 2 s5 s6 rfl rfl rfl (Q0 rfl) rfl rfl rfl hr5 rfl rfl rfl rfl (by omega) (by rw [hm5,Q10]; omega) QB QN (fun g93 eg93=>(Q5Y hok 6 2 s5 s6 rfl rfl rfl (Q0 rfl) rfl rfl rfl hr5 (Q7C eg93) rfl (cs:=Q1I s5 s6) (by rw [hm5]; exact Q56 (by omega)) QN Q4O rfl (v:=.agg #[.int .i64 (Q26 ((s5:Nat):Int) ((s6:Nat):Int)),.int .i64 0,.int .i64 0,.int .i64 0,.slice none 0 0,.slice none 0 0]) rfl (xP hok 7 rfl ?_))))))))))))))))
     refine xP hok 8 rfl (xS hok 9 rfl (wC [] [0,1,2] rfl fn_24 rfl (Q4C ((s5:Nat):Int) ((s6:Nat):Int)) (asK [] rfl) rfl (H':=[_,_,_]) rfl ?_))
     rintro _ _ _ ⟨rfl,rfl,rfl⟩
     refine Q3 (QT [] [2,0] rfl rfl (xS hok 10 rfl (wC [] [0,1,2] rfl fn_28 rfl (Q3J 2 (Q26 ((s5:Nat):Int) ((s6:Nat):Int)) 0 0 0 (Q26 ((s5:Nat):Int) ((s6:Nat):Int)) 0 0 0 _ (Q6K _)) (asK [] rfl) rfl (H':=[_,_,_]) rfl ?_)))
     rintro _ _ _ ⟨rfl,rfl,rfl⟩
     refine Q3 (QT [] [0] rfl rfl (xP hok 11 rfl (xP hok 12 rfl (xP hok 13 rfl (xP hok 14 rfl (xP hok 15 rfl (Q7m hok 16 1 s5 rfl rfl rfl (Q0 rfl) rfl rfl rfl rfl rfl rfl hk5 Q5s Q1L (fun g104 eg104=>?_))))))))
     subst eg104
     refine QV hok 17 QW 1 s5 0 rfl rfl rfl (Q0 rfl) rfl rfl rfl rfl hy5 Q1L Q3Q (v:=.slice y5.1 y5.2.1 y5.2.2) rfl rfl (fun _=>(Q3e hok 18 rfl rfl rfl (Q0 rfl) rfl rfl rfl QB (xP hok 19 rfl (xP hok 20 rfl ?_))))
     refine wx_split (d:=108) (S':=[_,_,_,_,_,_,_,_,_,_,_,_,_,_,_,_,_,_,_,_,_,_,_,_,_,_,_,_,_,_,_]) rfl rfl (fun h108=>?_) (fun h108=>?_)
     ·
      replace h108:=of_decide_eq_true h108
      refine xP hok 21 rfl (xP hok 22 rfl (Q1d hok 23 1 s5 rfl rfl rfl (Q0 rfl) rfl rfl rfl rfl rfl rfl hk5 Q5s Q1L (QV hok 24 QW 1 s5 0 rfl rfl rfl (Q0 rfl) rfl rfl rfl rfl hy5 Q1L Q3Q (v:=.slice y5.1 y5.2.1 y5.2.2) rfl rfl (fun _=>(xP hok 25 rfl (Q51 hok 26 (p:=y5.1) (m:=y5.2.1) (cp:=y5.2.2) 2 s5 s6 rfl rfl rfl (Q0 rfl) rfl rfl rfl hr5 hh5 rfl rfl rfl (by omega) (by rw [hl5,Q10]) QB QN (fun g114 eg114=>(Q5X hok 27 2 s5 s6 rfl rfl rfl (Q0 rfl) rfl rfl rfl hr5 (Q75 hh5 eg114) rfl (cs:=Q1I s5 s6) (by rw [hl5]; exact Q56 (by omega)) QN Q4O rfl (v:=.agg #[.int .i64 (Q26 ((s5:Nat):Int) ((s6:Nat):Int)),.int .i64 0,.int .i64 0,.int .i64 0,.slice none 0 0,.slice none 0 0]) rfl (xP hok 28 rfl (xP hok 29 rfl (xS hok 30 rfl (wC [] [0,1,2] rfl fn_24 rfl (Q4C ((s5:Nat):Int) ((s6:Nat):Int)) (asK [] rfl) rfl (H':=[_,_,_]) rfl ?_))))))))))))
      rintro _ _ _ ⟨rfl,rfl,rfl⟩
      refine Q3 (QT [] [2,1,1,2,0] rfl rfl (xS hok 31 rfl (wC [] [0,1,2] rfl fn_28 rfl (Q3J 2 (Q26 ((s5:Nat):Int) ((s6:Nat):Int)) 0 0 0 (Q26 ((s5:Nat):Int) ((s6:Nat):Int)) 0 0 0 _ (Q6K _)) (asK [] rfl) rfl (H':=[_,_,_]) rfl ?_)))
      rintro _ _ _ ⟨rfl,rfl,rfl⟩
      refine Q3 (QT [] [1,1,2,0] rfl rfl (xP hok 32 rfl (xP hok 33 rfl (xP hok 34 rfl (Q19 hok rfl (Q2 (Q5 [122,85,10,76,9,46,6,5,19,3,2,0] (S':=[_,_,_,_,_,_,_,_,_,_,_,_]) rfl (Q58 rfl (Qj (Qa (Q2 (Q1 (wP rfl ?_)))))))))))))
      refine wP rfl (Qr (d:=87) (v':=.int .i64 ((s6 + 1:Nat):Int)) (S':=[_,_,_,_,_,_,_,_,_,_,_,_,_]) rfl rfl (Qw (a:=s6) (b:=1) (by omega)) (Qs (S':=[_,_,_,_,_,_,_,_,_,_,_,_,_]) rfl rfl rfl rfl rfl (Q3 ?_)))
      refine Q16 (s6 + 1) (by omega) (by omega) [10,76,9,46,6,5,19,3,2,0] rfl (asK [] rfl) rfl
     ·
      replace h108:=of_decide_eq_false h108
      refine xO hok 21 rfl (xO hok 22 rfl (xO hok 23 rfl (xO hok 24 rfl (xO hok 25 rfl (xO hok 26 rfl (xO hok 27 rfl (xO hok 28 rfl (xO hok 29 rfl (xS hok 30 rfl (wO rfl (Q3 (QT [] [1,2,0] rfl rfl (xS hok 31 rfl ?_)))))))))))))
      refine wO rfl (Q3 (QT [] [1,2,0] rfl rfl (xO hok 32 rfl (xP hok 33 rfl (xP hok 34 rfl (Q19 hok rfl (Q2 (Q5 [122,85,10,76,9,46,6,5,19,3,2,0] (S':=[_,_,_,_,_,_,_,_,_,_,_,_]) rfl (Q58 rfl (Qj (Qa (Q2 (Q1 ?_)))))))))))))
      refine wP rfl (wP rfl (Qr (d:=87) (v':=.int .i64 ((s6 + 1:Nat):Int)) (S':=[_,_,_,_,_,_,_,_,_,_,_,_,_]) rfl rfl (Qw (a:=s6) (b:=1) (by omega)) (Qs (S':=[_,_,_,_,_,_,_,_,_,_,_,_,_]) rfl rfl rfl rfl rfl (Q3 ?_))))
      refine Q16 (s6 + 1) (by omega) (by omega) [10,76,9,46,6,5,19,3,2,0] rfl (asK [] rfl) rfl
    ·
     replace h85:=of_decide_eq_false h85
     refine QH (Q8 (Q8 (Qh (Qa (Q2 (Q1 (wP rfl (wP rfl (Qr (d:=78) (v':=.int .i64 ((s5 + 1:Nat):Int)) (S':=[_,_,_,_,_,_,_,_,_,_,_,_]) rfl rfl (Qw (a:=s5) (b:=1) (by omega)) (Qs (S':=[_,_,_,_,_,_,_,_,_,_,_,_]) rfl rfl rfl rfl rfl (Q3 ?_)))))))))))
     refine Q16 (s5 + 1) (by omega) (by omega) [9,46,6,5,19,3,2,0] rfl (asK [] rfl) rfl
   ·
    replace h76:=of_decide_eq_false h76
    refine QH (Q8 (Q8 (Qh (Q2 (Q4 (Q4 (Q1 (wP rfl (Q3 (Q2 (Qc (QI (σ:=List Hdr × List Twin × Nat) (fun s=>s.2.2 ≤ hs.length ∧ FlD hs Q1I s.1 s.2.2 s.2.1) (fun s=>hs.length - s.2.2) (fun s=>[(11,.int .i64 ((s.2.2:Nat):Int)),(76,.bool (decide (((s5:Nat):Int) < ((hs.length:Nat):Int)))),(9,.int .i64 ((s5:Nat):Int)),(46,.bool (decide (((s3.2.2:Nat):Int) < ((hs.length:Nat):Int)))),(6,.int .i64 ((s3.2.2:Nat):Int)),(5,.slice (some ⟨g42,0,none⟩) hs.length hs.length),(19,.bool (decide (((s1.2:Nat):Int) < ((hs.length:Nat):Int)))),(3,.int .i64 ((s1.2:Nat):Int)),(2,.bool false),(0,.slice p hs.length c)]) (fun s=>[]) (fun s=>[.own 32 1 QF (.slice (some ⟨g42,0,none⟩) hs.length hs.length) s.1,.own 32 1 QF (.slice p hs.length c) hs,Qk 35 6 s.2.1]) (s3.1,s3.2.1,0) ⟨Nat.zero_le _,oks3.2.again⟩ [11,76,9,46,6,5,19,3,2,0] rfl (asK [] rfl) rfl (fun s7 oks7=>(Q4 ?_))))))))))))))
    refine Q4 (Q1 (wP rfl (wP rfl (wN rfl Q5s (wP rfl (Q3 (Q2 (Q5 [126,11,76,9,46,6,5,19,3,2,0] (S':=[_,_,_,_,_,_,_,_,_,_,_]) rfl ?_))))))))
    refine Qm rfl (fun h126=>?_) (fun h126=>?_)
    ·
     replace h126:=of_decide_eq_true h126
     have hk7:s7.2.2 < hs.length:=by omega
     obtain ⟨y7,hy7⟩ : ∃ y,hs[s7.2.2]? = some y:=⟨_,List.getElem?_eq_getElem hk7⟩
     have hB7:y7.2.1 ≤ 1073741824:=hb _ (List.mem_of_getElem? hy7)
     obtain ⟨r7,hr7,hh7,hl7⟩:=oks7.2.at_ hy7
     refine Qj (Q2 (Q4 (Qc (Q4 (Q1 (Q4J (m:=64) celR (none:Cel) rfl rfl rfl (Q0 rfl) rfl rfl rfl rfl rfl QB Q6Q rfl rfl (fun _ _=>cel_any rfl) (by omega) (by omega) (fun g129=>(wP rfl (Q3 (Q2 (Q5 [12,126,11,76,9,46,6,5,19,3,2,0] (S':=[_,_,_,_,_,_,_,_,_,_,_,_]) rfl (Q4 (Q4 (Q1 ?_))))))))))))))
     refine wP rfl (Q3 (Q2 (Qc (QI (σ:=List Cel × Nat) (fun s=>s.2 ≤ 64 ∧ s.1.length = 64) (fun s=>64 - s.2) (fun s=>[(13,.int .i64 ((s.2:Nat):Int)),(12,.slice (some ⟨g129,0,none⟩) 64 64),(126,.bool (decide (((s7.2.2:Nat):Int) < ((hs.length:Nat):Int)))),(11,.int .i64 ((s7.2.2:Nat):Int)),(76,.bool (decide (((s5:Nat):Int) < ((hs.length:Nat):Int)))),(9,.int .i64 ((s5:Nat):Int)),(46,.bool (decide (((s3.2.2:Nat):Int) < ((hs.length:Nat):Int)))),(6,.int .i64 ((s3.2.2:Nat):Int)),(5,.slice (some ⟨g42,0,none⟩) hs.length hs.length),(19,.bool (decide (((s1.2:Nat):Int) < ((hs.length:Nat):Int)))),(3,.int .i64 ((s1.2:Nat):Int)),(2,.bool false),(0,.slice p hs.length c)]) (fun s=>[]) (fun s=>[.own 35 6 celR (.slice (some ⟨g129,0,none⟩) 64 64) s.1,.own 32 1 QF (.slice (some ⟨g42,0,none⟩) hs.length hs.length) s7.1,.own 32 1 QF (.slice p hs.length c) hs,Qk 35 6 s7.2.1]) (List.replicate 64 (none:Cel),0) ⟨Nat.zero_le _,by simp⟩ [13,12,126,11,76,9,46,6,5,19,3,2,0] rfl (asK [] rfl) rfl (fun s8 oks8=>(Q4 (Q4 (Q1 (wP rfl (wP rfl (Q3 (Q2 (Q5 [131,13,12,126,11,76,9,46,6,5,19,3,2,0] (S':=[_,_,_,_,_,_,_,_,_,_,_,_,_,_]) rfl ?_)))))))))))))
     refine Qm rfl (fun h131=>?_) (fun h131=>?_)
     ·
      replace h131:=of_decide_eq_true h131
      refine Qj (Q2 (Q4 (Qc (Q1 (wP rfl (wP rfl (wP rfl (wP rfl (wN rfl Q5s (wP rfl (Qr (d:=139) (v':=.int .i64 ((s7.2.2 + hs.length:Nat):Int)) (S':=[_,_,_,_,_,_,_,_,_,_,_,_,_,_,_,_,_,_,_]) rfl rfl (Qw (a:=s7.2.2) (b:=hs.length) (by omega)) (wP rfl (wC [] [0,1,2,3] rfl fn_24 rfl (Q4C ((s7.2.2 + hs.length:Nat):Int) ((s8.2:Nat):Int)) (asK [] rfl) rfl (H':=[_,_,_,_]) rfl ?_)))))))))))))
      rintro _ _ _ ⟨rfl,rfl,rfl⟩
      refine Q2c 0 s8.2 rfl rfl rfl (Q0 rfl) rfl rfl rfl rfl rfl (by rw [oks8.2]; omega) QB QN (Q3r (u:=some ([.int .i64 (Q26 ((s7.2.2 + hs.length:Nat):Int) ((s8.2:Nat):Int)),.int .i64 0,.int .i64 0,.int .i64 0,.slice none 0 0,.slice none 0 0] : List Value)) 0 s8.2 rfl rfl rfl rfl rfl (by rw [oks8.2]; omega) rfl rfl QN rfl (fun _ _ _=>cel_some rfl) (H':=[_,_,_,_]) rfl (Q3 (Qa (Q2 (Q1 (wP rfl (wP rfl (Qr (d:=133) (v':=.int .i64 ((s8.2 + 1:Nat):Int)) (S':=[_,_,_,_,_,_,_,_,_,_,_,_,_,_,_,_,_,_,_,_,_,_,_,_]) rfl rfl (Qw (a:=s8.2) (b:=1) (by omega)) (Qs (S':=[_,_,_,_,_,_,_,_,_,_,_,_,_,_,_,_,_,_,_,_,_,_,_,_]) rfl rfl rfl rfl rfl (Q3 ?_))))))))))
      refine Q16 (s8.1.set s8.2 (some ([.int .i64 (Q26 ((s7.2.2 + hs.length:Nat):Int) ((s8.2:Nat):Int)),.int .i64 0,.int .i64 0,.int .i64 0,.slice none 0 0,.slice none 0 0] : List Value)),s8.2 + 1) (by show 64 - (s8.2 + 1) < _; omega) ⟨by show s8.2 + 1 ≤ 64; omega,by show (List.set _ _ _).length = 64; rw [List.length_set]; exact oks8.2⟩ [13,12,126,11,76,9,46,6,5,19,3,2,0] rfl (asK [] rfl) rfl
     ·
      replace h131:=of_decide_eq_false h131
      refine QH (Q8 (Q8 (Qh (Q2 (Q1 (wP rfl (wP rfl (wP rfl (wP rfl (Q1r 2 s7.2.2 rfl rfl rfl (Q0 rfl) rfl rfl rfl rfl rfl hk7 Q5s Q1L (fun g147 eg147=>?_)))))))))))
      subst eg147
      refine QU QW 2 s7.2.2 0 rfl rfl rfl (Q0 rfl) rfl rfl rfl hy7 Q1L Q3Q (v:=fun _=>.slice y7.1 y7.2.1 y7.2.2) (fun _=>rfl) (fun _=>rfl) (fun _ _=>(wP rfl (Qv [_,_,_,Qk 35 6 (s7.2.1.set s7.2.2 ⟨r7.h,r7.l,r7.h,r7.l⟩)] (fun _ h=>h.flReset 3 s7.2.2 rfl hr7) (Q8A 3 s7.2.2 0 rfl rfl rfl (Q0 rfl) rfl rfl (Q88 _ hr7) (by show _ = some (hdv r7.h); rw [hh7]; rfl) rfl rfl oks8.2 (by decide) QB Q6Q rfl rfl (by show r7.l.length + _ ≤ _; rw [hl7,Q10]; omega) (by show (r7.l.length + _) * _ ≤ _; rw [hl7,Q10]; omega) (H2:=fun gh150=>[_,_,_,Qk 35 6 ((s7.2.1.set s7.2.2 ⟨r7.h,r7.l,r7.h,r7.l⟩).set s7.2.2 ⟨r7.h,r7.l,gh150,r7.l ++ s8.1⟩)]) (fun _=>rfl) (fun gh150=>(Q2k 0 rfl (H':=[_,_,_]) rfl (Q2c 0 s7.2.2 rfl rfl rfl (Q0 rfl) rfl rfl rfl rfl rfl (by rw [oks7.2.2.1]; exact hk7) Q5s Q1L (Q3r (u:=gh150) 0 s7.2.2 rfl rfl rfl rfl rfl (by rw [oks7.2.2.1]; exact hk7) rfl rfl Q1L rfl (fun _ _ _=>rfl) (H':=[_,_,_]) rfl (Q3 (Qa (Q2 (Q1 (wP rfl (wP rfl (Qr (d:=128) (v':=.int .i64 ((s7.2.2 + 1:Nat):Int)) (S':=[_,_,_,_,_,_,_,_,_,_,_,_,_,_,_,_,_,_,_,_,_,_,_,_]) rfl rfl (Qw (a:=s7.2.2) (b:=1) (by omega)) ?_)))))))))))))))
      refine Qs (S':=[_,_,_,_,_,_,_,_,_,_,_,_,_,_,_,_,_,_,_,_,_,_,_,_]) rfl rfl rfl rfl rfl (Q3 ?_)
      refine Q16 (s7.1.set s7.2.2 gh150,(s7.2.1.set s7.2.2 ⟨r7.h,r7.l,r7.h,r7.l⟩).set s7.2.2 ⟨r7.h,r7.l,gh150,r7.l ++ s8.1⟩,s7.2.2 + 1) (by show hs.length - (s7.2.2 + 1) < _; omega) ⟨by show s7.2.2 + 1 ≤ _; omega,oks7.2.app hy7 hr7 _ _⟩ [11,76,9,46,6,5,19,3,2,0] rfl (asK [] rfl) rfl
    ·
     replace h126:=of_decide_eq_false h126
     refine QH (Q8 (Q8 (Qh (Q2 (Q4 (Q4 (Q1 (wP rfl (Q3 (Q2 (Qc (QI (σ:=Nat) (fun s=>s ≤ hs.length) (fun s=>hs.length - s) (fun s=>[(14,.int .i64 ((s:Nat):Int)),(126,.bool (decide (((s7.2.2:Nat):Int) < ((hs.length:Nat):Int)))),(11,.int .i64 ((s7.2.2:Nat):Int)),(76,.bool (decide (((s5:Nat):Int) < ((hs.length:Nat):Int)))),(9,.int .i64 ((s5:Nat):Int)),(46,.bool (decide (((s3.2.2:Nat):Int) < ((hs.length:Nat):Int)))),(6,.int .i64 ((s3.2.2:Nat):Int)),(5,.slice (some ⟨g42,0,none⟩) hs.length hs.length),(19,.bool (decide (((s1.2:Nat):Int) < ((hs.length:Nat):Int)))),(3,.int .i64 ((s1.2:Nat):Int)),(2,.bool false),(0,.slice p hs.length c)]) (fun s=>[]) (fun s=>[.own 32 1 QF (.slice (some ⟨g42,0,none⟩) hs.length hs.length) s7.1,.own 32 1 QF (.slice p hs.length c) hs,Qk 35 6 s7.2.1]) 0 (Nat.zero_le _) [14,126,11,76,9,46,6,5,19,3,2,0] rfl (asK [] rfl) rfl (fun s9 oks9=>(Q4 ?_))))))))))))))
     refine Q4 (Q1 (wP rfl (wP rfl (wN rfl Q5s (wP rfl (Q3 (Q2 (Q5 [155,14,126,11,76,9,46,6,5,19,3,2,0] (S':=[_,_,_,_,_,_,_,_,_,_,_,_,_]) rfl ?_))))))))
     refine Qm rfl (fun h155=>?_) (fun h155=>?_)
     ·
      replace h155:=of_decide_eq_true h155
      have hk9:s9 < hs.length:=by omega
      obtain ⟨y9,hy9⟩ : ∃ y,hs[s9]? = some y:=⟨_,List.getElem?_eq_getElem hk9⟩
      have hB9:y9.2.1 ≤ 1073741824:=hb _ (List.mem_of_getElem? hy9)
      obtain ⟨r9,hr9,hh9,hl9,hg9,t9,hm9⟩:=oks7.2.look (by omega) hy9
      refine Q6Y 2 rfl hr9 (fun hA9 hC9=>?_)
      rw [hl9,Q10] at hA9
      have hE9:=hC9
      rw [hm9,List.length_append,Q10] at hE9
      refine Qj (Q2 (Q4 (Qc (Q4 (Q1 (wP rfl (Q3 (Q2 (Qc (QI (σ:=Nat) (fun s=>s ≤ y9.2.1) (fun s=>y9.2.1 - s) (fun s=>[(15,.int .i64 ((s:Nat):Int)),(155,.bool (decide (((s9:Nat):Int) < ((hs.length:Nat):Int)))),(14,.int .i64 ((s9:Nat):Int)),(126,.bool (decide (((s7.2.2:Nat):Int) < ((hs.length:Nat):Int)))),(11,.int .i64 ((s7.2.2:Nat):Int)),(76,.bool (decide (((s5:Nat):Int) < ((hs.length:Nat):Int)))),(9,.int .i64 ((s5:Nat):Int)),(46,.bool (decide (((s3.2.2:Nat):Int) < ((hs.length:Nat):Int)))),(6,.int .i64 ((s3.2.2:Nat):Int)),(5,.slice (some ⟨g42,0,none⟩) hs.length hs.length),(19,.bool (decide (((s1.2:Nat):Int) < ((hs.length:Nat):Int)))),(3,.int .i64 ((s1.2:Nat):Int)),(2,.bool false),(0,.slice p hs.length c)]) (fun s=>[]) (fun s=>[.own 32 1 QF (.slice (some ⟨g42,0,none⟩) hs.length hs.length) s7.1,.own 32 1 QF (.slice p hs.length c) hs,Qk 35 6 s7.2.1]) 0 (Nat.zero_le _) [15,155,14,126,11,76,9,46,6,5,19,3,2,0] rfl (asK [] rfl) rfl (fun s10 oks10=>(Q4 (Q4 (Q1 ?_))))))))))))))
      refine wP rfl (wP rfl (wP rfl (Q1r 1 s9 rfl rfl rfl (Q0 rfl) rfl rfl rfl rfl rfl hk9 Q5s Q1L (fun g161 eg161=>?_))))
      subst eg161
      refine QU QW 1 s9 0 rfl rfl rfl (Q0 rfl) rfl rfl rfl hy9 Q1L Q3Q (v:=fun _=>.slice y9.1 y9.2.1 y9.2.2) (fun _=>rfl) (fun _=>rfl) (fun _ _=>(wN rfl QB (wP rfl (Q3 (Q2 (Q5 [164,15,155,14,126,11,76,9,46,6,5,19,3,2,0] (S':=[_,_,_,_,_,_,_,_,_,_,_,_,_,_,_]) rfl ?_))))))
      refine Qm rfl (fun h164=>?_) (fun h164=>?_)
      ·
       replace h164:=of_decide_eq_true h164
       refine Qj (Q2 (Q4 (Qc (Q4 (Q1l [0,1,2,3,4,5,6,7,8,11,12,13,14,15,16,17,18,19,20,21,24,25] rfl rfl (fun hok=>(xP hok 0 rfl (xP hok 1 rfl (Q1d hok 2 1 s9 rfl rfl rfl (Q0 rfl) rfl rfl rfl rfl rfl rfl hk9 Q5s Q1L (QV hok 3 QW 1 s9 0 rfl rfl rfl (Q0 rfl) rfl rfl rfl rfl hy9 Q1L Q3Q (v:=.slice y9.1 y9.2.1 y9.2.2) rfl rfl (fun _=>(xP hok 4 rfl (Q51 hok 5 (p:=y9.1) (m:=y9.2.1) (cp:=y9.2.2) 2 s9 s10 rfl rfl rfl (Q0 rfl) rfl rfl rfl hr9 hh9 rfl rfl rfl (by omega) (by rw [hl9,Q10]) QB QN (fun g172 eg172=>(Q5X hok 6 2 s9 s10 rfl rfl rfl (Q0 rfl) rfl rfl rfl hr9 (Q75 hh9 eg172) rfl (cs:=Q1I s9 s10) (by rw [hl9]; exact Q56 (by omega)) QN Q4O rfl (v:=.agg #[.int .i64 (Q26 ((s9:Nat):Int) ((s10:Nat):Int)),.int .i64 0,.int .i64 0,.int .i64 0,.slice none 0 0,.slice none 0 0]) rfl (xP hok 7 rfl ?_))))))))))))))))
       refine xP hok 8 rfl (xS hok 9 rfl (wC [] [0,1,2] rfl fn_24 rfl (Q4C ((s9:Nat):Int) ((s10:Nat):Int)) (asK [] rfl) rfl (H':=[_,_,_]) rfl ?_))
       rintro _ _ _ ⟨rfl,rfl,rfl⟩
       refine Q3 (QT [] [2,1] rfl rfl (xS hok 10 rfl (wC [] [0,1,2] rfl fn_28 rfl (Q3J 2 (Q26 ((s9:Nat):Int) ((s10:Nat):Int)) 0 0 0 (Q26 ((s9:Nat):Int) ((s10:Nat):Int)) 0 0 0 _ (Q6K _)) (asK [] rfl) rfl (H':=[_,_,_]) rfl ?_)))
       rintro _ _ _ ⟨rfl,rfl,rfl⟩
       refine Q3 (QT [] [1] rfl rfl (xP hok 11 rfl (xP hok 12 rfl (xP hok 13 rfl (xP hok 14 rfl (Q1d hok 15 0 s9 rfl rfl rfl (Q0 rfl) rfl rfl rfl rfl rfl rfl (by rw [oks7.2.2.1]; exact hk9) Q5s Q1L (QV hok 16 QW 0 s9 0 rfl rfl rfl (Q0 rfl) rfl rfl rfl rfl hg9 Q1L Q3Q (v:=.slice r9.g.1 r9.g.2.1 r9.g.2.2) rfl rfl (fun _=>(xP hok 17 rfl (Q6z hok 18 (p:=r9.g.1) (m:=r9.g.2.1) (cp:=r9.g.2.2) 2 s9 s10 rfl rfl rfl (Q0 rfl) rfl rfl rfl hr9 rfl rfl rfl rfl (by omega) hC9.symm QB QN (fun g185 eg185=>(Q5Y hok 19 2 s9 s10 rfl rfl rfl (Q0 rfl) rfl rfl rfl hr9 (Q7C eg185) rfl (cs:=Q1I s9 s10) (by rw [hm9]; exact app_at (by omega)) QN Q4O rfl (v:=.agg #[.int .i64 (Q26 ((s9:Nat):Int) ((s10:Nat):Int)),.int .i64 0,.int .i64 0,.int .i64 0,.slice none 0 0,.slice none 0 0]) rfl (xP hok 20 rfl (xP hok 21 rfl (xS hok 22 rfl ?_)))))))))))))))
       refine wC [] [0,1,2] rfl fn_24 rfl (Q4C ((s9:Nat):Int) ((s10:Nat):Int)) (asK [] rfl) rfl (H':=[_,_,_]) rfl ?_
       rintro _ _ _ ⟨rfl,rfl,rfl⟩
       refine Q3 (QT [] [2,0,2,1] rfl rfl (xS hok 23 rfl (wC [] [0,1,2] rfl fn_28 rfl (Q3J 2 (Q26 ((s9:Nat):Int) ((s10:Nat):Int)) 0 0 0 (Q26 ((s9:Nat):Int) ((s10:Nat):Int)) 0 0 0 _ (Q6K _)) (asK [] rfl) rfl (H':=[_,_,_]) rfl ?_)))
       rintro _ _ _ ⟨rfl,rfl,rfl⟩
       refine Q3 (QT [] [0,2,1] rfl rfl (xP hok 24 rfl (xP hok 25 rfl (Q19 hok rfl (Q2 (Q5 [192,164,15,155,14,126,11,76,9,46,6,5,19,3,2,0] (S':=[_,_,_,_,_,_,_,_,_,_,_,_,_,_,_,_]) rfl (Q58 rfl (Qj (Qa (Q2 (Q1 (wP rfl (wP rfl ?_)))))))))))))
       refine Qr (d:=166) (v':=.int .i64 ((s10 + 1:Nat):Int)) (S':=[_,_,_,_,_,_,_,_,_,_,_,_,_,_,_,_,_]) rfl rfl (Qw (a:=s10) (b:=1) (by omega)) (Qs (S':=[_,_,_,_,_,_,_,_,_,_,_,_,_,_,_,_,_]) rfl rfl rfl rfl rfl (Q3 ?_))
       refine Q16 (s10 + 1) (by omega) (by omega) [15,155,14,126,11,76,9,46,6,5,19,3,2,0] rfl (asK [] rfl) rfl
      ·
       replace h164:=of_decide_eq_false h164
       refine QH (Q8 (Q8 (Qh (Qa (Q2 (Q1 (wP rfl (wP rfl (Qr (d:=157) (v':=.int .i64 ((s9 + 1:Nat):Int)) (S':=[_,_,_,_,_,_,_,_,_,_,_,_,_,_,_,_]) rfl rfl (Qw (a:=s9) (b:=1) (by omega)) (Qs (S':=[_,_,_,_,_,_,_,_,_,_,_,_,_,_,_,_]) rfl rfl rfl rfl rfl (Q3 ?_)))))))))))
       refine Q16 (s9 + 1) (by omega) (by omega) [14,126,11,76,9,46,6,5,19,3,2,0] rfl (asK [] rfl) rfl
     ·
      replace h155:=of_decide_eq_false h155
      refine QH (Q8 (Q8 (Qh (Q2 (Q4 (Q1 (Qs (S':=[_,_,_,_,_,_,_,_,_,_,_,_]) rfl rfl rfl rfl rfl (Q3 (Q2 (Qn (Qp (Hr:=[Qk 35 6 s7.2.1]) [2] Tryz.results89 (Qd rfl) ?_ (asK [] rfl) rfl rfl (.inl rfl))))))))))))
      exact ⟨_,oks7.2.left,rfl,rfl,rfl⟩
theorem ap_apart (g:Nat) (p6:Option Addr) (c6:Nat) (h6:List Hdr) (p7:Option Addr) (c7:Nat) (h7:List Hdr) (p19:Option Addr) (c19:Nat) (h19:List Hdr) (p26:Option Addr) (c26:Nat) (h26:List Hdr) (hL6:h6.length ≤ 1073741824) (hB6:Bd h6) (hL7:h7.length ≤ 1073741824) (hB7:Bd h7) (hL19:h19.length ≤ 1073741824) (hB19:Bd h19) (hL26:h26.length ≤ 1073741824) (hB26:Bd h26):Q1v Tryz.prog 44 [.pointer (some ⟨g,0,none⟩)] [] [.blk g [.slice none 0 0,.slice none 0 0,.slice none 0 0,.slice none 0 0,.slice none 0 0,.slice none 0 0,.slice p6 h6.length c6,.slice p7 h7.length c7,.slice none 0 0,.slice none 0 0,.slice none 0 0,.slice none 0 0,.slice none 0 0,.slice none 0 0,.slice none 0 0,.slice none 0 0,.slice none 0 0,.slice none 0 0,.slice none 0 0,.slice p19 h19.length c19,.slice none 0 0,.slice none 0 0,.slice none 0 0,.slice none 0 0,.slice none 0 0,.slice none 0 0,.slice p26 h26.length c26,.slice none 0 0,.slice none 0 0] 109,.own 25 1 QF (.slice p6 h6.length c6) h6,Qk 149 3 (h6.map Q1c),.own 24 1 QF (.slice p7 h7.length c7) h7,Qk 61 3 (h7.map Q1c),.own 77 1 QF (.slice p19 h19.length c19) h19,Qk 27 4 (h19.map Q1c),.own 32 1 QF (.slice p26 h26.length c26) h26,Qk 35 6 (h26.map Q1c)] (fun v Φr Hr=>∃ (r6:List Twin) (r7:List Twin) (r19:List Twin) (r26:List Twin),FlE h6 Q2i r6 ∧ FlE h7 Q2S r7 ∧ FlE h19 Q2g r19 ∧ FlE h26 Q1I r26 ∧ v = .bool true ∧ Φr = [] ∧ Hr = [Qk 149 3 r6,Qk 61 3 r7,Qk 27 4 r19,Qk 35 6 r26]):=by
 refine Qx Tryz.func44 rfl Tryz.ntmps44 rfl (S:=[_]) rfl (fun C=>(Q4 (Q1 (wP rfl (Q3 (Q2 (Q4 (Q1 (wP rfl (wP rfl (wF rfl tF_109_0 (wD 0 0 rfl tS_81 tA_81 rfl (wC [] [0,1,2,3,4,5,6,7,8] rfl fn_63 rfl (Q32 Tryz.func63 rfl Tryz.ntmps63 Tryz.results63 rfl (by kernel_rfl)) (asK [] rfl) rfl (H':=[_,_,_,_,_,_,_,_,_]) rfl ?_)))))))))))))
 rintro _ _ _ ⟨rfl,rfl,rfl⟩
 refine wP rfl (wP rfl (wP rfl (wF rfl tF_109_1 (wD 0 1 rfl tS_82 tA_82 rfl (wC [] [0,1,2,3,4,5,6,7,8] rfl fn_64 rfl (Q32 Tryz.func64 rfl Tryz.ntmps64 Tryz.results64 rfl (by kernel_rfl)) (asK [] rfl) rfl (H':=[_,_,_,_,_,_,_,_,_]) rfl ?_)))))
 rintro _ _ _ ⟨rfl,rfl,rfl⟩
 refine wP rfl (wP rfl (wP rfl (wP rfl (wF rfl tF_109_2 (wD 0 2 rfl tS_83 tA_83 rfl (wC [] [0,1,2,3,4,5,6,7,8] rfl fn_65 rfl (Q32 Tryz.func65 rfl Tryz.ntmps65 Tryz.results65 rfl (by kernel_rfl)) (asK [] rfl) rfl (H':=[_,_,_,_,_,_,_,_,_]) rfl ?_))))))
 rintro _ _ _ ⟨rfl,rfl,rfl⟩
 refine wP rfl (wP rfl (wP rfl (wP rfl (wF rfl tF_109_3 (wD 0 3 rfl tS_84 tA_84 rfl (wC [] [0,1,2,3,4,5,6,7,8] rfl fn_66 rfl (Q32 Tryz.func66 rfl Tryz.ntmps66 Tryz.results66 rfl (by kernel_rfl)) (asK [] rfl) rfl (H':=[_,_,_,_,_,_,_,_,_]) rfl ?_))))))
 rintro _ _ _ ⟨rfl,rfl,rfl⟩
 refine wP rfl (wP rfl (wP rfl (wP rfl (wF rfl tF_109_4 (wD 0 4 rfl tS_85 tA_85 rfl (wC [] [0,1,2,3,4,5,6,7,8] rfl fn_67 rfl (Q32 Tryz.func67 rfl Tryz.ntmps67 Tryz.results67 rfl (by kernel_rfl)) (asK [] rfl) rfl (H':=[_,_,_,_,_,_,_,_,_]) rfl ?_))))))
 rintro _ _ _ ⟨rfl,rfl,rfl⟩
 refine wP rfl (wP rfl (wP rfl (wP rfl (wF rfl tF_109_5 (wD 0 5 rfl tS_86 tA_86 rfl (wC [] [0,1,2,3,4,5,6,7,8] rfl fn_68 rfl (Q32 Tryz.func68 rfl Tryz.ntmps68 Tryz.results68 rfl (by kernel_rfl)) (asK [] rfl) rfl (H':=[_,_,_,_,_,_,_,_,_]) rfl ?_))))))
 rintro _ _ _ ⟨rfl,rfl,rfl⟩
 refine wP rfl (wP rfl (wP rfl (wP rfl (wF rfl tF_109_6 (wD 0 6 rfl tS_87 tA_87 rfl (wC [1,2] [0,3,4,5,6,7,8] rfl fn_69 rfl (fl_flatValues p6 c6 h6 hL6 hB6) (asK [] rfl) rfl (H':=[_,_,_,_,_,_,_]) rfl ?_))))))
 rintro _ _ _ ⟨r6,hE6,rfl,rfl,rfl⟩
 refine wP rfl (wP rfl (wP rfl (wP rfl (wF rfl tF_109_7 (wD 1 7 rfl tS_88 tA_88 rfl (wC [2,3] [0,1,4,5,6,7] rfl fn_70 rfl (fl_flatFacts p7 c7 h7 hL7 hB7) (asK [] rfl) rfl (H':=[_,_,_,_,_,_]) rfl ?_))))))
 rintro _ _ _ ⟨r7,hE7,rfl,rfl,rfl⟩
 refine wP rfl (wP rfl (wP rfl (wP rfl (wF rfl tF_109_8 (wD 2 8 rfl tS_89 tA_89 rfl (wC [] [0,1,2,3,4,5,6] rfl fn_71 rfl (Q32 Tryz.func71 rfl Tryz.ntmps71 Tryz.results71 rfl (by kernel_rfl)) (asK [] rfl) rfl (H':=[_,_,_,_,_,_,_]) rfl ?_))))))
 rintro _ _ _ ⟨rfl,rfl,rfl⟩
 refine wP rfl (wP rfl (wP rfl (wP rfl (wF rfl tF_109_9 (wD 2 9 rfl tS_90 tA_90 rfl (wC [] [0,1,2,3,4,5,6] rfl fn_72 rfl (Q32 Tryz.func72 rfl Tryz.ntmps72 Tryz.results72 rfl (by kernel_rfl)) (asK [] rfl) rfl (H':=[_,_,_,_,_,_,_]) rfl ?_))))))
 rintro _ _ _ ⟨rfl,rfl,rfl⟩
 refine wP rfl (wP rfl (wP rfl (wP rfl (wF rfl tF_109_10 (wD 2 10 rfl tS_91 tA_91 rfl (wC [] [0,1,2,3,4,5,6] rfl fn_73 rfl (Q32 Tryz.func73 rfl Tryz.ntmps73 Tryz.results73 rfl (by kernel_rfl)) (asK [] rfl) rfl (H':=[_,_,_,_,_,_,_]) rfl ?_))))))
 rintro _ _ _ ⟨rfl,rfl,rfl⟩
 refine wP rfl (wP rfl (wP rfl (wP rfl (wF rfl tF_109_11 (wD 2 11 rfl tS_92 tA_92 rfl (wC [] [0,1,2,3,4,5,6] rfl fn_74 rfl (Q32 Tryz.func74 rfl Tryz.ntmps74 Tryz.results74 rfl (by kernel_rfl)) (asK [] rfl) rfl (H':=[_,_,_,_,_,_,_]) rfl ?_))))))
 rintro _ _ _ ⟨rfl,rfl,rfl⟩
 refine wP rfl (wP rfl (wP rfl (wP rfl (wF rfl tF_109_12 (wD 2 12 rfl tS_93 tA_93 rfl (wC [] [0,1,2,3,4,5,6] rfl fn_75 rfl (Q32 Tryz.func75 rfl Tryz.ntmps75 Tryz.results75 rfl (by kernel_rfl)) (asK [] rfl) rfl (H':=[_,_,_,_,_,_,_]) rfl ?_))))))
 rintro _ _ _ ⟨rfl,rfl,rfl⟩
 refine wP rfl (wP rfl (wP rfl (wP rfl (wF rfl tF_109_13 (wD 2 13 rfl tS_94 tA_94 rfl (wC [] [0,1,2,3,4,5,6] rfl fn_76 rfl (Q32 Tryz.func76 rfl Tryz.ntmps76 Tryz.results76 rfl (by kernel_rfl)) (asK [] rfl) rfl (H':=[_,_,_,_,_,_,_]) rfl ?_))))))
 rintro _ _ _ ⟨rfl,rfl,rfl⟩
 refine wP rfl (wP rfl (wP rfl (wP rfl (wF rfl tF_109_14 (wD 2 14 rfl tS_95 tA_95 rfl (wC [] [0,1,2,3,4,5,6] rfl fn_77 rfl (Q32 Tryz.func77 rfl Tryz.ntmps77 Tryz.results77 rfl (by kernel_rfl)) (asK [] rfl) rfl (H':=[_,_,_,_,_,_,_]) rfl ?_))))))
 rintro _ _ _ ⟨rfl,rfl,rfl⟩
 refine wP rfl (wP rfl (wP rfl (wP rfl (wF rfl tF_109_15 (wD 2 15 rfl tS_96 tA_96 rfl (wC [] [0,1,2,3,4,5,6] rfl fn_78 rfl (Q32 Tryz.func78 rfl Tryz.ntmps78 Tryz.results78 rfl (by kernel_rfl)) (asK [] rfl) rfl (H':=[_,_,_,_,_,_,_]) rfl ?_))))))
 rintro _ _ _ ⟨rfl,rfl,rfl⟩
 refine wP rfl (wP rfl (wP rfl (wP rfl (wF rfl tF_109_16 (wD 2 16 rfl tS_97 tA_97 rfl (wC [] [0,1,2,3,4,5,6] rfl fn_79 rfl (Q32 Tryz.func79 rfl Tryz.ntmps79 Tryz.results79 rfl (by kernel_rfl)) (asK [] rfl) rfl (H':=[_,_,_,_,_,_,_]) rfl ?_))))))
 rintro _ _ _ ⟨rfl,rfl,rfl⟩
 refine wP rfl (wP rfl (wP rfl (wP rfl (wF rfl tF_109_17 (wD 2 17 rfl tS_98 tA_98 rfl (wC [] [0,1,2,3,4,5,6] rfl fn_80 rfl (Q32 Tryz.func80 rfl Tryz.ntmps80 Tryz.results80 rfl (by kernel_rfl)) (asK [] rfl) rfl (H':=[_,_,_,_,_,_,_]) rfl ?_))))))
 rintro _ _ _ ⟨rfl,rfl,rfl⟩
 refine wP rfl (wP rfl (wP rfl (wP rfl (wF rfl tF_109_18 (wD 2 18 rfl tS_99 tA_99 rfl (wC [] [0,1,2,3,4,5,6] rfl fn_81 rfl (Q32 Tryz.func81 rfl Tryz.ntmps81 Tryz.results81 rfl (by kernel_rfl)) (asK [] rfl) rfl (H':=[_,_,_,_,_,_,_]) rfl ?_))))))
 rintro _ _ _ ⟨rfl,rfl,rfl⟩
 refine wP rfl (wP rfl (wP rfl (wP rfl (wF rfl tF_109_19 (wD 2 19 rfl tS_78 tA_78 rfl (wC [3,4] [0,1,2,5,6] rfl fn_82 rfl (fl_flatReplies p19 c19 h19 hL19 hB19) (asK [] rfl) rfl (H':=[_,_,_,_,_]) rfl ?_))))))
 rintro _ _ _ ⟨r19,hE19,rfl,rfl,rfl⟩
 refine wP rfl (wP rfl (wP rfl (wP rfl (wF rfl tF_109_20 (wD 3 20 rfl tS_100 tA_100 rfl (wC [] [0,1,2,3,4,5] rfl fn_83 rfl (Q32 Tryz.func83 rfl Tryz.ntmps83 Tryz.results83 rfl (by kernel_rfl)) (asK [] rfl) rfl (H':=[_,_,_,_,_,_]) rfl ?_))))))
 rintro _ _ _ ⟨rfl,rfl,rfl⟩
 refine wP rfl (wP rfl (wP rfl (wP rfl (wF rfl tF_109_21 (wD 3 21 rfl tS_101 tA_101 rfl (wC [] [0,1,2,3,4,5] rfl fn_84 rfl (Q32 Tryz.func84 rfl Tryz.ntmps84 Tryz.results84 rfl (by kernel_rfl)) (asK [] rfl) rfl (H':=[_,_,_,_,_,_]) rfl ?_))))))
 rintro _ _ _ ⟨rfl,rfl,rfl⟩
 refine wP rfl (wP rfl (wP rfl (wP rfl (wF rfl tF_109_22 (wD 3 22 rfl tS_102 tA_102 rfl (wC [] [0,1,2,3,4,5] rfl fn_85 rfl (Q32 Tryz.func85 rfl Tryz.ntmps85 Tryz.results85 rfl (by kernel_rfl)) (asK [] rfl) rfl (H':=[_,_,_,_,_,_]) rfl ?_))))))
 rintro _ _ _ ⟨rfl,rfl,rfl⟩
 refine wP rfl (wP rfl (wP rfl (wP rfl (wF rfl tF_109_23 (wD 3 23 rfl tS_103 tA_103 rfl (wC [] [0,1,2,3,4,5] rfl fn_86 rfl (Q32 Tryz.func86 rfl Tryz.ntmps86 Tryz.results86 rfl (by kernel_rfl)) (asK [] rfl) rfl (H':=[_,_,_,_,_,_]) rfl ?_))))))
 rintro _ _ _ ⟨rfl,rfl,rfl⟩
 refine wP rfl (wP rfl (wP rfl (wP rfl (wF rfl tF_109_24 (wD 3 24 rfl tS_104 tA_104 rfl (wC [] [0,1,2,3,4,5] rfl fn_87 rfl (Q32 Tryz.func87 rfl Tryz.ntmps87 Tryz.results87 rfl (by kernel_rfl)) (asK [] rfl) rfl (H':=[_,_,_,_,_,_]) rfl ?_))))))
 rintro _ _ _ ⟨rfl,rfl,rfl⟩
 refine wP rfl (wP rfl (wP rfl (wP rfl (wF rfl tF_109_25 (wD 3 25 rfl tS_105 tA_105 rfl (wC [] [0,1,2,3,4,5] rfl fn_88 rfl (Q32 Tryz.func88 rfl Tryz.ntmps88 Tryz.results88 rfl (by kernel_rfl)) (asK [] rfl) rfl (H':=[_,_,_,_,_,_]) rfl ?_))))))
 rintro _ _ _ ⟨rfl,rfl,rfl⟩
 refine wP rfl (wP rfl (wP rfl (wP rfl (wF rfl tF_109_26 (wD 3 26 rfl tS_53 tA_53 rfl (wC [4,5] [0,1,2,3] rfl fn_89 rfl (fl_flatSessions p26 c26 h26 hL26 hB26) (asK [] rfl) rfl (H':=[_,_,_,_]) rfl ?_))))))
 rintro _ _ _ ⟨r26,hE26,rfl,rfl,rfl⟩
 refine wP rfl (wP rfl (wP rfl (wP rfl (wF rfl tF_109_27 (wD 4 27 rfl tS_106 tA_106 rfl (wC [] [0,1,2,3,4] rfl fn_90 rfl (Q32 Tryz.func90 rfl Tryz.ntmps90 Tryz.results90 rfl (by kernel_rfl)) (asK [] rfl) rfl (H':=[_,_,_,_,_]) rfl ?_))))))
 rintro _ _ _ ⟨rfl,rfl,rfl⟩
 refine wP rfl (wP rfl (wP rfl (wP rfl (wF rfl tF_109_28 (wD 4 28 rfl tS_107 tA_107 rfl (wC [] [0,1,2,3,4] rfl fn_91 rfl (Q32 Tryz.func91 rfl Tryz.ntmps91 Tryz.results91 rfl (by kernel_rfl)) (asK [] rfl) rfl (H':=[_,_,_,_,_]) rfl ?_))))))
 rintro _ _ _ ⟨rfl,rfl,rfl⟩
 refine wP rfl (Qs (S':=[_,_,_,_,_,_,_,_,_,_,_,_,_,_,_,_,_,_,_,_,_,_,_,_,_,_,_,_,_,_,_,_,_,_,_,_,_,_,_,_,_,_,_,_,_,_,_,_,_,_,_,_,_,_,_,_,_,_,_,_,_,_,_,_,_,_,_,_,_,_,_,_,_,_,_,_,_,_,_,_,_,_,_,_,_,_,_,_,_,_,_,_,_,_,_,_,_,_,_,_,_,_,_,_,_,_,_,_,_,_,_,_,_,_,_,_,_,_,_,_,_,_,_,_,_,_,_,_,_,_,_,_,_,_,_,_,_,_,_,_,_,_,_,_,_,_,_,_,_,_,_,_,_,_,_,_,_,_,_,_,_,_,_,_,_,_,_,_,_,_,_,_,_,_,_,_,_,_,_,_,_,_,_,_,_,_,_,_,_,_,_,_,_,_,_,_,_,_,_,_,_,_]) rfl rfl rfl rfl rfl (Q3 (Q2 (Q5 [2,0] (S':=[_,_]) rfl (Qn (Qp (Hr:=[Qk 149 3 r6,Qk 61 3 r7,Qk 27 4 r19,Qk 35 6 r26]) [3,2,1,0] Tryz.results44 (Qd rfl) ?_ (asK [] rfl) rfl rfl (.inl rfl)))))))
 exact ⟨_,_,_,_,hE6,hE7,hE19,hE26,rfl,rfl,rfl⟩
theorem ap_ApartReplies (p:Option Addr) (n c:Nat) (zs:List ((List ReplyD) × (Option Addr × Nat))) (hzn:n = zs.length) (hz8:zs.length ≤ 8) (hx : ∀ z ∈ zs,z.1.length ≤ 10000 ∧ ∀ y ∈ z.1,Q6v y):Q1v Tryz.prog 39 [.slice p n c] [] [.own 77 1 Q1T.pair (.slice p n c) zs,QR Q1T (zs.drop 0) none] (fun v Φr Hr=>∃ (r6:List Twin) (r7:List Twin) (r19:List Twin) (r26:List Twin),v = .bool true ∧ Φr = [] ∧ Hr = [Qk 149 3 r6,Qk 61 3 r7,Qk 27 4 r19,Qk 35 6 r26]):=by
 subst hzn
 refine Qx Tryz.func39 rfl Tryz.ntmps39 rfl (S:=[_]) rfl (fun C=>(Q4 (Q1 (wP rfl (Q3 (Q2 (Q4 (Q1 (Q2t rfl rfl rfl (Q0 rfl) rfl tZ_109 tP_109 rfl (out:=[_,_,_,_,_,_,_,_,_,_,_,_,_,_,_,_,_,_,_,_,_,_,_,_,_,_,_,_,_]) rfl (wB rfl (fun g6=>(wP rfl (Q3 (Q2 (Q5 [3,2,0] (S':=[_,_,_]) rfl ?_)))))))))))))))
 refine Q4 (Q4 (Q1 (wP rfl (Q3 (Q2 (Qc (Q6D [Qk 35 6 [],.blk g6 [.slice none 0 0,.slice none 0 0,.slice none 0 0,.slice none 0 0,.slice none 0 0,.slice none 0 0,.slice none 0 0,.slice none 0 0,.slice none 0 0,.slice none 0 0,.slice none 0 0,.slice none 0 0,.slice none 0 0,.slice none 0 0,.slice none 0 0,.slice none 0 0,.slice none 0 0,.slice none 0 0,.slice none 0 0,.slice none 0 0,.slice none 0 0,.slice none 0 0,.slice none 0 0,.slice none 0 0,.slice none 0 0,.slice none 0 0,.slice none 0 0,.slice none 0 0,.slice none 0 0] 109,.own 77 1 Q1T.pair (.slice p zs.length c) zs,QR Q1T (zs.drop 0) none] (fun _ h=>h.flNil 35 6) (Q5q 32 1 QF (Q6D [Qk 27 4 [],.own 32 1 QF (.slice none 0 0) [],Qk 35 6 [],.blk g6 [.slice none 0 0,.slice none 0 0,.slice none 0 0,.slice none 0 0,.slice none 0 0,.slice none 0 0,.slice none 0 0,.slice none 0 0,.slice none 0 0,.slice none 0 0,.slice none 0 0,.slice none 0 0,.slice none 0 0,.slice none 0 0,.slice none 0 0,.slice none 0 0,.slice none 0 0,.slice none 0 0,.slice none 0 0,.slice none 0 0,.slice none 0 0,.slice none 0 0,.slice none 0 0,.slice none 0 0,.slice none 0 0,.slice none 0 0,.slice none 0 0,.slice none 0 0,.slice none 0 0] 109,.own 77 1 Q1T.pair (.slice p zs.length c) zs,QR Q1T (zs.drop 0) none] (fun _ h=>h.flNil 27 4) (Q5q 77 1 QF (Q6D [Qk 61 3 [],.own 77 1 QF (.slice none 0 0) [],Qk 27 4 [],.own 32 1 QF (.slice none 0 0) [],Qk 35 6 [],.blk g6 [.slice none 0 0,.slice none 0 0,.slice none 0 0,.slice none 0 0,.slice none 0 0,.slice none 0 0,.slice none 0 0,.slice none 0 0,.slice none 0 0,.slice none 0 0,.slice none 0 0,.slice none 0 0,.slice none 0 0,.slice none 0 0,.slice none 0 0,.slice none 0 0,.slice none 0 0,.slice none 0 0,.slice none 0 0,.slice none 0 0,.slice none 0 0,.slice none 0 0,.slice none 0 0,.slice none 0 0,.slice none 0 0,.slice none 0 0,.slice none 0 0,.slice none 0 0,.slice none 0 0] 109,.own 77 1 Q1T.pair (.slice p zs.length c) zs,QR Q1T (zs.drop 0) none] (fun _ h=>h.flNil 61 3) (Q5q 24 1 QF (Q6D [Qk 149 3 [],.own 24 1 QF (.slice none 0 0) [],Qk 61 3 [],.own 77 1 QF (.slice none 0 0) [],Qk 27 4 [],.own 32 1 QF (.slice none 0 0) [],Qk 35 6 [],.blk g6 [.slice none 0 0,.slice none 0 0,.slice none 0 0,.slice none 0 0,.slice none 0 0,.slice none 0 0,.slice none 0 0,.slice none 0 0,.slice none 0 0,.slice none 0 0,.slice none 0 0,.slice none 0 0,.slice none 0 0,.slice none 0 0,.slice none 0 0,.slice none 0 0,.slice none 0 0,.slice none 0 0,.slice none 0 0,.slice none 0 0,.slice none 0 0,.slice none 0 0,.slice none 0 0,.slice none 0 0,.slice none 0 0,.slice none 0 0,.slice none 0 0,.slice none 0 0,.slice none 0 0] 109,.own 77 1 Q1T.pair (.slice p zs.length c) zs,QR Q1T (zs.drop 0) none] (fun _ h=>h.flNil 149 3) ?_)))))))))))))
 refine Q5q 25 1 QF (QI (σ:=Option Addr × Nat × List Hdr × Option Addr × Nat × List Hdr × Option Addr × Nat × List Hdr × Option Addr × Nat × List Hdr × Nat) (fun s=>s.2.2.2.2.2.2.2.2.2.2.2.2 ≤ zs.length ∧ s.2.2.1.length ≤ s.2.2.2.2.2.2.2.2.2.2.2.2 * 100010000 ∧ Bd s.2.2.1 ∧ s.2.2.2.2.2.1.length ≤ s.2.2.2.2.2.2.2.2.2.2.2.2 * 10000 ∧ Bd s.2.2.2.2.2.1 ∧ s.2.2.2.2.2.2.2.2.1.length ≤ s.2.2.2.2.2.2.2.2.2.2.2.2 * 1 ∧ Bd s.2.2.2.2.2.2.2.2.1 ∧ s.2.2.2.2.2.2.2.2.2.2.2.1.length ≤ s.2.2.2.2.2.2.2.2.2.2.2.2 * 0 ∧ Bd s.2.2.2.2.2.2.2.2.2.2.2.1) (fun s=>zs.length - s.2.2.2.2.2.2.2.2.2.2.2.2) (fun s=>[(4,.int .i64 ((s.2.2.2.2.2.2.2.2.2.2.2.2:Nat):Int)),(3,.pointer (some ⟨g6,0,none⟩)),(2,.bool false),(0,.slice p zs.length c)]) (fun s=>[]) (fun s=>[.own 25 1 QF (.slice s.1 s.2.2.1.length s.2.1) s.2.2.1,Qk 149 3 (s.2.2.1.map Q1c),.own 24 1 QF (.slice s.2.2.2.1 s.2.2.2.2.2.1.length s.2.2.2.2.1) s.2.2.2.2.2.1,Qk 61 3 (s.2.2.2.2.2.1.map Q1c),.own 77 1 QF (.slice s.2.2.2.2.2.2.1 s.2.2.2.2.2.2.2.2.1.length s.2.2.2.2.2.2.2.1) s.2.2.2.2.2.2.2.2.1,Qk 27 4 (s.2.2.2.2.2.2.2.2.1.map Q1c),.own 32 1 QF (.slice s.2.2.2.2.2.2.2.2.2.1 s.2.2.2.2.2.2.2.2.2.2.2.1.length s.2.2.2.2.2.2.2.2.2.2.1) s.2.2.2.2.2.2.2.2.2.2.2.1,Qk 35 6 (s.2.2.2.2.2.2.2.2.2.2.2.1.map Q1c),.blk g6 [.slice none 0 0,.slice none 0 0,.slice none 0 0,.slice none 0 0,.slice none 0 0,.slice none 0 0,.slice s.1 s.2.2.1.length s.2.1,.slice s.2.2.2.1 s.2.2.2.2.2.1.length s.2.2.2.2.1,.slice none 0 0,.slice none 0 0,.slice none 0 0,.slice none 0 0,.slice none 0 0,.slice none 0 0,.slice none 0 0,.slice none 0 0,.slice none 0 0,.slice none 0 0,.slice none 0 0,.slice s.2.2.2.2.2.2.1 s.2.2.2.2.2.2.2.2.1.length s.2.2.2.2.2.2.2.1,.slice none 0 0,.slice none 0 0,.slice none 0 0,.slice none 0 0,.slice none 0 0,.slice none 0 0,.slice s.2.2.2.2.2.2.2.2.2.1 s.2.2.2.2.2.2.2.2.2.2.2.1.length s.2.2.2.2.2.2.2.2.2.2.1,.slice none 0 0,.slice none 0 0] 109,.own 77 1 Q1T.pair (.slice p zs.length c) zs,QR Q1T (zs.drop s.2.2.2.2.2.2.2.2.2.2.2.2) none]) (none,0,[],none,0,[],none,0,[],none,0,[],0) ⟨Nat.zero_le _,Nat.zero_le _,Bd.nil,Nat.zero_le _,Bd.nil,Nat.zero_le _,Bd.nil,Nat.zero_le _,Bd.nil⟩ [4,3,2,0] rfl (asK [] rfl) rfl (fun s1 oks1=>(Q4 (Q4 (Q1 (wP rfl (wP rfl (wN rfl Q5o (wP rfl (Q3 (Q2 (Q5 [10,4,3,2,0] (S':=[_,_,_,_,_]) rfl ?_))))))))))))
 refine Qm rfl (fun h10=>?_) (fun h10=>?_)
 ·
  replace h10:=of_decide_eq_true h10
  obtain ⟨hi2,hl6,hb6,hl7,hb7,hl19,hb19,hl26,hb26⟩:=oks1
  have hi1:s1.2.2.2.2.2.2.2.2.2.2.2.2 < zs.length:=by omega
  obtain ⟨z1,hz1⟩ : ∃ z,zs[s1.2.2.2.2.2.2.2.2.2.2.2.2]? = some z:=⟨_,List.getElem?_eq_getElem hi1⟩
  have hxs:=hx z1 (List.mem_of_getElem? hz1)
  refine Qj (Q2 (Q4 (Qc (Q1 (wP rfl (wP rfl (wP rfl (Q1r 9 s1.2.2.2.2.2.2.2.2.2.2.2.2 rfl rfl rfl (Q0 rfl) rfl rfl rfl rfl rfl hi1 Q5o Q4P (fun g16 eg16=>?_)))))))))
  subst eg16
  refine QU Q4W 9 s1.2.2.2.2.2.2.2.2.2.2.2.2 0 rfl rfl rfl (Q0 rfl) rfl rfl rfl hz1 Q4P tA_77 (v:=fun _=>.slice z1.2.1 z1.1.length z1.2.2) (fun _=>rfl) (fun _=>rfl) (fun _ _=>(Qv [Qi Q2D 27 4 (.slice z1.2.1 z1.1.length z1.2.2) z1.1,.own 25 1 QF (.slice s1.1 s1.2.2.1.length s1.2.1) s1.2.2.1,Qk 149 3 (s1.2.2.1.map Q1c),.own 24 1 QF (.slice s1.2.2.2.1 s1.2.2.2.2.2.1.length s1.2.2.2.2.1) s1.2.2.2.2.2.1,Qk 61 3 (s1.2.2.2.2.2.1.map Q1c),.own 77 1 QF (.slice s1.2.2.2.2.2.2.1 s1.2.2.2.2.2.2.2.2.1.length s1.2.2.2.2.2.2.2.1) s1.2.2.2.2.2.2.2.2.1,Qk 27 4 (s1.2.2.2.2.2.2.2.2.1.map Q1c),.own 32 1 QF (.slice s1.2.2.2.2.2.2.2.2.2.1 s1.2.2.2.2.2.2.2.2.2.2.2.1.length s1.2.2.2.2.2.2.2.2.2.2.1) s1.2.2.2.2.2.2.2.2.2.2.2.1,Qk 35 6 (s1.2.2.2.2.2.2.2.2.2.2.2.1.map Q1c),.blk g6 [.slice none 0 0,.slice none 0 0,.slice none 0 0,.slice none 0 0,.slice none 0 0,.slice none 0 0,.slice s1.1 s1.2.2.1.length s1.2.1,.slice s1.2.2.2.1 s1.2.2.2.2.2.1.length s1.2.2.2.2.1,.slice none 0 0,.slice none 0 0,.slice none 0 0,.slice none 0 0,.slice none 0 0,.slice none 0 0,.slice none 0 0,.slice none 0 0,.slice none 0 0,.slice none 0 0,.slice none 0 0,.slice s1.2.2.2.2.2.2.1 s1.2.2.2.2.2.2.2.2.1.length s1.2.2.2.2.2.2.2.1,.slice none 0 0,.slice none 0 0,.slice none 0 0,.slice none 0 0,.slice none 0 0,.slice none 0 0,.slice s1.2.2.2.2.2.2.2.2.2.1 s1.2.2.2.2.2.2.2.2.2.2.2.1.length s1.2.2.2.2.2.2.2.2.2.2.1,.slice none 0 0,.slice none 0 0] 109,.own 77 1 Q1T.pair (.slice (some ⟨g16,0,none⟩) zs.length c) zs,QR Q1T (zs.drop (s1.2.2.2.2.2.2.2.2.2.2.2.2 + 1)) none] (fun _ h=>h.bagUncons 10 rfl hz1) (wC [9,1,2,3,4,5,6,0] [7,8,10,11] rfl fn_61 rfl (ap_putReplies _ s1.1 s1.2.1 s1.2.2.1 s1.2.2.2.1 s1.2.2.2.2.1 s1.2.2.2.2.2.1 s1.2.2.2.2.2.2.1 s1.2.2.2.2.2.2.2.1 s1.2.2.2.2.2.2.2.2.1 s1.2.2.2.2.2.2.2.2.2.1 s1.2.2.2.2.2.2.2.2.2.2.1 s1.2.2.2.2.2.2.2.2.2.2.2.1 z1.2.1 z1.2.2 z1.1 (by omega) hb6 (by omega) hb7 (by omega) hb19 hxs.1 hxs.2) (asK [] rfl) rfl (H':=[_,_,_,_]) rfl ?_)))
  rintro _ _ _ ⟨q6_1,d6_1,k6_1,q7_1,d7_1,k7_1,q19_1,d19_1,k19_1,hl6_1,hb6_1,hl7_1,hb7_1,hl19_1,hb19_1,rfl,rfl,rfl⟩
  refine Q3 (Qa (Q2 (Q1 (wP rfl (wP rfl (Qr (d:=12) (v':=.int .i64 ((s1.2.2.2.2.2.2.2.2.2.2.2.2 + 1:Nat):Int)) (S':=[_,_,_,_,_,_,_,_,_,_,_,_]) rfl rfl (Qw (a:=s1.2.2.2.2.2.2.2.2.2.2.2.2) (b:=1) (by omega)) (Qs (S':=[_,_,_,_,_,_,_,_,_,_,_,_]) rfl rfl rfl rfl rfl (Q3 (QE [1,2,3,4,5,6,7,8,0,9,10] rfl (H':=[_,_,_,_,_,_,_,_,_,_,_]) rfl ?_)))))))))
  refine Q16 (q6_1,d6_1,k6_1,q7_1,d7_1,k7_1,q19_1,d19_1,k19_1,s1.2.2.2.2.2.2.2.2.2.1,s1.2.2.2.2.2.2.2.2.2.2.1,s1.2.2.2.2.2.2.2.2.2.2.2.1,s1.2.2.2.2.2.2.2.2.2.2.2.2 + 1) (by show zs.length - (s1.2.2.2.2.2.2.2.2.2.2.2.2 + 1) < zs.length - s1.2.2.2.2.2.2.2.2.2.2.2.2; omega) ⟨by show s1.2.2.2.2.2.2.2.2.2.2.2.2 + 1 ≤ _; omega,by have:=hl6_1; show List.length (k6_1) ≤ (s1.2.2.2.2.2.2.2.2.2.2.2.2 + 1) * _; omega,hb6_1,by have:=hl7_1; show List.length (k7_1) ≤ (s1.2.2.2.2.2.2.2.2.2.2.2.2 + 1) * _; omega,hb7_1,by have:=hl19_1; show List.length (k19_1) ≤ (s1.2.2.2.2.2.2.2.2.2.2.2.2 + 1) * _; omega,hb19_1,by have:=hl26; show List.length (s1.2.2.2.2.2.2.2.2.2.2.2.1) ≤ (s1.2.2.2.2.2.2.2.2.2.2.2.2 + 1) * _; omega,hb26⟩ [4,3,2,0] rfl (asK [] rfl) rfl
 ·
  replace h10:=of_decide_eq_false h10
  obtain ⟨hi2,hl6,hb6,hl7,hb7,hl19,hb19,hl26,hb26⟩:=oks1
  refine QH (Q8 (Q8 (Qh (Q2 (Q4 (Q1 (wP rfl (wC [8,0,1,2,3,4,5,6,7] [9,10] rfl fn_44 rfl (ap_apart _ s1.1 s1.2.1 s1.2.2.1 s1.2.2.2.1 s1.2.2.2.2.1 s1.2.2.2.2.2.1 s1.2.2.2.2.2.2.1 s1.2.2.2.2.2.2.2.1 s1.2.2.2.2.2.2.2.2.1 s1.2.2.2.2.2.2.2.2.2.1 s1.2.2.2.2.2.2.2.2.2.2.1 s1.2.2.2.2.2.2.2.2.2.2.2.1 (by omega) hb6 (by omega) hb7 (by omega) hb19 (by omega) hb26) (asK [] rfl) rfl (H':=[_,_]) rfl ?_))))))))
  rintro _ _ _ ⟨r6,r7,r19,r26,hE6,hE7,hE19,hE26,rfl,rfl,rfl⟩
  refine Qs (S':=[_,_,_,_,_,_]) rfl rfl rfl rfl rfl (Q3 (Q2 (Q5 [2,10,4,3,0] (S':=[_,_,_,_,_]) rfl (Qn (Qp (Hr:=[Qk 149 3 r6,Qk 61 3 r7,Qk 27 4 r19,Qk 35 6 r26]) [0,1,2,3] Tryz.results39 (Qd rfl) ?_ (asK [] rfl) rfl rfl (.inl rfl))))))
  exact ⟨_,_,_,_,rfl,rfl,rfl⟩
theorem Q6L (N:Nat) (qg0:Nat) (qp1:Option Addr) (qn2:Nat) (qc3:Nat) (l0:List SessD) (a1:Int) (o0:Int) (hm:Q57 N l0 a1 = some o0):Q1v Tryz.prog 40 [.pointer (some ⟨qg0,0,none⟩)] [] [.blk qg0 [.slice qp1 qn2 qc3,.int .i64 a1] 65,Qi Qe 35 6 (.slice qp1 qn2 qc3) l0] (fun v Φr Hr=>v = .int .i64 o0 ∧ Φr = [] ∧ Hr = [.blk qg0 [.slice qp1 qn2 qc3,.int .i64 a1] 65,Qi Qe 35 6 (.slice qp1 qn2 qc3) l0]):=by
 unfold Q57 at hm
 refine Qx Tryz.func40 rfl Tryz.ntmps40 rfl (S:=[_]) rfl (fun C=>(Q4 (Q1 (wP rfl (Q3 (Q2 (Q5 [0] (S':=[_]) rfl (Q4 (Q4 (Q1 (wP rfl ?_)))))))))))
 obtain ⟨_,hc4,hm⟩:=Q6 hm
 try dsimp only at hm
 refine wC [0,1] [] rfl fn_42 rfl (Q43 N qg0 qp1 qn2 qc3 l0 a1 hc4) (asK [] rfl) rfl (H':=[]) rfl ?_
 rintro _ _ _ ⟨rfl,rfl,rfl⟩
 refine wP rfl (Q3 (Q2 (Q5 [5,0] (S':=[_,_]) rfl ?_)))
 refine Qm rfl (fun hb5=>?_) (fun hb5=>?_)
 ·
  replace hm:=QQ hm hb5
  refine Q5 [] (S':=[]) rfl (Q4 (Q1 (wP rfl (Q3 (Q2 (Qn (Qb ?_)))))))
  have hE:=(Option.some.inj hm).symm
  replace hE:=hE.symm
  subst hE
  refine Qp (Hr:=[_,_]) [0,1] Tryz.results40 (Qd rfl) ⟨rfl,rfl,rfl⟩ (asK [] rfl) rfl rfl (.inl rfl)
 ·
  replace hm:=QP hm hb5
  refine Q5 [0] (S':=[_]) rfl (Qj (Q2 (Q4 (Q1 (wP rfl (wP rfl (wF rfl Q67 (wD 0 1 rfl Q1g Q1D rfl (wP rfl (Q3 (Q2 (Q5 [2] (S':=[_]) rfl (Qn ?_)))))))))))))
  have hE:=(Option.some.inj hm).symm
  replace hE:=hE.symm
  subst hE
  refine Qp (Hr:=[_,_]) [0,1] Tryz.results40 (Qd rfl) ⟨rfl,rfl,rfl⟩ (asK [] rfl) rfl rfl (.inl rfl)
theorem Q5O (N:Nat) (qg0:Nat) (qp1:Option Addr) (qn2:Nat) (qc3:Nat) (l0:List SessD) (a1:Int) (o2:List SessD) (hm:Q3I N l0 a1 = some o2):Q1v Tryz.prog 17 [.pointer (some ⟨qg0,0,none⟩)] [] [.blk qg0 [.slice qp1 qn2 qc3,.int .i64 a1] 65,Qi Qe 35 6 (.slice qp1 qn2 qc3) l0] (fun v Φr Hr=>∃ (o0:Option Addr) (o1:Nat) (o3:Nat),v = .slice o0 o3 o1 ∧ Φr = [] ∧ Hr = [Qi Qe 35 6 (.slice o0 o3 o1) o2,.blk qg0 [.slice qp1 qn2 qc3,.int .i64 a1] 65,Qi Qe 35 6 (.slice qp1 qn2 qc3) l0]):=by
 unfold Q3I at hm
 refine Qx Tryz.func17 rfl Tryz.ntmps17 rfl (S:=[_]) rfl (fun C=>(Q4 (Q1 (wP rfl (Q3 (Q2 (Q5 [0] (S':=[_]) rfl (Q4 (Q4 (Q1 (wP rfl ?_)))))))))))
 obtain ⟨_,hc4,hm⟩:=Q6 hm
 try dsimp only at hm
 refine wC [0,1] [] rfl fn_42 rfl (Q43 N qg0 qp1 qn2 qc3 l0 a1 hc4) (asK [] rfl) rfl (H':=[]) rfl ?_
 rintro _ _ _ ⟨rfl,rfl,rfl⟩
 refine wP rfl (Q3 (Q2 (Q5 [5,0] (S':=[_,_]) rfl ?_)))
 refine Qm rfl (fun hb5=>?_) (fun hb5=>?_)
 ·
  replace hm:=QQ hm hb5
  refine Q5 [] (S':=[]) rfl (Q4 (Q1 (wP rfl (Q3 (Q2 (Qn (Qb ?_)))))))
  have hE:=(Option.some.inj hm).symm
  replace hE:=hE.symm
  subst hE
  refine Q3o [Qi Qe 35 6 (.slice none 0 0) [],_,_] (fun _ h=>h.treeNil Qe 35 6) ?_
  refine Qp (Hr:=[_,_,_]) [0,1,2] Tryz.results17 (Qd rfl) ⟨none,0,0,rfl,rfl,rfl⟩ (asK [] rfl) rfl rfl (.inl rfl)
 ·
  replace hm:=QP hm hb5
  refine Q5 [0] (S':=[_]) rfl (Qj (Q2 (Q4 (Q1 (wP rfl (wP rfl (wF rfl Q4t (wF rfl Q4r (wD 0 0 rfl Q1L Q3Q rfl (QG 1 rfl (fun hzt2 _=>?_)))))))))))
  subst hzt2
  obtain ⟨v11,hc11,hm⟩:=Q6 hm
  refine Q3h [] [0,1] [1] rfl rfl rfl (Q0 rfl) rfl rfl fn_25 rfl (Q74 N qp1 qc3 l0 _ hc11) (fun F w hφ hh=>(QD (Q1M Q2z (hh _ (QS (k:=0) rfl)) (fun _ h=>h) (fun _ h=>h)) Q1f)) (fun _ _ _ hR=>by obtain ⟨_,_,rfl,rfl,rfl⟩:=hR; exact ⟨rfl,(Q4B (Q68 Q5B) (fun _ h=>Q2h h))⟩) rfl rfl (H':=[_,_]) rfl ?_
  rintro _ _ _ ⟨p11_0,c11_1,rfl,rfl,rfl⟩
  refine wP rfl (Q3 (Q2 (Q5 [2] (S':=[_]) rfl (Qn ?_))))
  have hE:=(Option.some.inj hm).symm
  replace hE:=hE.symm
  subst hE
  refine Qp (Hr:=[_,_,_]) [0,1,2] Tryz.results17 (Qd rfl) ⟨p11_0,c11_1,l0.length,rfl,rfl,rfl⟩ (asK [] rfl) rfl rfl (.inl rfl)
theorem Q7f (N:Nat) (a0:Int) (a1:Int) (a2:Int) (a3:Int) (qp0:Option Addr) (qc1:Nat) (l4:List FactD) (qp2:Option Addr) (qc3:Nat) (l5:List V) (a6:Int) (a7:Int) (a8:Int) (a9:Int) (qp4:Option Addr) (qc5:Nat) (l10:List FactD) (qp6:Option Addr) (qc7:Nat) (l11:List V) (o0:Bool) (hm:Q3G N a0 a1 a2 a3 l4 l5 a6 a7 a8 a9 l10 l11 = some o0):Q1v Tryz.prog 28 [.agg #[.int .i64 a0,.int .i64 a1,.int .i64 a2,.int .i64 a3,.slice qp0 l4.length qc1,.slice qp2 l5.length qc3],.agg #[.int .i64 a6,.int .i64 a7,.int .i64 a8,.int .i64 a9,.slice qp4 l10.length qc5,.slice qp6 l11.length qc7]] [.sli 3 QO qp0 qc1 l4,.sli 3 R_V qp2 qc3 l5,.sli 3 QO qp4 qc5 l10,.sli 3 R_V qp6 qc7 l11] [] (fun v Φr Hr=>v = .bool o0 ∧ Φr = [] ∧ Hr = []):=by
 unfold Q3G at hm
 refine Qx Tryz.func28 rfl Tryz.ntmps28 rfl (S:=[_,_]) rfl (fun C=>(Q4 (Q1 (wB rfl (fun g2=>(wB rfl (fun g3=>(wP rfl (Q3 (Q2 (Q5 [3,2] (S':=[_,_]) rfl (Q4 (Q1 (wF rfl Q4A (wD 1 0 rfl Q1g Q1D rfl (wF rfl Q4A ?_))))))))))))))))
 refine wD 0 0 rfl Q1g Q1D rfl (wP rfl (wP rfl ?_))
 refine QA (d:=10) (S':=[_,_,_,_,_,_,_]) rfl rfl (fun hs10=>?_) (fun hs10=>?_)
 ·
  replace hm:=QQ hm hs10
  refine wF rfl Q4h (wD 1 1 rfl Q1g Q1D rfl (wF rfl Q4h (wD 0 1 rfl Q1g Q1D rfl (wP rfl (wP rfl (wP rfl ?_))))))
  refine QA (d:=17) (S':=[_,_,_,_,_,_,_,_,_,_,_,_,_,_]) rfl rfl (fun hs17=>?_) (fun hs17=>?_)
  ·
   replace hm:=QQ hm hs17
   refine wF rfl Q4b (Q1e 1 2 rfl rfl rfl (Q0 rfl) rfl rfl rfl (cs:=[_,_,_,_]) rfl Q11 Q1W rfl rfl (wF rfl Q4b (Q1e 0 2 rfl rfl rfl (Q0 rfl) rfl rfl rfl (cs:=[_,_,_,_]) rfl Q11 Q1W rfl rfl ?_)))
   obtain ⟨v22,hc22,hm⟩:=Q6 hm
   refine wC [] [0,1] rfl fn_38 rfl (Q4Z N a2 a3 qp0 qc1 l4 qp2 qc3 l5 a8 a9 qp4 qc5 l10 qp6 qc7 l11 _ hc22) (asK [0,1,2,3] rfl) rfl (H':=[_,_]) rfl ?_
   rintro _ _ _ ⟨rfl,rfl,rfl⟩
   refine wP rfl (wP rfl (Q3 (Q2 (Q5 [4] (S':=[_]) rfl (Qn ?_)))))
   have hE:=(Option.some.inj hm).symm
   replace hE:=hE.symm
   subst hE
   refine Qp (Hr:=[]) [] Tryz.results28 (Qd rfl) ⟨rfl,rfl,rfl⟩ (asK [] rfl) rfl rfl (.inl rfl)
  ·
   replace hm:=QP hm hs17
   refine wO rfl (wO rfl (wO rfl (wO rfl (wO rfl (wP rfl (wP rfl (Q3 (Q2 (Q5 [4] (S':=[_]) rfl (Qn ?_))))))))))
   have hE:=(Option.some.inj hm).symm
   replace hE:=hE.symm
   subst hE
   refine Qp (Hr:=[]) [] Tryz.results28 (Qd rfl) ⟨rfl,rfl,rfl⟩ (asK [] rfl) rfl rfl (.inl rfl)
 ·
  replace hm:=QP hm hs10
  refine wO rfl (wO rfl (wO rfl (wO rfl (wO rfl (wP rfl (wP rfl (wO rfl (wO rfl (wO rfl (wO rfl (wO rfl (wP rfl (wP rfl ?_)))))))))))))
  refine Q3 (Q2 (Q5 [4] (S':=[_]) rfl (Qn ?_)))
  have hE:=(Option.some.inj hm).symm
  replace hE:=hE.symm
  subst hE
  refine Qp (Hr:=[]) [] Tryz.results28 (Qd rfl) ⟨rfl,rfl,rfl⟩ (asK [] rfl) rfl rfl (.inl rfl)
theorem Q73 (N:Nat) (qp0:Option Addr) (qc1:Nat) (l0:List SessD) (qp2:Option Addr) (qc3:Nat) (l1:List SessD) (o0:Bool) (hm:Q3x N l0 l1 = some o0):Q1v Tryz.prog 41 [.slice qp0 l0.length qc1,.slice qp2 l1.length qc3] [.sli 6 Qt qp0 qc1 l0,.sli 6 Qt qp2 qc3 l1] [] (fun v Φr Hr=>v = .bool o0 ∧ Φr = [] ∧ Hr = []):=by
 unfold Q3x at hm
 refine Qx Tryz.func41 rfl Tryz.ntmps41 rfl (S:=[_,_]) rfl (fun C=>(Q4 (Q1 (wP rfl (Q3 (Q2 (Q5 [0,1] (S':=[_,_]) rfl (Q4 (Q4 (Q1 (wP rfl (wN rfl QB (wP rfl (wN rfl QB ?_))))))))))))))
 refine wP rfl (Qr (d:=10) (v':=.bool (l0.length != l1.length)) (S':=[_,_,_,_,_,_]) rfl rfl (natne (a:=l0.length) (b:=l1.length)) (Q3 (Q2 (Q5 [10,0,1] (S':=[_,_,_]) rfl ?_))))
 refine Qm rfl (fun hb10=>?_) (fun hb10=>?_)
 ·
  replace hm:=QQ hm hb10
  refine Q5 [] (S':=[]) rfl (Q4 (Q1 (wP rfl (Q3 (Q2 (Qn (Qb ?_)))))))
  have hE:=(Option.some.inj hm).symm
  replace hE:=hE.symm
  subst hE
  refine Qp (Hr:=[]) [] Tryz.results41 (Qd rfl) ⟨rfl,rfl,rfl⟩ (asK [] rfl) rfl rfl (.inl rfl)
 ·
  replace hm:=QP hm hb10
  refine Q5 [0,1] (S':=[_,_]) rfl (Qj (Q2 (Q4 ?_)))
  obtain ⟨bj_1,hm,hLj_1⟩:=Q2F hm
  refine Q14 (σ:=Unit) (fun _=>bj_1 = .inl ()) (fun _=>[]) (fun _=>[]) (fun _=>[]) ?_ ?_
  ·
   refine Q4 (Q1 (wP rfl (Q3 (Q2 (Qc (QI (σ:=Nat × Nat) (fun (nu1,u1_5)=>Q2s (Q2L N l0 l1) nu1 u1_5 = some bj_1) (fun (nu1,u1_5)=>nu1) (fun (nu1,u1_5)=>[(5,.int .i64 ((u1_5:Nat):Int)),(0,.slice qp0 l0.length qc1),(1,.slice qp2 l1.length qc3)]) (fun (nu1,u1_5)=>[.sli 6 Qt qp0 qc1 l0,.sli 6 Qt qp2 qc3 l1]) (fun (nu1,u1_5)=>[]) (N,0) hm [5,0,1] rfl (asK [0,1] rfl) rfl (fun s_ hm=>?_)))))))
   obtain ⟨nu1,u1_5⟩:=s_
   try dsimp only at hm ⊢
   obtain ⟨mu1,bu1,hnu1,hq,hLu1⟩:=Q1m hm
   clear hm
   subst hnu1
   replace hm:=hq
   clear hq
   unfold Q2L at hm
   try dsimp only at hm
   refine Q4 (Q4 (Q1 (wP rfl (wP rfl (wN rfl QB (wP rfl (Qr (d:=14) (v':=.bool (decide (u1_5 < l0.length))) (S':=[_,_,_,_,_,_]) rfl rfl (Q3a (a:=u1_5) (b:=l0.length)) (Q3 (Q2 (Q5 [14,5,0,1] (S':=[_,_,_,_]) rfl ?_))))))))))
   refine Qm rfl (fun hb14=>?_) (fun hb14=>?_)
   ·
    replace hm:=QQ hm hb14
    refine Q5 [5,0,1] (S':=[_,_,_]) rfl (Qj (Q2 (Q4 (Qc (Q4 ?_)))))
    obtain ⟨x19,hx19,hm⟩:=Q6 hm
    obtain ⟨x23,hx23,hm⟩:=Q6 hm
    obtain ⟨v25,hc25,hm⟩:=Q6 hm
    refine Q1l [0,1,2,3,4,5,6,7,9] rfl rfl (fun hok=>(xP hok 0 rfl (xP hok 1 rfl (Q1y hok 2 0 u1_5 rfl rfl rfl (Q0 rfl) rfl rfl rfl rfl rfl rfl hx19 QB QN (fun b19 q19 cs19 hlx19=>(Q1K Q17 1 rfl (fun r19 er19 _=>?_)))))))
    subst er19
    refine Q2m hok 3 2 0 rfl rfl rfl (Q0 rfl) rfl rfl rfl rfl (cs:=[_,_,_,_,_,_]) rfl QN Q4O rfl rfl (xP hok 4 rfl (xP hok 5 rfl (Q1y hok 6 5 u1_5 rfl rfl rfl (Q0 rfl) rfl rfl rfl rfl rfl rfl hx23 QB QN (fun b23 q23 cs23 hlx23=>(Q1K Q17 1 rfl (fun r23 er23 _=>?_))))))
    subst er23
    refine Q2m hok 7 2 0 rfl rfl rfl (Q0 rfl) rfl rfl rfl rfl (cs:=[_,_,_,_,_,_]) rfl QN Q4O rfl rfl (xS hok 8 rfl (wC [] [] rfl fn_28 rfl (Q7f N x19.id x19.seq x19.r.err x19.r.num r19.1.1 r19.1.2 x19.r.facts r19.2.1 r19.2.2 x19.r.said x23.id x23.seq x23.r.err x23.r.num r23.1.1 r23.1.2 x23.r.facts r23.2.1 r23.2.2 x23.r.said _ hc25) (asK [4,5,0,1] rfl) rfl (H':=[]) rfl ?_))
    rintro _ _ _ ⟨rfl,rfl,rfl⟩
    refine Q3 (QT [0,1,2,3,4,5,6,7,8,9] [] rfl rfl (xP hok 9 rfl (Q19 hok rfl (Q2 (Q5 [26,5,0,1] (S':=[_,_,_,_]) rfl ?_)))))
    refine Qm rfl (fun hb26=>?_) (fun hb26=>?_)
    ·
     replace hm:=QQ hm hb26
     refine Q5 [] (S':=[]) rfl (Q4 (Q1 (wP rfl (Q3 (Q2 (Qn (Qu (Qb (Qb (Qu (Qb ?_)))))))))))
     have hE:=(Option.some.inj hm).symm
     replace hE:=Qy hLu1 hE
     replace hE:=Qy hLj_1 hE
     replace hE:=hE.symm
     subst hE
     refine Qp (Hr:=[]) [] Tryz.results41 (Qd rfl) ⟨rfl,rfl,rfl⟩ (asK [] rfl) rfl rfl (.inl rfl)
    ·
     replace hm:=QP hm hb26
     refine Q5 [5,0,1] (S':=[_,_,_]) rfl (Qj (Qa (Q2 (Q1 (wP rfl (wP rfl ?_))))))
     obtain ⟨hg16,hm⟩:=Qq hm
     refine Qr (d:=16) (v':=.int .i64 ((u1_5 + 1:Nat):Int)) (S':=[_,_,_,_]) rfl rfl (Qw (a:=u1_5) (b:=1) hg16) (Qs (S':=[_,_,_,_]) rfl rfl rfl rfl rfl (Q3 ?_))
     have hE:=(Option.some.inj hm).symm
     replace hE:=QZ hLu1 hE
     refine Q1n (_,u1_5 + 1) (Nat.lt_succ_self _) hE [5,0,1] rfl (asK [8,9] rfl) rfl
   ·
    replace hm:=QP hm hb14
    refine Q5 [] (S':=[]) rfl (QH (Q8 (Q8 (Qh ?_))))
    have hE:=(Option.some.inj hm).symm
    replace hE:=Qy hLu1 hE
    refine Ql () hE [] rfl (asK [] rfl) rfl
  ·
   rintro _ hE
   try dsimp only
   have hm:=QZ hLj_1 hE
   try dsimp only at hm
   refine Q4 (Q1 (wP rfl (Q3 (Q2 (Qn ?_)))))
   have hE:=(Option.some.inj hm).symm
   replace hE:=hE.symm
   subst hE
   refine Qp (Hr:=[]) [] Tryz.results41 (Qd rfl) ⟨rfl,rfl,rfl⟩ (asK [] rfl) rfl rfl (.inl rfl)
theorem Q6y (N:Nat) (qg0:Nat) (qp1:Option Addr) (qn2:Nat) (qc3:Nat) (l0:List SessD) (a1:Int) (qg4:Nat) (qp5:Option Addr) (qn6:Nat) (qc7:Nat) (l2:List SessD) (a3:Int) (o0:Bool) (hm:Q3L N l0 a1 l2 a3 = some o0):Q1v Tryz.prog 16 [.pointer (some ⟨qg0,0,none⟩),.pointer (some ⟨qg4,0,none⟩)] [] [.blk qg0 [.slice qp1 qn2 qc3,.int .i64 a1] 65,Qi Qe 35 6 (.slice qp1 qn2 qc3) l0,.blk qg4 [.slice qp5 qn6 qc7,.int .i64 a3] 67,.own 35 6 Qt (.slice qp5 qn6 qc7) l2] (fun v Φr Hr=>v = .bool o0 ∧ Φr = [] ∧ Hr = [.blk qg0 [.slice qp1 qn2 qc3,.int .i64 a1] 65,Qi Qe 35 6 (.slice qp1 qn2 qc3) l0,.blk qg4 [.slice qp5 qn6 qc7,.int .i64 a3] 67,.own 35 6 Qt (.slice qp5 qn6 qc7) l2]):=by
 unfold Q3L at hm
 refine Qx Tryz.func16 rfl Tryz.ntmps16 rfl (S:=[_,_]) rfl (fun C=>(Q4 (Q1 (wP rfl (Q3 (Q2 (Q5 [0,1] (S':=[_,_]) rfl (Q4 ?_))))))))
 obtain ⟨v6,hc6,hm⟩:=Q6 hm
 rcases Q4v hm with ⟨hs12,hm⟩ | ⟨hs12,hm⟩
 ·
  obtain ⟨v14,hc14,hm⟩:=Q6 hm
  obtain ⟨v19,hc19,hm⟩:=Q6 hm
  refine Q1l [0,2,3,4,5,6,7,8,10,11,12,13,15] rfl rfl (fun hok=>(xP hok 0 rfl (xP hok 2 rfl (xP hok 3 rfl (Qz hok 4 rfl rfl rfl (Q0 rfl) rfl rfl rfl Q84 (Q1R hok 5 2 1 rfl rfl rfl (Q0 rfl) rfl rfl rfl rfl (cs:=[_]) rfl Q1g Q1D rfl rfl (xS hok 1 rfl (wC [0,1] [2,3] rfl fn_40 rfl (Q6L N qg0 qp1 qn2 qc3 l0 a1 _ hc6) (asK [] rfl) rfl (H':=[_,_]) rfl ?_))))))))
  rintro _ _ _ ⟨rfl,rfl,rfl⟩
  refine Q3 (QT [] [2] rfl rfl (xP hok 6 rfl (xP hok 7 rfl (Q1h (d:=12) (v':=.bool true) (S':=[_,_,_,_,_,_,_,_,_]) rfl rfl (Q1p hs12) (xP hok 8 rfl (xP hok 10 rfl (xP hok 11 rfl (Qz hok 12 rfl rfl rfl (Q0 rfl) rfl rfl rfl Q5j (Q1R hok 13 2 0 rfl rfl rfl (Q0 rfl) rfl rfl rfl rfl (cs:=[_]) rfl Q1L Q3Q rfl rfl (xS hok 9 rfl (wC [0,1] [2,3] rfl fn_17 rfl (Q5O N qg0 qp1 qn2 qc3 l0 a1 _ hc14) (asK [] rfl) rfl (H':=[_,_]) rfl ?_)))))))))))
  rintro _ _ _ ⟨p14_0,c14_1,c14_2,rfl,rfl,rfl⟩
  refine Q3 (QT [] [3,3] rfl rfl (xS hok 14 rfl (QG 0 rfl (fun hzt4 _=>?_))))
  subst hzt4
  refine Q2n 4 rfl (fun hzqn6 _=>?_)
  subst hzqn6
  refine Q3h [] [0,1,2,3,4] [0,4] rfl rfl rfl (Q0 rfl) rfl rfl fn_41 rfl (Q73 N p14_0 c14_1 v14 qp5 qc7 l2 _ hc19) (fun F w hφ hh=>(QD (Q1M Q2z (hh _ (QS (k:=0) rfl)) (fun _ h=>h) (fun _ h=>h)) (QD (Q5k (hh _ (QS (k:=1) rfl))) Q1f))) (fun _ _ _ hR=>by obtain ⟨rfl,rfl,rfl⟩:=hR; exact ⟨rfl,(fun _ h=>Q2h h)⟩) rfl rfl (H':=[_,_,_,_,_]) rfl ?_
  rintro _ _ _ ⟨rfl,rfl,rfl⟩
  refine Q3 (QT [] [3] rfl rfl (xP hok 15 rfl (xS hok 16 rfl (wP rfl (Q3 (QT [] [] rfl rfl (Q19 hok rfl (Q2 (Q5 [4] (S':=[_]) rfl (Qn ?_))))))))))
  have hE:=(Option.some.inj hm).symm
  replace hE:=hE.symm
  subst hE
  refine Qp (Hr:=[_,_,_,_]) [1,2,3,4] Tryz.results16 (Qd rfl) ⟨rfl,rfl,rfl⟩ (asK [] rfl) rfl rfl (.inl rfl)
 ·
  refine Q1l [0,2,3,4,5,6,7,8,10,11,12,13,15] rfl rfl (fun hok=>(xP hok 0 rfl (xP hok 2 rfl (xP hok 3 rfl (Qz hok 4 rfl rfl rfl (Q0 rfl) rfl rfl rfl Q84 (Q1R hok 5 2 1 rfl rfl rfl (Q0 rfl) rfl rfl rfl rfl (cs:=[_]) rfl Q1g Q1D rfl rfl (xS hok 1 rfl (wC [0,1] [2,3] rfl fn_40 rfl (Q6L N qg0 qp1 qn2 qc3 l0 a1 _ hc6) (asK [] rfl) rfl (H':=[_,_]) rfl ?_))))))))
  rintro _ _ _ ⟨rfl,rfl,rfl⟩
  refine Q3 (QT [] [2] rfl rfl (xP hok 6 rfl (xP hok 7 rfl (Q1h (d:=12) (v':=.bool false) (S':=[_,_,_,_,_,_,_,_,_]) rfl rfl (Q1p hs12) (xO hok 8 rfl (xO hok 10 rfl (xO hok 11 rfl (xO hok 12 rfl (xO hok 13 rfl (xS hok 9 rfl (wO rfl (Q3 (QT [] [2] rfl rfl ?_)))))))))))))
  refine xS hok 14 rfl (wO rfl (Q3 (QT [] [2] rfl rfl (xP hok 15 rfl (xS hok 16 rfl (wP rfl (Q3 (QT [] [] rfl rfl (Q19 hok rfl (Q2 (Q5 [4] (S':=[_]) rfl (Qn ?_))))))))))))
  have hE:=(Option.some.inj hm).symm
  replace hE:=hE.symm
  subst hE
  refine Qp (Hr:=[_,_,_,_]) [0,1,2,3] Tryz.results16 (Qd rfl) ⟨rfl,rfl,rfl⟩ (asK [] rfl) rfl rfl (.inl rfl)
theorem Q6N (N:Nat) (qg0:Nat) (qp1:Option Addr) (qn2:Nat) (qc3:Nat) (l0:List SessD) (a1:Int) (o0:Int) (o1:Nat) (o4:List SessD) (o6:Int) (hm:Q3v N l0 a1 = some (o0,o1,o4,o6)):Q1v Tryz.prog 31 [.pointer (some ⟨qg0,0,none⟩)] [] [.blk qg0 [.slice qp1 qn2 qc3,.int .i64 a1] 67,.own 35 6 Qt (.slice qp1 qn2 qc3) l0] (fun v Φr Hr=>∃ (o2:Option Addr) (o3:Nat) (o5:Nat),v = .tuple #[.int .i64 o0,.int .i64 ((o1:Nat):Int)] ∧ Φr = [] ∧ Hr = [.blk qg0 [.slice o2 o5 o3,.int .i64 o6] 67,.own 35 6 Qt (.slice o2 o5 o3) o4]):=by
 unfold Q3v at hm
 refine Qx Tryz.func31 rfl Tryz.ntmps31 rfl (S:=[_]) rfl (fun C=>(Q4 (Q1 (wP rfl (wP rfl (Q3 (Q2 (Q5 [0] (S':=[_]) rfl (Q4 (Q4 ?_))))))))))
 obtain ⟨bj_1,hm,hLj_1⟩:=Q6 hm
 refine Q14 (σ:=Bool) (fun j_1_16=>bj_1 = j_1_16) (fun j_1_16=>[(0,.pointer (some ⟨qg0,0,none⟩)),(16,.bool j_1_16)]) (fun j_1_16=>[]) (fun j_1_16=>[.blk qg0 [.slice qp1 qn2 qc3,.int .i64 a1] 67,.own 35 6 Qt (.slice qp1 qn2 qc3) l0]) ?_ ?_
 ·
  refine Q1 (wP rfl (wP rfl (wF rfl Q5j (wD 0 0 rfl Q1L Q3Q rfl (Q2n 1 rfl (fun hl8 _=>(wN rfl QB (Qr (d:=8) (v':=.int .i64 ((l0.length:Nat):Int)) (S':=[_,_,_,_,_]) rfl rfl (len_is hl8) (wP rfl (Qr (d:=9) (v':=.bool (decide (32 ≤ l0.length))) (S':=[_,_,_,_,_,_]) rfl rfl (Q7r (a:=l0.length) (b:=32)) (wP rfl ?_)))))))))))
  refine QA (d:=10) (S':=[_,_,_,_,_,_,_]) rfl rfl (fun hs10=>?_) (fun hs10=>?_)
  ·
   replace hm:=QQ hm hs10
   refine wO rfl (wO rfl (wO rfl (wO rfl (wO rfl (wP rfl (Q3 ?_))))))
   have hE:=(Option.some.inj hm).symm
   refine Ql true hE [0,16] rfl (asK [] rfl) rfl
  ·
   replace hm:=QP hm hs10
   refine wP rfl (wP rfl (wF rfl Q84 (wD 0 1 rfl Q1g Q1D rfl (wP rfl (wP rfl (Q3 ?_))))))
   have hE:=(Option.some.inj hm).symm
   refine Ql (decide (a1 > 1099511627776)) hE [0,16] rfl (asK [] rfl) rfl
 ·
  rintro j_1_16 hE
  try dsimp only
  have hm:=hLj_1
  rw [hE] at hm
  refine Qm rfl (fun hb16=>?_) (fun hb16=>?_)
  ·
   replace hm:=QQ hm hb16
   refine Q5 [] (S':=[]) rfl (Q4 (Q1 (wP rfl (wP rfl (Q3 (Q2 (Qn (Qb ?_))))))))
   have hE:=(Option.some.inj hm).symm
   obtain ⟨hE0,hF1⟩:=Prod.mk.inj hE
   obtain ⟨hE1,hF2⟩:=Prod.mk.inj hF1
   obtain ⟨hE2,hE3⟩:=Prod.mk.inj hF2
   clear hE hF1 hF2
   replace hE0:=hE0.symm
   subst hE0
   replace hE1:=hE1.symm
   subst hE1
   replace hE2:=hE2.symm
   subst hE2
   replace hE3:=hE3.symm
   subst hE3
   refine Q4z (Hr:=[_,_]) [0,1] Tryz.results31 (Qd rfl) (Qd rfl) ⟨qp1,qc3,qn2,rfl,rfl,rfl⟩ (asK [] rfl) rfl rfl (.inl rfl)
  ·
   replace hm:=QP hm hb16
   refine Q5 [0] (S':=[_]) rfl (Qj (Q2 (Q4 ?_)))
   obtain ⟨v22,hc22,hm⟩:=Q6 hm
   obtain ⟨hg29,hm⟩:=Qq hm
   refine Q14 (σ:=(Option Addr) × Nat) (fun _=>True) (fun (w_2_0_f0_p,w_2_0_f0_c)=>[(0,.pointer (some ⟨qg0,0,none⟩))]) (fun (w_2_0_f0_p,w_2_0_f0_c)=>[]) (fun (w_2_0_f0_p,w_2_0_f0_c)=>[.blk qg0 [.slice w_2_0_f0_p ((v22 ++ [(⟨a1,0,(⟨0,0,[],[]⟩ : ReplyD)⟩ : SessD)]).length) w_2_0_f0_c,.int .i64 a1] 67,Qi Qe 35 6 (.slice w_2_0_f0_p ((v22 ++ [(⟨a1,0,(⟨0,0,[],[]⟩ : ReplyD)⟩ : SessD)]).length) w_2_0_f0_c) (v22 ++ [(⟨a1,0,(⟨0,0,[],[]⟩ : ReplyD)⟩ : SessD)]),.own 35 6 Qt (.slice qp1 qn2 qc3) l0]) ?_ ?_
   ·
    refine Q1l [0,1,2,3,4,6,7,8,9,10,13,14] rfl rfl (fun hok=>(xP hok 0 rfl (xP hok 1 rfl (xP hok 2 rfl (Qz hok 3 rfl rfl rfl (Q0 rfl) rfl rfl rfl Q5j (Q1R hok 4 0 0 rfl rfl rfl (Q0 rfl) rfl rfl rfl rfl (cs:=[_]) rfl Q1L Q3Q rfl rfl (xP hok 6 rfl (xP hok 7 rfl (Qz hok 8 rfl rfl rfl (Q0 rfl) rfl rfl rfl Q84 (Q1R hok 9 0 1 rfl rfl rfl (Q0 rfl) rfl rfl rfl rfl (cs:=[_]) rfl Q1g Q1D rfl rfl (Q4Q hok 10 rfl rfl rfl (Q0 rfl) rfl rfl Q4G tP_35 rfl (out:=[_,_,_,_,_,_]) rfl ?_)))))))))))
    refine wx_step2 hok 5 11 rfl rfl rfl rfl rfl rfl ?_ ?_
    ·
     refine Q2n 1 rfl (fun hzqn2 _=>?_)
     subst hzqn2
     refine Q3h [] [0,1] [1] rfl rfl rfl (Q0 rfl) rfl rfl fn_26 rfl (Q2d N qp1 qc3 l0 _ hc22) (fun F w hφ hh=>(QD (Q5k (hh _ (QS (k:=0) rfl))) Q1f)) (fun _ _ _ hR=>by obtain ⟨_,_,_,rfl,rfl,rfl⟩:=hR; exact ⟨rfl,(Q4B (Q68 Q5B) (fun _ h=>Q2h h))⟩) rfl rfl (H':=[_,_]) rfl ?_
     rintro _ _ _ ⟨p22_0,c22_1,c22_2,rfl,rfl,rfl⟩
     refine Q3 (QT [] [1] rfl rfl (xS hok 11 rfl (QJ rfl rfl rfl (Q0 rfl) rfl QB QN Q4G rfl (zs:=[.int .i64 0,.int .i64 0,.int .i64 0,.int .i64 0,.slice none 0 0,.slice none 0 0]) (by kernel_rfl) rfl (out:=[_,_,_,_,_,_]) rfl (fun g28=>(Q3 (QT [] [2,2] rfl rfl (xS hok 12 rfl (QG 1 rfl (fun hzt4 _=>?_)))))))))
     subst hzt4
     refine Qv [Qi Qf 61 3 (.slice none 0 0) [],_,_,_,_] (fun _ h=>h.treeNil Qf 61 3) (QM 149 3 R_V (Q1q 3 rfl (fun zz29 hzz29=>?_)))
     have hzs2:List.map (fun x:SessD × ((Option Addr × Nat) × (Option Addr × Nat))=>x.1) (zz29 ++ [((⟨a1,0,(⟨0,0,[],[]⟩ : ReplyD)⟩ : SessD),((none,0),(none,0)))]) = v22 ++ [(⟨a1,0,(⟨0,0,[],[]⟩ : ReplyD)⟩ : SessD)]:=Q5I hzz29 (us:=[(⟨a1,0,(⟨0,0,[],[]⟩ : ReplyD)⟩ : SessD)]) rfl
     have hgl29:zz29.length + ([((⟨a1,0,(⟨0,0,[],[]⟩ : ReplyD)⟩ : SessD),((none,0),(none,0)))] : List (SessD × ((Option Addr × Nat) × (Option Addr × Nat)))).length ≤ 1759218604441:=by rw [Q12 hzz29]; exact hg29
     refine Q3c (R:=Qe.pair) ([((⟨a1,0,(⟨0,0,[],[]⟩ : ReplyD)⟩ : SessD),((none,0),(none,0)))]) 4 3 rfl rfl rfl (Q0 rfl) rfl rfl rfl rfl rfl (fun F w hφ=>⟨[.int .i64 a1,.int .i64 0,.int .i64 0,.int .i64 0,.slice none 0 0,.slice none 0 0],[],rfl,rfl,rfl,rfl⟩) QB Q6Q rfl rfl (Nat.le_trans hgl29 (by decide)) (Nat.le_trans (Nat.mul_le_mul_right _ hgl29) (by decide)) (H2:=fun p29 c29=>[_,_,_,_,.own 35 6 Qe.pair (.slice p29 ((zz29 ++ [((⟨a1,0,(⟨0,0,[],[]⟩ : ReplyD)⟩ : SessD),((none,0),(none,0)))]).length) c29) (zz29 ++ [((⟨a1,0,(⟨0,0,[],[]⟩ : ReplyD)⟩ : SessD),((none,0),(none,0)))]),_,_]) (fun _ _=>rfl) (fun p29 c29=>(Q2k 3 rfl (H':=[_,_,_,_,_,_]) rfl (Qr (d:=29) (v':=.slice p29 ((v22 ++ [(⟨a1,0,(⟨0,0,[],[]⟩ : ReplyD)⟩ : SessD)]).length) c29) (S':=[_,_,_,_,_,_,_,_,_,_,_,_,_]) rfl rfl (by rw [Q12 hzs2]) (Q15 3 (φ':=.own 35 6 Qe.pair (.slice p29 ((v22 ++ [(⟨a1,0,(⟨0,0,[],[]⟩ : ReplyD)⟩ : SessD)]).length) c29) (zz29 ++ [((⟨a1,0,(⟨0,0,[],[]⟩ : ReplyD)⟩ : SessD),((none,0),(none,0)))])) rfl (by rw [Q12 hzs2]) (H':=[_,_,_,_,_,_]) rfl (Q13 [1,2,0,3,4,5] rfl (H':=[_,_,_,_,_,_]) rfl (Qv [QR Qe (zz29 ++ [((⟨a1,0,(⟨0,0,[],[]⟩ : ReplyD)⟩ : SessD),((none,0),(none,0)))]) none,_,_,_] (fun _ h=>Qo.bagPush (T:=Qe) (x:=(⟨a1,0,(⟨0,0,[],[]⟩ : ReplyD)⟩ : SessD)) (r:=((none,0),(none,0))) (zs:=zz29) (H:=[_,_,_,_]) h 0 rfl) (Qv [Qi Qe 35 6 (.slice p29 ((v22 ++ [(⟨a1,0,(⟨0,0,[],[]⟩ : ReplyD)⟩ : SessD)]).length) c29) (v22 ++ [(⟨a1,0,(⟨0,0,[],[]⟩ : ReplyD)⟩ : SessD)]),_,_] (fun _ h=>h.treeIn 1 0 rfl rfl rfl hzs2) (Q3 (QT [] [1,1] rfl rfl (xP hok 13 rfl (Qz hok 14 rfl rfl rfl (Q0 rfl) rfl rfl rfl Q5j (xS hok 15 rfl (wS 1 0 rfl Q1L (all':=[_,_]) rfl (H':=[_,_,_]) rfl (Q3 ?_))))))))))))))
     refine QT [] [] rfl rfl (Q19 hok rfl (QE [1,0,2] rfl (H':=[_,_,_]) rfl ?_))
     refine Ql (p29,c29) trivial [0] rfl (asK [] rfl) rfl
    ·
     refine QJ rfl rfl rfl (Q0 rfl) rfl QB QN Q4G rfl (zs:=[.int .i64 0,.int .i64 0,.int .i64 0,.int .i64 0,.slice none 0 0,.slice none 0 0]) (by kernel_rfl) rfl (out:=[_,_,_,_,_,_]) rfl (fun g28=>(Q3 (QT [] [1,1] rfl rfl (xS hok 5 rfl (Q2n 2 rfl (fun hzqn2 _=>?_))))))
     subst hzqn2
     refine Q3h [] [0,1,2] [2] rfl rfl rfl (Q0 rfl) rfl rfl fn_26 rfl (Q2d N qp1 qc3 l0 _ hc22) (fun F w hφ hh=>(QD (Q5k (hh _ (QS (k:=0) rfl))) Q1f)) (fun _ _ _ hR=>by obtain ⟨_,_,_,rfl,rfl,rfl⟩:=hR; exact ⟨rfl,(Q4B (Q68 Q5B) (fun _ h=>Q2h h))⟩) rfl rfl (H':=[_,_,_]) rfl ?_
     rintro _ _ _ ⟨p22_0,c22_1,c22_2,rfl,rfl,rfl⟩
     refine Q3 (QT [] [2] rfl rfl (xS hok 12 rfl (QG 0 rfl (fun hzt5 _=>?_))))
     subst hzt5
     refine Qv [Qi Qf 61 3 (.slice none 0 0) [],_,_,_,_] (fun _ h=>h.treeNil Qf 61 3) (QM 149 3 R_V (Q1q 2 rfl (fun zz29 hzz29=>?_)))
     have hzs3:List.map (fun x:SessD × ((Option Addr × Nat) × (Option Addr × Nat))=>x.1) (zz29 ++ [((⟨a1,0,(⟨0,0,[],[]⟩ : ReplyD)⟩ : SessD),((none,0),(none,0)))]) = v22 ++ [(⟨a1,0,(⟨0,0,[],[]⟩ : ReplyD)⟩ : SessD)]:=Q5I hzz29 (us:=[(⟨a1,0,(⟨0,0,[],[]⟩ : ReplyD)⟩ : SessD)]) rfl
     have hgl29:zz29.length + ([((⟨a1,0,(⟨0,0,[],[]⟩ : ReplyD)⟩ : SessD),((none,0),(none,0)))] : List (SessD × ((Option Addr × Nat) × (Option Addr × Nat)))).length ≤ 1759218604441:=by rw [Q12 hzz29]; exact hg29
     refine Q3c (R:=Qe.pair) ([((⟨a1,0,(⟨0,0,[],[]⟩ : ReplyD)⟩ : SessD),((none,0),(none,0)))]) 3 4 rfl rfl rfl (Q0 rfl) rfl rfl rfl rfl rfl (fun F w hφ=>⟨[.int .i64 a1,.int .i64 0,.int .i64 0,.int .i64 0,.slice none 0 0,.slice none 0 0],[],rfl,rfl,rfl,rfl⟩) QB Q6Q rfl rfl (Nat.le_trans hgl29 (by decide)) (Nat.le_trans (Nat.mul_le_mul_right _ hgl29) (by decide)) (H2:=fun p29 c29=>[_,_,_,.own 35 6 Qe.pair (.slice p29 ((zz29 ++ [((⟨a1,0,(⟨0,0,[],[]⟩ : ReplyD)⟩ : SessD),((none,0),(none,0)))]).length) c29) (zz29 ++ [((⟨a1,0,(⟨0,0,[],[]⟩ : ReplyD)⟩ : SessD),((none,0),(none,0)))]),_,_,_]) (fun _ _=>rfl) (fun p29 c29=>(Q2k 4 rfl (H':=[_,_,_,_,_,_]) rfl (Qr (d:=29) (v':=.slice p29 ((v22 ++ [(⟨a1,0,(⟨0,0,[],[]⟩ : ReplyD)⟩ : SessD)]).length) c29) (S':=[_,_,_,_,_,_,_,_,_,_,_,_,_]) rfl rfl (by rw [Q12 hzs3]) (Q15 3 (φ':=.own 35 6 Qe.pair (.slice p29 ((v22 ++ [(⟨a1,0,(⟨0,0,[],[]⟩ : ReplyD)⟩ : SessD)]).length) c29) (zz29 ++ [((⟨a1,0,(⟨0,0,[],[]⟩ : ReplyD)⟩ : SessD),((none,0),(none,0)))])) rfl (by rw [Q12 hzs3]) (H':=[_,_,_,_,_,_]) rfl (Q13 [1,2,0,3,4,5] rfl (H':=[_,_,_,_,_,_]) rfl (Qv [QR Qe (zz29 ++ [((⟨a1,0,(⟨0,0,[],[]⟩ : ReplyD)⟩ : SessD),((none,0),(none,0)))]) none,_,_,_] (fun _ h=>Qo.bagPush (T:=Qe) (x:=(⟨a1,0,(⟨0,0,[],[]⟩ : ReplyD)⟩ : SessD)) (r:=((none,0),(none,0))) (zs:=zz29) (H:=[_,_,_,_]) h 0 rfl) (Qv [Qi Qe 35 6 (.slice p29 ((v22 ++ [(⟨a1,0,(⟨0,0,[],[]⟩ : ReplyD)⟩ : SessD)]).length) c29) (v22 ++ [(⟨a1,0,(⟨0,0,[],[]⟩ : ReplyD)⟩ : SessD)]),_,_] (fun _ h=>h.treeIn 1 0 rfl rfl rfl hzs3) (Q3 (QT [] [1,1] rfl rfl (xP hok 13 rfl (Qz hok 14 rfl rfl rfl (Q0 rfl) rfl rfl rfl Q5j (xS hok 15 rfl (wS 1 0 rfl Q1L (all':=[_,_]) rfl (H':=[_,_,_]) rfl (Q3 ?_))))))))))))))
     refine QT [] [] rfl rfl (Q19 hok rfl (QE [1,0,2] rfl (H':=[_,_,_]) rfl ?_))
     refine Ql (p29,c29) trivial [0] rfl (asK [] rfl) rfl
   ·
    rintro ⟨w_2_0_f0_p,w_2_0_f0_c⟩ _
    try dsimp only
    refine Q4 (Q1 (wP rfl (wP rfl (wF rfl Q84 (wD 0 1 rfl Q1g Q1D rfl (wP rfl ?_))))))
    obtain ⟨hg36,hm⟩:=Qq hm
    refine Qr (d:=36) (v':=.int .i64 (a1 + 1)) (S':=[_,_,_,_,_]) rfl rfl (i64_in hg36) (wP rfl (wF rfl Q84 (wS 0 1 rfl Q1g (all':=[_,_]) rfl (H':=[_,_,_]) rfl (Q3 (Q2 (Q5 [0] (S':=[_]) rfl (Q4 (Q1 (wP rfl (wP rfl (wF rfl Q84 (wD 0 1 rfl Q1g Q1D rfl (wP rfl ?_)))))))))))))
    obtain ⟨hg43,hm⟩:=Qq hm
    refine Qr (d:=43) (v':=.int .i64 ((a1 + 1) - 1)) (S':=[_,_,_,_,_]) rfl rfl (i64_in hg43) (wP rfl (wP rfl (Q3 (Q2 (Q5 [3,2] (S':=[_,_]) rfl (Qn ?_))))))
    have hE:=(Option.some.inj hm).symm
    obtain ⟨hE0,hF1⟩:=Prod.mk.inj hE
    obtain ⟨hE1,hF2⟩:=Prod.mk.inj hF1
    obtain ⟨hE2,hE3⟩:=Prod.mk.inj hF2
    clear hE hF1 hF2
    replace hE0:=hE0.symm
    subst hE0
    replace hE1:=hE1.symm
    subst hE1
    replace hE2:=hE2.symm
    subst hE2
    replace hE3:=hE3.symm
    subst hE3
    refine Q3o [_,.own 35 6 Qt (.slice w_2_0_f0_p ((v22 ++ [(⟨a1,0,(⟨0,0,[],[]⟩ : ReplyD)⟩ : SessD)]).length) w_2_0_f0_c) (v22 ++ [(⟨a1,0,(⟨0,0,[],[]⟩ : ReplyD)⟩ : SessD)]),_] (fun _ h=>h.letgo Q2z 1 rfl) ?_
    refine Q4z (Hr:=[_,_]) [0,1] Tryz.results31 (Qd rfl) (Qd rfl) ⟨w_2_0_f0_p,w_2_0_f0_c,(v22 ++ [(⟨a1,0,(⟨0,0,[],[]⟩ : ReplyD)⟩ : SessD)]).length,rfl,rfl,rfl⟩ (asK [] rfl) rfl rfl (.inl rfl)
theorem Q46 (N:Nat) (qg0:Nat) (qp1:Option Addr) (qn2:Nat) (qc3:Nat) (l0:List SessD) (a1:Int) (a2:Int) (o0:Int) (hm:Q1C N l0 a1 a2 = some o0):Q1v Tryz.prog 51 [.pointer (some ⟨qg0,0,none⟩),.int .i64 a2] [] [.blk qg0 [.slice qp1 qn2 qc3,.int .i64 a1] 67,.own 35 6 Qt (.slice qp1 qn2 qc3) l0] (fun v Φr Hr=>v = .int .i64 o0 ∧ Φr = [] ∧ Hr = [.blk qg0 [.slice qp1 qn2 qc3,.int .i64 a1] 67,.own 35 6 Qt (.slice qp1 qn2 qc3) l0]):=by
 unfold Q1C at hm
 refine Qx Tryz.func51 rfl Tryz.ntmps51 rfl (S:=[_,_]) rfl (fun C=>(Q4 (Q1 (wP rfl (Q3 (Q2 (Q5 [0,1] (S':=[_,_]) rfl (Q4 ?_))))))))
 obtain ⟨bj_1,hm,hLj_1⟩:=Q2F hm
 refine Q14 (σ:=Unit) (fun _=>bj_1 = .inl ()) (fun _=>[]) (fun _=>[]) (fun _=>[.blk qg0 [.slice qp1 qn2 qc3,.int .i64 a1] 67,.own 35 6 Qt (.slice qp1 qn2 qc3) l0]) ?_ ?_
 ·
  refine Q4 (Q1 (wP rfl (Q3 (Q2 (Qc (QI (σ:=Nat × Nat) (fun (nu1,u1_5)=>Q2s (Q27 N l0 a2) nu1 u1_5 = some bj_1) (fun (nu1,u1_5)=>nu1) (fun (nu1,u1_5)=>[(5,.int .i64 ((u1_5:Nat):Int)),(0,.pointer (some ⟨qg0,0,none⟩)),(1,.int .i64 a2)]) (fun (nu1,u1_5)=>[]) (fun (nu1,u1_5)=>[.blk qg0 [.slice qp1 qn2 qc3,.int .i64 a1] 67,.own 35 6 Qt (.slice qp1 qn2 qc3) l0]) (N,0) hm [5,0,1] rfl (asK [] rfl) rfl (fun s_ hm=>?_)))))))
  obtain ⟨nu1,u1_5⟩:=s_
  try dsimp only at hm ⊢
  obtain ⟨mu1,bu1,hnu1,hq,hLu1⟩:=Q1m hm
  clear hm
  subst hnu1
  replace hm:=hq
  clear hq
  unfold Q27 at hm
  try dsimp only at hm
  refine Q4 (Q4 (Q1 (wP rfl (wP rfl (wP rfl (wF rfl Q5j (wD 0 0 rfl Q1L Q3Q rfl (Q2n 1 rfl (fun hl11 _=>(wN rfl QB (Qr (d:=11) (v':=.int .i64 ((l0.length:Nat):Int)) (S':=[_,_,_,_,_,_,_,_]) rfl rfl (len_is hl11) (wP rfl (Qr (d:=12) (v':=.bool (decide (u1_5 < l0.length))) (S':=[_,_,_,_,_,_,_,_,_]) rfl rfl (Q3a (a:=u1_5) (b:=l0.length)) (Q3 ?_))))))))))))))
  refine Q2 (Q5 [12,5,0,1] (S':=[_,_,_,_]) rfl ?_)
  refine Qm rfl (fun hb12=>?_) (fun hb12=>?_)
  ·
   replace hm:=QQ hm hb12
   refine Q5 [5,0,1] (S':=[_,_,_]) rfl (Qj (Q2 (Q4 (Qc (Q4 (Q1 (wP rfl (wP rfl (wF rfl Q5j (wD 0 0 rfl Q1L Q3Q rfl (wP rfl ?_)))))))))))
   obtain ⟨x20,hx20,hm⟩:=Q6 hm
   refine Q1r 1 u1_5 rfl rfl rfl (Q0 rfl) rfl rfl rfl rfl rfl (Q1X hx20) QB QN (fun g20 eg20=>?_)
   subst eg20
   refine wF rfl Q4A (QU Q17 1 u1_5 0 rfl rfl rfl (Q0 rfl) rfl rfl rfl hx20 Q1g Q1D (v:=fun r22=>.int .i64 (x20.id)) (fun _=>rfl) (fun _=>rfl) (fun r22 _=>(wP rfl (wP rfl (Q3 (Q2 (Q5 [24,5,0,1] (S':=[_,_,_,_]) rfl ?_)))))))
   refine Qm rfl (fun hb24=>?_) (fun hb24=>?_)
   ·
    replace hm:=QQ hm hb24
    refine Q5 [5] (S':=[_]) rfl (Q4 (Q1 (wP rfl (wP rfl (Q3 (Q2 (Q5 [4] (S':=[_]) rfl (Qn (Qu (Qb (Qb (Qu (Qb ?_)))))))))))))
    have hE:=(Option.some.inj hm).symm
    replace hE:=Qy hLu1 hE
    replace hE:=Qy hLj_1 hE
    replace hE:=hE.symm
    subst hE
    refine Qp (Hr:=[_,_]) [0,1] Tryz.results51 (Qd rfl) ⟨rfl,rfl,rfl⟩ (asK [] rfl) rfl rfl (.inl rfl)
   ·
    replace hm:=QP hm hb24
    refine Q5 [5,0,1] (S':=[_,_,_]) rfl (Qj (Qa (Q2 (Q1 (wP rfl (wP rfl ?_))))))
    obtain ⟨hg14,hm⟩:=Qq hm
    refine Qr (d:=14) (v':=.int .i64 ((u1_5 + 1:Nat):Int)) (S':=[_,_,_,_]) rfl rfl (Qw (a:=u1_5) (b:=1) hg14) (Qs (S':=[_,_,_,_]) rfl rfl rfl rfl rfl (Q3 ?_))
    have hE:=(Option.some.inj hm).symm
    replace hE:=QZ hLu1 hE
    refine Q1n (_,u1_5 + 1) (Nat.lt_succ_self _) hE [5,0,1] rfl (asK [] rfl) rfl
  ·
   replace hm:=QP hm hb12
   refine Q5 [] (S':=[]) rfl (QH (Q8 (Q8 (Qh ?_))))
   have hE:=(Option.some.inj hm).symm
   replace hE:=Qy hLu1 hE
   refine Ql () hE [] rfl (asK [] rfl) rfl
 ·
  rintro _ hE
  try dsimp only
  have hm:=QZ hLj_1 hE
  try dsimp only at hm
  refine Q4 (Q1 (wP rfl (Q3 (Q2 (Qn ?_)))))
  have hE:=(Option.some.inj hm).symm
  replace hE:=hE.symm
  subst hE
  refine Qp (Hr:=[_,_]) [0,1] Tryz.results51 (Qd rfl) ⟨rfl,rfl,rfl⟩ (asK [] rfl) rfl rfl (.inl rfl)
theorem Q6B (N:Nat) (qg0:Nat) (qp1:Option Addr) (qn2:Nat) (qc3:Nat) (l0:List SessD) (a1:Int) (a2:Int) (o0:Nat) (o3:List SessD) (hm:Q2v N l0 a1 a2 = some (o0,o3)):Q1v Tryz.prog 32 [.pointer (some ⟨qg0,0,none⟩),.int .i64 a2] [] [.blk qg0 [.slice qp1 qn2 qc3,.int .i64 a1] 67,.own 35 6 Qt (.slice qp1 qn2 qc3) l0] (fun v Φr Hr=>∃ (o1:Option Addr) (o2:Nat) (o4:Nat),v = .int .i64 ((o0:Nat):Int) ∧ Φr = [] ∧ Hr = [.blk qg0 [.slice o1 o4 o2,.int .i64 a1] 67,.own 35 6 Qt (.slice o1 o4 o2) o3]):=by
 unfold Q2v at hm
 refine Qx Tryz.func32 rfl Tryz.ntmps32 rfl (S:=[_,_]) rfl (fun C=>(Q4 (Q1 (wP rfl (Q3 (Q2 (Q5 [0,1] (S':=[_,_]) rfl (Q4 (Q1 (wP rfl (wP rfl ?_)))))))))))
 obtain ⟨v9,hc9,hm⟩:=Q6 hm
 refine wC [0,1] [] rfl fn_51 rfl (Q46 N qg0 qp1 qn2 qc3 l0 a1 a2 _ hc9) (asK [] rfl) rfl (H':=[]) rfl ?_
 rintro _ _ _ ⟨rfl,rfl,rfl⟩
 refine wP rfl (Q3 (Q2 (Q5 [5,0] (S':=[_,_]) rfl (Q4 (Q4 (Q1 (wP rfl (wP rfl (Q3 (Q2 (Q5 [11,5,0] (S':=[_,_,_]) rfl ?_)))))))))))
 refine Qm rfl (fun hb11=>?_) (fun hb11=>?_)
 ·
  replace hm:=QQ hm hb11
  refine Q5 [] (S':=[]) rfl (Q4 (Q1 (wP rfl (Q3 (Q2 (Qn (Qb ?_)))))))
  have hE:=(Option.some.inj hm).symm
  obtain ⟨hE0,hE1⟩:=Prod.mk.inj hE
  clear hE
  replace hE0:=hE0.symm
  subst hE0
  replace hE1:=hE1.symm
  subst hE1
  refine Qp (Hr:=[_,_]) [0,1] Tryz.results32 (Qd rfl) ⟨qp1,qc3,qn2,rfl,rfl,rfl⟩ (asK [] rfl) rfl rfl (.inl rfl)
 ·
  replace hm:=QP hm hb11
  refine Q5 [5,0] (S':=[_,_]) rfl (Qj (Q2 (Q4 (Q1 (wP rfl (wP rfl (wF rfl Q5j (wD 0 0 rfl Q1L Q3Q rfl (wP rfl ?_)))))))))
  obtain ⟨hn17_1,hm⟩:=Qq hm
  obtain ⟨hg17,hm⟩:=Qq hm
  refine Q6s 1 rfl (fun hsp17 hcm17=>(Q4T rfl rfl rfl (Q0 rfl) rfl rfl rfl (Q4F hn17_1) QB QN (Nat.le_trans hg17 (by rw [← hcm17.2]; exact hcm17.1)) hsp17 (Q2n 1 rfl (fun hzqn2 _=>?_))))
  subst hzqn2
  refine wl_freeze 1 rfl (H':=[_]) rfl (Q2l (.sli 6 Qt qp1 qc3 l0) (fun F w hφ=>Q5k (hφ _ (QS (k:=0) rfl))) (Q2l (.sli 6 Qt qp1 qc3 (l0.take v9.toNat)) (fun _ _ hφ=>view_to (hφ _ (QS (k:=0) rfl)) v9.toNat) (Q4q 0 (v':=.slice qp1 ((l0.take v9.toNat).length) qc3) rfl (take_slice hg17) ?_)))
  obtain ⟨v18,hc18,hm⟩:=Q6 hm
  refine wC [] [0] rfl fn_26 rfl (Q2d N qp1 qc3 (l0.take v9.toNat) _ hc18) (asK [0] rfl) rfl (H':=[_]) rfl ?_
  rintro _ _ _ ⟨p18_0,c18_1,c18_2,rfl,rfl,rfl⟩
  refine wP rfl (Q3 (Q2 (Q5 [6,5,0] (S':=[_,_,_]) rfl (Q4 (Q1 (wP rfl (wP rfl (wP rfl (wP rfl (wF rfl Q5j (wD 1 0 rfl Q1L Q3Q rfl (wP rfl (wP rfl ?_)))))))))))))
  obtain ⟨hg26,hm⟩:=Qq hm
  refine Qr (d:=26) (v':=.int .i64 (v9 + 1)) (S':=[_,_,_,_,_,_,_,_,_,_]) rfl rfl (i64_in hg26) ?_
  obtain ⟨hn27_0,hm⟩:=Qq hm
  obtain ⟨hg27,hm⟩:=Qq hm
  refine wl_sliFrom 1 rfl rfl rfl (Q0 rfl) rfl rfl rfl rfl (Q4F hn27_0) QB QN hg27 (fun p27=>(Qv [.own 35 6 Qt (.slice p18_0 c18_2 c18_1) v18,_] (fun _ h=>h.letgo Q2z 0 rfl) ?_))
  obtain ⟨hg28,hm⟩:=Qq hm
  refine Q7n 0 0 rfl rfl rfl (Q0 rfl) rfl rfl rfl rfl rfl QB Q6Q rfl rfl (Nat.le_trans hg28 (by decide)) (Nat.le_trans (Nat.mul_le_mul_right _ hg28) (by decide)) (H2:=fun p28 c28=>[.own 35 6 Qt (.slice p28 ((v18 ++ (l0.drop ((v9 + 1).toNat))).length) c28) (v18 ++ (l0.drop ((v9 + 1).toNat))),_]) (fun _ _=>rfl) (fun p28 c28=>(wP rfl (wF rfl Q5j (wS 1 0 rfl Q1L (all':=[_,_]) rfl (H':=[_,_]) rfl (Q3 (Q2 (Q5 [] (S':=[]) rfl (Q4 (Q1 (wP rfl (Q3 (Q2 (Qn ?_)))))))))))))
  have hE:=(Option.some.inj hm).symm
  obtain ⟨hE0,hE1⟩:=Prod.mk.inj hE
  clear hE
  replace hE0:=hE0.symm
  subst hE0
  replace hE1:=hE1.symm
  subst hE1
  refine Qp (Hr:=[_,_]) [1,0] Tryz.results32 (Qd rfl) ⟨p28,c28,(v18 ++ (l0.drop ((v9 + 1).toNat))).length,rfl,rfl,rfl⟩ (asK [] rfl) rfl rfl (.inl rfl)
end Go.Proofs.YtjfpefddanmliaaGreat
