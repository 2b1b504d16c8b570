import Derived.Test.YtgangmegcejllaaGreatDoorPdqF
namespace Go.Proofs.YtgangmegcejllaaGreatDoor
open Go Go.RowKit
section
variable {s:List Int}
abbrev PdqOut (s:List Int) (a b:Nat) (d:Array Q1) (o:Option ((List Q1) × (List Int))):Prop:=∃ d',o = some (d'.toList,s) ∧ Sort.PermIn a b d d' ∧ Sort.SortedIn (ltT s) a b d'
theorem pdq_go : ∀ (n a b:Nat) (d:Array Q1) (lim:Int) (wb wp:Bool) (N fuel:Nat),b - a ≤ n → a ≤ b → b ≤ d.size → d.size ≤ 999 → QT d → Sort.Below (ltT s) a b d → 0 ≤ lim → lim ≤ 1000000 → 1000000 + n ≤ N → n < fuel →
   PdqOut s a b d (Q1o (Q1p N (Q1k N)) fuel (wp,wb,d.toList,((a:Nat):Int),((b:Nat):Int),lim,s)):=by
 intro n
 induction n using Nat.strongRecOn with
 | _ n ih =>
 intro a b d lim wb wp N fuel hn hab hb hs hd hB h0 h1 hN hf
 obtain ⟨fuel,rfl⟩ : ∃ f,fuel = f + 1:=⟨fuel - 1,by omega⟩
 have hN' : 1000000 ≤ N:=by omega
 by_cases h12:b - a ≤ 12
 · have r:=Sort.insertionSort_holds (Q8s s) d a b hab hb
   refine ⟨_,?_,r.1,r.2⟩
   rw [Q15]
   unfold Q1p
   simp only
   rw [Qg (by omega),if_pos (decide_eq_true (by omega)),ins_is hN' hd hb hab hs,Q8]
 by_cases hl:lim = 0
 · have r:=Sort.heapSort_holds (Q8s s) d a b hab hb
   refine ⟨_,?_,r.1,r.2⟩
   rw [Q15]
   unfold Q1p
   simp only
   rw [Qg (by omega),if_neg (by rw [decide_eq_true_eq]; omega),if_pos (by simp [hl]),heap_is hN' hd hb hab hs,Q8]
 obtain ⟨d1,lim1,e1,p1,k1,k1'⟩ : ∃ (d1:Array Q1) (lim1:Int),(if (!wb) = true then (Qf (Q24 N d.toList ((a:Nat):Int) ((b:Nat):Int) s) fun v44=>gd (-9223372036854775808 ≤ lim - 1 ∧ lim - 1 ≤ 9223372036854775807) <| some (v44,lim - 1)) else some (d.toList,lim)) = some (d1.toList,lim1) ∧ Sort.PermIn a b d d1 ∧ 0 ≤ lim1 ∧ lim1 ≤ 1000000:=by
   by_cases hw:(!wb) = true
   · obtain ⟨d1,g1,g2⟩:=bp_is (s:=s) hN' hb (by omega:a + 12 < b) hs
     exact ⟨d1,lim - 1,by rw [if_pos hw,g1,Q8,Qg (by omega)],g2,by omega,by omega⟩
   · exact ⟨d,lim,by rw [if_neg hw],Sort.permIn_refl d a b,h0,h1⟩
 have q1:QT d1:=hd.perm hb p1
 have z1:d1.size = d.size:=p1.1
 obtain ⟨pv,hint,e2,hp1,hp2⟩:=cp_is (s:=s) hN' q1 (by omega:b ≤ d1.size) (by omega:a + 12 < b) (by omega)
 obtain ⟨hint2,pv2,d2,e3,p2,hq1,hq2⟩ : ∃ (hint2 pv2:Nat) (d2:Array Q1),Q3C N hint d1.toList ((a:Nat):Int) ((b:Nat):Int) s ((pv:Nat):Int) = some (hint2,((pv2:Nat):Int),d2.toList) ∧ Sort.PermIn a b d1 d2 ∧ a ≤ pv2 ∧ pv2 < b:=by
   unfold Q3C
   by_cases hh:(hint == 2) = true
   · rw [if_pos hh,rev_is hN' (d:=d1) (by omega) (by omega) (by omega),Q8,Qg (by omega),Qg (by omega),Qg (by omega)]
     exact ⟨1,b - 1 - (pv - a),_,by rw [show ((b:Nat):Int) - 1 - (((pv:Nat):Int) - ((a:Nat):Int)) = ((b - 1 - (pv - a):Nat):Int) by omega],Sort.reverseRange_holds d1 a b hab (by omega),by omega,by omega⟩
   · rw [if_neg hh]
     exact ⟨hint,pv,d1,rfl,Sort.permIn_refl d1 a b,hp1,hp2⟩
 have q2:QT d2:=q1.perm (by omega) p2
 have z2:d2.size = d.size:=by rw [p2.1,z1]
 have p02:Sort.PermIn a b d d2:=Sort.permIn_trans _ _ _ a b p1 p2
 have B2:Sort.Below (ltT s) a b d2:=hB.perm hb p02
 have e4:(∃ d3:Array Q1,Q2h N wb wp hint2 d2.toList ((a:Nat):Int) ((b:Nat):Int) s = some (.inr (.inr (d3.toList,s))) ∧ Sort.PermIn a b d2 d3 ∧ Sort.SortedIn (ltT s) a b d3) ∨ (∃ d3:Array Q1,Q2h N wb wp hint2 d2.toList ((a:Nat):Int) ((b:Nat):Int) s = some (.inl d3.toList) ∧ Sort.PermIn a b d2 d3):=by
   unfold Q2h
   have hj : ∃ j,(if wb = true then (if wp = true then some (hint2 == 1) else some false) else some false) = some j:=by
     cases wb <;> cases wp <;> exact ⟨_,rfl⟩
   obtain ⟨j,hj⟩:=hj
   rw [hj,Q8]
   cases j
   · right
     exact ⟨d2,by rw [if_neg (by simp)],Sort.permIn_refl d2 a b⟩
   · have g:=pi_is (s:=s) hN' q2 (by omega:b ≤ d2.size) (by omega:a < b) (by omega)
     have r:=Sort.partialInsertionSort_holds (Q8s s) d2 a b (by omega) (by omega) B2
     rw [if_pos rfl,g.1,Q8]
     simp only
     cases hr:(Sort.partialInsertionSort (ltT s) d2 a b).2
     ·right
      exact ⟨_,by rw [if_neg (by simp)],r.1⟩
     ·left
      exact ⟨_,by rw [if_pos rfl],r.1,r.2 hr⟩
 have start : ∀ (K:Option ((Bool × Bool × (List Q1) × Int × Int × Int × (List Int)) ⊕ ((List Q1) × (List Int)))),(Q5x (Q2h N wb wp hint2 d2.toList ((a:Nat):Int) ((b:Nat):Int) s) fun j_3_0_l =>
  Qf (Q2T N ((a:Nat):Int) j_3_0_l ((pv2:Nat):Int) s) fun j_5_97 =>
  if j_5_97 = true then (
   Qf (Q21 N j_3_0_l ((a:Nat):Int) ((b:Nat):Int) ((pv2:Nat):Int) s) fun (v103_0,v103_1) =>
   some (.inl (wp,wb,v103_1,v103_0,((b:Nat):Int),lim1,s))
  ) else (
   Qf (Q2n N j_3_0_l ((a:Nat):Int) ((b:Nat):Int) ((pv2:Nat):Int) s) fun (v111_0,v111_1,v111_2) =>
   gd (-9223372036854775808 ≤ v111_0 - ((a:Nat):Int) ∧ v111_0 - ((a:Nat):Int) ≤ 9223372036854775807) <|
   gd (-9223372036854775808 ≤ ((b:Nat):Int) - v111_0 ∧ ((b:Nat):Int) - v111_0 ≤ 9223372036854775807) <|
   if (decide ((v111_0 - ((a:Nat):Int)) < (((b:Nat):Int) - v111_0))) = true then (
    Qf (Q1k N v111_2 ((a:Nat):Int) v111_0 lim1 s) fun (v134_0,v134_1) =>
    gd (v134_0.length = v111_2.length) <|
    gd (-9223372036854775808 ≤ v111_0 + 1 ∧ v111_0 + 1 ≤ 9223372036854775807) <|
    some (.inl (v111_1,decide ((v111_0 - ((a:Nat):Int)) ≥ (IntKind.wrap .i64 (Int.tdiv (((b:Nat):Int) - ((a:Nat):Int)) 8))),v134_0,v111_0 + 1,((b:Nat):Int),lim1,v134_1))
   ) else (
    gd (-9223372036854775808 ≤ v111_0 + 1 ∧ v111_0 + 1 ≤ 9223372036854775807) <|
    Qf (Q1k N v111_2 (v111_0 + 1) ((b:Nat):Int) lim1 s) fun (v146_0,v146_1) =>
    gd (v146_0.length = v111_2.length) <|
    some (.inl (v111_1,decide ((((b:Nat):Int) - v111_0) ≥ (IntKind.wrap .i64 (Int.tdiv (((b:Nat):Int) - ((a:Nat):Int)) 8))),v146_0,((a:Nat):Int),v111_0,lim1,v146_1))
   )
  )) = K → Q1p N (Q1k N) (wp,wb,d.toList,((a:Nat):Int),((b:Nat):Int),lim,s) = K:=by
   intro K hK
   unfold Q1p
   simp only
   rw [Qg (by omega),if_neg (by rw [decide_eq_true_eq]; omega),if_neg (by simp [hl]),e1,Q8]
   simp only
   rw [e2,Q8]
   simp only
   rw [e3,Q8]
   exact hK
 rcases e4 with ⟨d3,e4,p3,s3⟩ | ⟨d3,e4,p3⟩
 · refine ⟨d3,?_,Sort.permIn_trans _ _ _ a b p02 p3,s3⟩
   rw [Q15]
   refine start _ ?_
   rw [e4,Q6v]
 have p03:Sort.PermIn a b d d3:=Sort.permIn_trans _ _ _ a b p02 p3
 have q3:QT d3:=q2.perm (by omega) p3
 have z3:d3.size = d.size:=p03.1
 have B3:Sort.Below (ltT s) a b d3:=hB.perm hb p03
 have e5:Q2T N ((a:Nat):Int) d3.toList ((pv2:Nat):Int) s = some (decide (a > 0) && !ltT s d3[a - 1]! d3[pv2]!):=by
   unfold Q2T
   by_cases ha:a > 0
   · simp only [show ((a:Nat):Int) - 1 = ((a - 1:Nat):Int) by omega,Int.toNat_natCast]
     rw [if_pos (decide_eq_true (by omega)),Qg (by omega),Qg (by omega),rd (by omega),Q8,Qg (by omega),rd (by omega),Q8,cmpQ hN' q3,Q8,decide_eq_true ha,Bool.true_and]
     rfl
   · rw [if_neg (by rw [decide_eq_true_eq]; omega),decide_eq_false ha,Bool.false_and]
 have self : ∀ (a' b' : Nat) (D:Array Q1),b' - a' < n → a' ≤ b' → b' ≤ D.size → D.size ≤ 999 → QT D → Sort.Below (ltT s) a' b' D → PdqOut s a' b' D (Q1k N D.toList ((a' : Nat):Int) ((b' : Nat):Int) lim1 s):=by
   intro a' b' D hn' hab' hb' hs' hD hB'
   obtain ⟨M,rfl⟩ : ∃ M,N = M + 1:=⟨N - 1,by omega⟩
   have:=ih (b' - a') hn' a' b' D lim1 true true M M (Nat.le_refl _) hab' hb' hs' hD hB' k1 k1' (by omega) (by omega)
   exact this
 by_cases h5:(decide (a > 0) && !ltT s d3[a - 1]! d3[pv2]!) = true
 · have ha0:a > 0:=by rw [Bool.and_eq_true,decide_eq_true_eq] at h5; exact h5.1
   have hnl:ltT s d3[a - 1]! d3[pv2]! = false:=by rw [Bool.and_eq_true] at h5; simpa using h5.2
   have g:=parteq_is (s:=s) hN' q3 (by omega:b ≤ d3.size) (by omega:a < b) (by omega:pv2 < d3.size) (by omega)
   obtain ⟨mid,d4,hx⟩ : ∃ mid d4,Sort.partitionEqual (ltT s) d3 a b pv2 = (mid,d4):=⟨_,_,rfl⟩
   rw [hx] at g
   simp only at g
   have r:=Sort.round_eq (Q8s s) (Sort.partitionEqual_holds (ltT s)) ha0 hq1 hq2 (by omega) B3 hnl hx
   have hst:=start (some (.inl (wp,wb,d4.toList,((mid:Nat):Int),((b:Nat):Int),lim1,s))) (by
     rw [e4,Q4H,e5,Q8,if_pos h5,g.1,Q8])
   rw [Q1Y hst]
   obtain ⟨d',o1,o2,o3⟩:=ih (b - mid) (by omega) mid b d4 lim1 wb wp N fuel (Nat.le_refl _) r.2.1 (by omega) (by omega) g.2 r.2.2.2.1 k1 k1' (by omega) (by omega)
   have fin:=r.2.2.2.2 d' o2 o3
   exact ⟨d',o1,Sort.permIn_trans _ _ _ a b p03 fin.1,fin.2⟩
 · have g:=part_is (s:=s) hN' q3 (by omega:b ≤ d3.size) (by omega:a < b) (by omega:pv2 < d3.size) (by omega)
   obtain ⟨mid,ap,d4,hx⟩ : ∃ mid ap d4,Sort.partition (ltT s) d3 a b pv2 = (mid,ap,d4):=⟨_,_,_,rfl⟩
   rw [hx] at g
   simp only at g
   have r:=Sort.round_part (Q8s s) (Sort.partition_holds (ltT s)) hq1 hq2 (by omega) B3 hx
   obtain ⟨r1,r2,r3,r4,r5,r6,r7⟩:=r
   by_cases hlt:mid - a < b - mid
   · obtain ⟨L,l1,l2,l3⟩:=self a mid d4 (by omega) r1 (by omega) (by omega) g.2 r4
     have lz:L.size = d4.size:=l2.1
     obtain ⟨wb',hst⟩ : ∃ wb',Q1p N (Q1k N) (wp,wb,d.toList,((a:Nat):Int),((b:Nat):Int),lim,s) = some (.inl (ap,wb',L.toList,((mid + 1:Nat):Int),((b:Nat):Int),lim1,s)):=by
      refine ⟨decide (((mid:Nat):Int) - ((a:Nat):Int) ≥ (IntKind.wrap .i64 (Int.tdiv (((b:Nat):Int) - ((a:Nat):Int)) 8))),start _ ?_⟩
      rw [e4,Q4H,e5,Q8,if_neg h5,g.1,Q8]
      simp only
      rw [Qg (by omega),Qg (by omega),if_pos (decide_eq_true (by omega)),l1,Q8]
      simp only
      rw [Qg (by simp [lz]),Qg (by omega)]
      rfl
     obtain ⟨t1,t2⟩:=r6 L l2 l3
     rw [Q1Y hst]
     obtain ⟨d',o1,o2,o3⟩:=ih (b - (mid + 1)) (by omega) (mid + 1) b L lim1 wb' ap N fuel (Nat.le_refl _) (by omega) (by omega) (by omega) (g.2.perm (by omega) l2) t1 k1 k1' (by omega) (by omega)
     have fin:=t2 d' o2 o3
     exact ⟨d',o1,Sort.permIn_trans _ _ _ a b p03 fin.1,fin.2⟩
   · obtain ⟨L,l1,l2,l3⟩:=self (mid + 1) b d4 (by omega) (by omega) (by omega) (by omega) g.2 r5
     have lz:L.size = d4.size:=l2.1
     obtain ⟨wb',hst⟩ : ∃ wb',Q1p N (Q1k N) (wp,wb,d.toList,((a:Nat):Int),((b:Nat):Int),lim,s) = some (.inl (ap,wb',L.toList,((a:Nat):Int),((mid:Nat):Int),lim1,s)):=by
      refine ⟨decide (((b:Nat):Int) - ((mid:Nat):Int) ≥ (IntKind.wrap .i64 (Int.tdiv (((b:Nat):Int) - ((a:Nat):Int)) 8))),start _ ?_⟩
      rw [e4,Q4H,e5,Q8,if_neg h5,g.1,Q8]
      simp only
      rw [Qg (by omega),Qg (by omega),if_neg (by rw [decide_eq_true_eq]; omega),Qg (by omega),show ((mid:Nat):Int) + 1 = ((mid + 1:Nat):Int) by omega,l1,Q8]
      simp only
      rw [Qg (by simp [lz])]
     obtain ⟨t1,t2⟩:=r7 L l2 l3
     rw [Q1Y hst]
     obtain ⟨d',o1,o2,o3⟩:=ih (mid - a) (by omega) a mid L lim1 wb' ap N fuel (Nat.le_refl _) (by omega) (by omega) (by omega) (g.2.perm (by omega) l2) t1 k1 k1' (by omega) (by omega)
     have fin:=t2 d' o2 o3
     exact ⟨d',o1,Sort.permIn_trans _ _ _ a b p03 fin.1,fin.2⟩
def Q7J (s:List Int) (l:List Q1):List Q1:=l.mergeSort fun x y=>!ltT s y x
theorem Q4i (s:List Int) (l:List Q1):(Q7J s l).Perm l:=List.mergeSort_perm l _
theorem Q89 (s:List Int) (l:List Q1):(Q7J s l).Pairwise fun x y=>ltT s y x = false:=by
 have w:=Q8s s
 have h:=List.pairwise_mergeSort (le:=fun x y:Q1=>!ltT s y x) (fun a b c h1 h2=>by
  simp only [Bool.not_eq_true'] at *
  exact w.ntrans _ _ _ h2 h1) (fun a b=>by
  simp only [Bool.or_eq_true,Bool.not_eq_true']
  cases hab:ltT s b a
  · exact .inl rfl
  ·right
   cases hba:ltT s a b
   · rfl
   ·have:=w.trans _ _ _ hab hba
    rw [w.irrefl] at this; cases this) l
 exact h.imp fun h=>by simpa using h
theorem sort_is {N:Nat} {l:List Q1} (hN : 2000000 ≤ N) (hl:l.length ≤ 999) (hi : ∀ x ∈ l,x.ids.length ≤ 400):Q2b N l s = some (Q7J s l,s):=by
 have hq:QT l.toArray:=fun i=>by
  by_cases h:i < l.length
  ·rw [getElem!_pos l.toArray i (by simpa using h)]
   exact hi _ (by simp)
  ·rw [getElem!_neg l.toArray i (by simpa using h)]
   exact Nat.zero_le _
 obtain ⟨v,e1,e2,_⟩:=bitlen_is (N:=N) hl
 obtain ⟨M,rfl⟩ : ∃ M,N = M + 1:=⟨N - 1,by omega⟩
 obtain ⟨d',o1,o2,o3⟩:=pdq_go (s:=s) l.length 0 l.length l.toArray ((v:Nat):Int) true true M M (by omega) (by omega) (by simp) (by simpa using hl) hq (.inl rfl) (by omega) (by omega) (by omega) (by omega)
 have e:d'.toList = Q7J s l:=Sort.sorted_unique_holds (Q8s s) (fun x y h1 h2=>ltT_parts h1 h2) l.toArray d' (by simpa using o2) (by simpa using o3)
 have hz:d'.size = l.length:=by rw [o2.1]; simp
 unfold Q2b
 rw [e1,Q8]
 have:Q1k (M + 1) l 0 ((l.length:Nat):Int) ((v:Nat):Int) s = some (d'.toList,s):=o1
 rw [this,Q8]
 simp only
 rw [Qg (by simp [hz]),e]
end
end Go.Proofs.YtgangmegcejllaaGreatDoor
