import Derived.Test.YtgangmegcejllaaGreatDoorAgRefC
namespace Go.Proofs.YtgangmegcejllaaGreatDoor
open Go Go.RowKit
theorem Qa4 {s:List Int} {l m:List Q1} (hp:m.Perm l) (hs:m.Pairwise fun x y=>ltT s y x = false):m = Q7J s l :=
 List.Perm.eq_of_pairwise (le:=fun x y=>ltT s y x = false) (fun a b _ _ h1 h2=>ltT_parts h2 h1) hs (Q89 s l) (hp.trans (Q4i s l).symm)
section
variable {N:Nat} (hN : 9223372036854775808 ≤ N)
include hN
theorem bet_is {t0:List Qr} {s:List Int} {x y:Q1} (hx:Q3S x) (hy:Q3S y):Q3O N t0 (s.map Q5B) x.rule x.ids y.rule y.ids = some (ltT s x y) :=
 rbetter_is hN (Nat.le_trans hx.len (by omega)) (Nat.le_trans hy.len (by omega))
theorem rnext_go {t0:List Qr} {s:List Int} {L:List Q1} {sB:Q1 → Bool} (hL:L.length ≤ 1000) (ho : ∀ x ∈ L,Q3S x) :
  ∃ u,Q1o (Q23 N L (L.map sB) t0 (s.map Q5B)) N (0,-1) = some u ∧ ((u = -1 ∧ ∀ x ∈ L,sB x = true) ∨ ∃ (j:Nat) (y:Q1),u = ((j:Nat):Int) ∧ L[j]? = some y ∧ sB y = false ∧ ∀ x ∈ L,sB x = false → ltT s x y = false):=by
 have w:=Q8s s
 obtain ⟨o,h1,h2⟩:=Q67 (f:=Q23 N L (L.map sB) t0 (s.map Q5B))
  (fun q=>q.1 ≤ L.length ∧ ((q.2 = -1 ∧ ∀ x ∈ L.take q.1,sB x = true) ∨ ∃ (j:Nat) (y:Q1),q.2 = ((j:Nat):Int) ∧ L[j]? = some y ∧ sB y = false ∧ ∀ x ∈ L.take q.1,sB x = false → ltT s x y = false))
  (fun q=>L.length - q.1)
  (fun u=>(u = -1 ∧ ∀ x ∈ L,sB x = true) ∨ ∃ (j:Nat) (y:Q1),u = ((j:Nat):Int) ∧ L[j]? = some y ∧ sB y = false ∧ ∀ x ∈ L,sB x = false → ltT s x y = false) (fun q hq=>by
  obtain ⟨i,u⟩:=q
  obtain ⟨q1,q2⟩:=hq
  simp only at q1 q2 ⊢
  by_cases h:i < L.length
  ·left
   have hx:=List.getElem?_eq_getElem h
   have mx:=List.getElem_mem h
   have hS:(L.map sB)[i]? = some (sB L[i]):=by rw [List.getElem?_map,hx]; rfl
   have htk:L.take (i + 1) = L.take i ++ [L[i]]:=by rw [List.take_add_one,hx]; rfl
   have hst : ∀ b:Bool,Q2m N (L.map sB) i u L t0 (s.map Q5B) = some b → Q23 N L (L.map sB) t0 (s.map Q5B) (i,u) = some (.inl (i + 1,if b = true then ((i:Nat):Int) else u)):=by
    intro b hb
    unfold Q23
    simp only
    rw [if_pos (decide_eq_true h),hb,Q8]
    cases b
    · rw [if_neg (by simp),Q8,Qg (by omega),if_neg (by simp)]
    · rw [if_pos rfl,Q8,Qg (by omega),if_pos rfl]
   cases hs:sB L[i]
   ·rw [hs] at hS
    rcases q2 with ⟨rfl,q2⟩ | ⟨j,y,rfl,q3,q4,q5⟩
    ·    refine ⟨_,hst true (by unfold Q2m; rw [hS,Q8,if_pos (by simp),if_pos (by simp)]),⟨by simp only; omega,.inr ⟨i,L[i],by simp,hx,hs,?_⟩⟩,by simp only; omega⟩
         intro x hx2 hx3
         simp only at hx2
         rw [htk] at hx2
         rcases List.mem_append.1 hx2 with hx2 | hx2
         · rw [q2 x hx2] at hx3; cases hx3
         · rw [List.mem_singleton] at hx2; subst hx2; exact w.irrefl _
    ·    have my:=List.mem_of_getElem? q3
         have hC:Q2m N (L.map sB) i ((j:Nat):Int) L t0 (s.map Q5B) = some (ltT s L[i] y):=by
          unfold Q2m
          rw [hS,Q8,if_pos (by simp),if_neg (by rw [decide_eq_true_eq]; omega),hx,Q8,Qg (by omega),Int.toNat_natCast,q3,Q8,bet_is hN (ho _ mx) (ho _ my),Q8]
         cases hb:ltT s L[i] y
         ·rw [hb] at hC
          refine ⟨_,hst false hC,⟨by simp only; omega,.inr ⟨j,y,by simp,q3,q4,?_⟩⟩,by simp only; omega⟩
          intro x hx2 hx3
          simp only at hx2
          rw [htk] at hx2
          rcases List.mem_append.1 hx2 with hx2 | hx2
          · exact q5 x hx2 hx3
          · rw [List.mem_singleton] at hx2; subst hx2; exact hb
         ·rw [hb] at hC
          refine ⟨_,hst true hC,⟨by simp only; omega,.inr ⟨i,L[i],by simp,hx,hs,?_⟩⟩,by simp only; omega⟩
          intro x hx2 hx3
          simp only at hx2
          rw [htk] at hx2
          rcases List.mem_append.1 hx2 with hx2 | hx2
          ·cases hq:ltT s x L[i]
           · rfl
           ·have:=w.trans _ _ _ hq hb
            rw [q5 x hx2 hx3] at this; cases this
          · rw [List.mem_singleton] at hx2; subst hx2; exact w.irrefl _
   ·rw [hs] at hS
    refine ⟨_,hst false (by unfold Q2m; rw [hS,Q8,if_neg (by simp)]),⟨by simp only; omega,?_⟩,by simp only; omega⟩
    simp only
    rw [htk]
    rcases q2 with ⟨rfl,q2⟩ | ⟨j,y,rfl,q3,q4,q5⟩
    ·    left
         refine ⟨by simp,fun x hx2=>?_⟩
         rcases List.mem_append.1 hx2 with hx2 | hx2
         · exact q2 x hx2
         · rw [List.mem_singleton] at hx2; subst hx2; exact hs
    ·    right
         refine ⟨j,y,by simp,q3,q4,fun x hx2 hx3=>?_⟩
         rcases List.mem_append.1 hx2 with hx2 | hx2
         · exact q5 x hx2 hx3
         · rw [List.mem_singleton] at hx2; subst hx2; rw [hs] at hx3; cases hx3
  ·right
   rw [List.take_of_length_le (by omega)] at q2
   exact ⟨u,by unfold Q23; simp only; rw [if_neg (by rw [decide_eq_true_eq]; exact h)],q2⟩) N (0,-1) ⟨Nat.zero_le _,.inl ⟨rfl,by simp⟩⟩ (by simp only; omega)
 exact ⟨o,h1,h2⟩
theorem rnext_is {t0:List Qr} {s:List Int} {L:List Q1} {sB:Q1 → Bool} (hL:L.length ≤ 1000) (ho : ∀ x ∈ L,Q3S x) :
  Q3m N t0 (s.map Q5B) L (L.map sB) = some (match Q7J s (L.filter fun x=>!sB x) with | []=>(0,[],false) | t :: _=>(t.rule,t.ids,true)):=by
 obtain ⟨u,h1,h2⟩:=rnext_go (t0:=t0) (s:=s) (sB:=sB) hN hL ho
 have hp:=Q4i s (L.filter fun x=>!sB x)
 have hs:=Q89 s (L.filter fun x=>!sB x)
 unfold Q3m
 rw [h1,Q8]
 rcases h2 with ⟨rfl,h2⟩ | ⟨j,y,rfl,h3,h4,h5⟩
 ·have he:L.filter (fun x=>!sB x) = []:=List.filter_eq_nil_iff.2 fun x hx=>by simp [h2 x hx]
  have hr:Q7J s (L.filter fun x=>!sB x) = []:=List.eq_nil_of_length_eq_zero (by rw [hp.length_eq,he]; rfl)
  rw [hr,if_pos (by decide)]
 ·have hy:y ∈ Q7J s (L.filter fun x=>!sB x):=hp.mem_iff.2 (List.mem_filter.2 ⟨List.mem_of_getElem? h3,by simp [h4]⟩)
  have hm : ∀ x ∈ Q7J s (L.filter fun x=>!sB x),ltT s x y = false:=fun x hx=>by
    have:=List.mem_filter.1 (hp.mem_iff.1 hx)
    exact h5 x this.1 (by simpa using this.2)
  rw [if_neg (by rw [decide_eq_true_eq]; omega),Qg (by omega),Int.toNat_natCast,h3,Q8]
  generalize Q7J s (L.filter fun x=>!sB x) = r at hy hm hs
  cases r with
  | nil=>cases hy
  | cons t r =>
    have:t = y:=by
     rcases List.mem_cons.1 hy with e | hy
     · exact e.symm
     · exact ltT_parts (hm t List.mem_cons_self) ((List.pairwise_cons.1 hs).1 y hy)
    subst this; rfl
end
end Go.Proofs.YtgangmegcejllaaGreatDoor
namespace Go.Proofs.YtgangmegcejllaaGreatDoor
open Go Go.RowKit
section
variable {N:Nat} (hN : 9223372036854775808 ≤ N)
include hN
theorem slot_go {t0:List Qr} {s:List Int} {L out:List Q1} {i:Nat} {x:Q1} (hx:L[i]? = some x) (hox:Q3S x) (hl:out.length ≤ 1000) (ho : ∀ y ∈ out,Q3S y) :
  ∃ j,Q1o (Q2M N out L i t0 (s.map Q5B)) N 0 = some j ∧ j ≤ out.length ∧ (∀ y ∈ out.take j,ltT s y x = true) ∧ (∀ y,out[j]? = some y → ltT s y x = false):=by
 refine Q67 (f:=Q2M N out L i t0 (s.map Q5B)) (fun j=>j ≤ out.length ∧ ∀ y ∈ out.take j,ltT s y x = true) (fun j=>out.length - j) _ (fun j hj=>?_) N 0 ⟨Nat.zero_le _,by simp⟩ (by omega)
 obtain ⟨j1,j2⟩:=hj
 unfold Q2M
 by_cases h:j < out.length
 ·have hy:=List.getElem?_eq_getElem h
  have my:=List.getElem_mem h
  rw [if_pos (decide_eq_true h),hy,Q8,hx,Q8,bet_is hN (ho _ my) hox,Q8,Q8]
  cases hb:ltT s out[j] x
  ·right
   exact ⟨j,by rw [if_neg (by simp)],j1,j2,fun y hy2=>by rw [hy] at hy2; cases hy2; exact hb⟩
  ·left
   refine ⟨j + 1,by rw [if_pos rfl,Qg (by omega)],⟨by omega,fun y hy2=>?_⟩,by omega⟩
   rw [List.take_add_one,hy] at hy2
   rcases List.mem_append.1 hy2 with hy2 | hy2
   · exact j2 y hy2
   ·simp only [Option.toList_some,List.mem_singleton] at hy2
    subst hy2; exact hb
 ·right
  exact ⟨j,by rw [if_neg (by rw [decide_eq_true_eq]; exact h),Q8,if_neg (by simp)],j1,j2,fun y hy2=>by rw [List.getElem?_eq_none (by omega)] at hy2; cases hy2⟩
omit hN in
theorem slot_rank {s:List Int} {out A:List Q1} {x:Q1} {j:Nat} (hr:out = Q7J s A) (h1 : ∀ y ∈ out.take j,ltT s y x = true) (h2 : ∀ y,out[j]? = some y → ltT s y x = false):(out.take j ++ [x]) ++ out.drop j = Q7J s (A ++ [x]):=by
 have w:=Q8s s
 have hs:=Q89 s A
 have hp:=Q4i s A
 rw [← hr] at hs hp
 refine Qa4 ?_ ?_
 ·have e:(out.take j ++ [x]) ++ out.drop j = out.take j ++ ([x] ++ out.drop j):=by simp
  rw [e]
  refine (List.Perm.append_left _ List.perm_append_comm).trans ?_
  rw [← List.append_assoc,List.take_append_drop]
  exact hp.append_right _
 ·have hs2:(out.take j ++ out.drop j).Pairwise fun x y=>ltT s y x = false:=by rw [List.take_append_drop]; exact hs
  obtain ⟨p1,p2,p3⟩:=List.pairwise_append.1 hs2
  have hd : ∀ y ∈ out.drop j,ltT s y x = false:=by
   intro y hy
   cases hq:out[j]? with
   | none =>
     rw [List.drop_eq_nil_of_le (List.getElem?_eq_none_iff.1 hq)] at hy; cases hy
   | some z =>
     obtain ⟨hlt,hz⟩:=List.getElem?_eq_some_iff.1 hq
     have hzx:=h2 z hq
     rw [List.drop_eq_getElem_cons hlt,hz] at hy p2
     rcases List.mem_cons.1 hy with rfl | hy
     · exact hzx
     · exact w.ntrans _ _ _ ((List.pairwise_cons.1 p2).1 y hy) hzx
  refine List.pairwise_append.2 ⟨List.pairwise_append.2 ⟨p1,by simp,fun y hy z hz=>?_⟩,p2,fun y hy z hz=>?_⟩
  ·rw [List.mem_singleton] at hz; subst hz
   cases hq:ltT s z y
   · rfl
   · have:=w.trans _ _ _ hq (h1 y hy)
     rw [w.irrefl] at this; cases this
  ·rcases List.mem_append.1 hy with hy | hy
   · exact p3 y hy z hz
   · rw [List.mem_singleton] at hy; subst hy; exact hd z hz
theorem rfired_is {t0:List Qr} {s:List Int} {L:List Q1} {sB:Q1 → Bool} (hL:L.length ≤ 1000) (ho : ∀ x ∈ L,Q3S x) :
  Q2H N t0 (s.map Q5B) L (L.map sB) = some (Q7J s (L.filter sB)):=by
 unfold Q2H
 obtain ⟨o,h1,h2⟩:=Q67 (f:=Q3o N L (L.map sB) t0 (s.map Q5B)) (fun q=>q.1 ≤ L.length ∧ q.2 = Q7J s ((L.take q.1).filter sB)) (fun q=>L.length - q.1) (fun o=>o = Q7J s (L.filter sB)) (fun q hq=>by
  obtain ⟨i,out⟩:=q
  obtain ⟨q1,q2⟩:=hq
  simp only at q1 q2 ⊢
  unfold Q3o
  simp only
  by_cases h:i < L.length
  ·left
   have hx:=List.getElem?_eq_getElem h
   have mx:=List.getElem_mem h
   have hS:(L.map sB)[i]? = some (sB L[i]):=by rw [List.getElem?_map,hx]; rfl
   have htk:L.take (i + 1) = L.take i ++ [L[i]]:=by rw [List.take_add_one,hx]; rfl
   have hpo:=Q4i s ((L.take i).filter sB)
   rw [← q2] at hpo
   have hlo:out.length ≤ i:=by
    rw [hpo.length_eq]
    exact Nat.le_trans (List.length_filter_le _ _) (by rw [List.length_take]; omega)
   have hoo : ∀ y ∈ out,Q3S y:=fun y hy=>ho y (List.mem_of_mem_take (List.mem_filter.1 (hpo.mem_iff.1 hy)).1)
   rw [if_pos (decide_eq_true h)]
   unfold Q5h
   rw [hS,Q8]
   cases hs:sB L[i]
   ·refine ⟨(i + 1,out),by rw [if_pos (by simp),Q8,Qg (by omega)],⟨by simp only; omega,?_⟩,by simp only; omega⟩
    simp only
    rw [htk,List.filter_append,List.filter_cons_of_neg (by simp [hs]),List.filter_nil,List.append_nil]; exact q2
   ·obtain ⟨j,j1,j2,j3,j4⟩:=slot_go (t0:=t0) (s:=s) (L:=L) (out:=out) (i:=i) (x:=L[i]) hN hx (ho _ mx) (by omega) hoo
    refine ⟨(i + 1,(out.take j ++ [L[i]]) ++ out.drop j),?_,⟨by simp only; omega,?_⟩,by simp only; omega⟩
    · rw [if_neg (by simp),j1,Q8,Qg j2,Qg (by simp [List.length_take]; omega),hx,Q8,Qg (by simp [List.length_take]; omega),Qg j2,Qg (by simp [List.length_take,List.length_drop]; omega),Q8,Qg (by omega),List.nil_append]
    ·    simp only
         rw [htk,List.filter_append,List.filter_cons_of_pos hs,List.filter_nil]
         exact slot_rank q2 j3 j4
  ·right
   rw [List.take_of_length_le (by omega)] at q2
   exact ⟨out,by rw [if_neg (by rw [decide_eq_true_eq]; exact h)],q2⟩) N (0,[]) ⟨Nat.zero_le _,by
    have:Q7J s ([] : List Q1) = []:=List.eq_nil_of_length_eq_zero (Q4i s []).length_eq
    simp [this]⟩ (by simp only; omega)
 rw [h1,Q8,h2]
end
end Go.Proofs.YtgangmegcejllaaGreatDoor
