import Derived.Test.YtgangmegcejllaaGreatDoorAgRefA
namespace Go.Proofs.YtgangmegcejllaaGreatDoor
open Go Go.RowKit
section
variable {N:Nat} (hN : 9223372036854775808 ≤ N)
include hN
theorem place_go {l:List Q1} {t:Q1} (hl:l.length ≤ 1000) (ho : ∀ x ∈ l,Q3S x) : ∀ (k i:Nat),l.length - i ≤ k → i ≤ l.length → ∀ fuel,k < fuel →
   (Q5x (Q1o (Q2R N l t.rule t.ids) fuel i) fun _=>some (-1)) = some (if t ∈ l.drop i then ((i + (l.drop i).idxOf t:Nat):Int) else -1):=by
 intro k
 induction k with
 | zero =>
   intro i hk hi fuel hf
   obtain ⟨fuel,rfl⟩ : ∃ f,fuel = f + 1:=⟨fuel - 1,by omega⟩
   have e:i = l.length:=by omega
   subst e
   rw [Q15 (o:=.inl ()) (by unfold Q2R; rw [if_neg (by simp)]),Q4H,List.drop_length,if_neg (by simp)]
 | succ k ih =>
   intro i hk hi fuel hf
   obtain ⟨fuel,rfl⟩ : ∃ f,fuel = f + 1:=⟨fuel - 1,by omega⟩
   by_cases h:i < l.length
   ·have hx:=List.getElem?_eq_getElem h
    have hox:=ho l[i] (List.getElem_mem h)
    have hst:Q2R N l t.rule t.ids i = if l[i] = t then some (.inr (.inr ((i:Nat):Int))) else some (.inl (i + 1)):=by
     obtain ⟨b,h1,h2⟩:=Q9D (x:=l[i]) (y:=t) hN (Nat.le_trans hox.len (by omega))
     unfold Q2R
     rw [if_pos (decide_eq_true h),hx,Q8,h1,Q8]
     cases b
     · rw [if_neg (by simp),Qg (by omega),if_neg (fun e=>by have:=h2.2 e; cases this)]
     · rw [if_pos rfl,if_pos (h2.1 rfl)]
    rw [List.drop_eq_getElem_cons h]
    by_cases e2:l[i] = t
    ·rw [if_pos e2] at hst
     rw [Q15 hst,Q6v,e2,if_pos (by simp),List.idxOf_cons_self]
     rfl
    ·rw [if_neg e2] at hst
     rw [Q1Y hst,ih (i + 1) (by omega) (by omega) fuel (by omega)]
     by_cases h6:t ∈ l.drop (i + 1)
     ·rw [if_pos h6,if_pos (List.mem_cons_of_mem _ h6),List.idxOf_cons,show (l[i] == t) = false from beq_false_of_ne e2,cond_false]
      congr 2; omega
     · rw [if_neg h6,if_neg (by simp only [List.mem_cons,not_or]; exact ⟨fun e3=>e2 e3.symm,h6⟩)]
   ·have e:i = l.length:=by omega
    subst e
    rw [Q15 (o:=.inl ()) (by unfold Q2R; rw [if_neg (by simp)]),Q4H,List.drop_length,if_neg (by simp)]
theorem place_is {l:List Q1} {t:Q1} (hl:l.length ≤ 1000) (ho : ∀ x ∈ l,Q3S x):Q4I N l t.rule t.ids = some (if t ∈ l then ((l.idxOf t:Nat):Int) else -1):=by
 have:=place_go (t:=t) hN hl ho l.length 0 (by omega) (by omega) N (by omega)
 rw [List.drop_zero,Nat.zero_add] at this
 exact this
theorem copyToks_is {l:List Q1} (hl:l.length ≤ 1000) (ho : ∀ x ∈ l,Q3S x):Q4K N l = some l:=by
 unfold Q4K
 have:=fold_go (f:=Q3l N l) l (fun b z=>b ++ [z]) (fun i b=>b.length ≤ i) (fun i z b hz hb=>by
  have hi:i < l.length:=(List.getElem?_eq_some_iff.1 hz).1
  have hoz:=(ho z (List.mem_of_getElem? hz)).len
  unfold Q3l Q5H Q5S
  simp only
  rw [if_pos (decide_eq_true hi),hz,Q8,Qg (by simp; omega),Q8,Q8,Qg (by simp; omega),Qg (by omega)]
  exact ⟨rfl,by simp; omega⟩) (fun b=>by
  unfold Q3l
  simp only
  rw [if_neg (by simp)]) l.length 0 [] (by omega) (by omega) (by simp) N (by omega)
 rw [this.1,Q8,List.drop_zero]
 have e2 : ∀ (l m:List Q1),l.foldl (fun b z=>b ++ [z]) m = m ++ l:=fun l=>by
  induction l with
  | nil=>intro m; simp
  | cons a l ih=>intro m; rw [List.foldl_cons,ih]; simp
 rw [e2]; rfl
theorem rfire_is {t0:List Qr} {R:List QG} {L:List Q1} {sB:Q1 → Bool} {t:Q1} (hl:L.length ≤ 1000) (ho : ∀ x ∈ L,Q3S x) (hn:L.Nodup) :
  Q27 N t0 R L (L.map sB) t.rule t.ids = some (if t ∈ L ∧ sB t = false then (0,L.map fun x=>sB x || decide (x = t)) else (6,L.map sB)):=by
 unfold Q27
 rw [place_is hN hl ho,Q8]
 by_cases h:t ∈ L
 ·have hlt:=List.idxOf_lt_length_of_mem h
  have hg:(L.map sB)[L.idxOf t]? = some (sB t):=by
   rw [List.getElem?_map,List.getElem?_eq_getElem hlt,List.getElem_idxOf]; rfl
  rw [if_pos h,if_neg (by rw [decide_eq_true_eq]; omega),Qg (by omega),Int.toNat_natCast,hg,Q8,Q8]
  cases hs:sB t
  ·rw [if_neg (by simp),Qg (by omega),Q8,if_pos ⟨h,rfl⟩]
   congr 2
   refine List.ext_getElem? fun i=>?_
   rw [List.getElem?_set,List.getElem?_map,List.getElem?_map]
   by_cases hi:L.idxOf t = i
   ·subst hi
    rw [if_pos rfl,if_pos (by simpa using hlt),List.getElem?_eq_getElem hlt,List.getElem_idxOf]
    simp
   ·rw [if_neg hi]
    cases hx:L[i]? with
    | none=>rfl
    | some x =>
      have hne:x ≠ t:=by
       intro e
       subst e
       obtain ⟨h1,h2⟩:=List.getElem?_eq_some_iff.1 hx
       have h3:L[L.idxOf x] = L[i]:=by rw [List.getElem_idxOf,h2]
       exact hi ((List.getElem_inj hn).1 h3)
      simp [hne]
  · rw [if_pos rfl,if_neg (fun h2=>by cases h2.2)]
 · rw [if_neg h,if_pos (by decide),Q8,if_pos rfl,if_neg (fun h2=>h h2.1)]
end
end Go.Proofs.YtgangmegcejllaaGreatDoor
namespace Go.Proofs.YtgangmegcejllaaGreatDoor
open Go Go.RowKit
def Q7x (n:Nat) (l:List Q1):Prop:=(∀ x ∈ l,0 ≤ x.rule ∧ x.rule < ((n:Nat):Int)) ∧ l.Nodup
theorem Qac {s:List Int} {l:List Q1} (ho : ∀ x ∈ l,Q3S x):Takes s l ↔ Q7x s.length l:=by
 unfold Takes Q7x
 refine and_congr_right fun _=>⟨fun h=>(List.pairwise_map.1 h).imp fun h e=>h (by rw [e]),fun h=>?_⟩
 refine List.pairwise_map.2 ?_
 refine List.Pairwise.imp_of_mem (fun {a b} ha hb h e=>h (nameF_inj (ho a ha) (ho b hb) e)) h
section
variable {N:Nat} (hN : 9223372036854775808 ≤ N)
include hN
theorem rset_go {R:List QG} {l L:List Q1} {sB:Q1 → Bool} (hl:l.length ≤ 1000) (hL:L.length ≤ 1000) (ho : ∀ x ∈ l,Q3S x) (hoL : ∀ x ∈ L,Q3S x) : ∀ (k i:Nat),l.length - i ≤ k → i ≤ l.length → Q7x R.length (l.take i) → ∀ fuel,k < fuel →
   (Q1o (Q1I N l R L (L.map sB)) fuel (i,(l.take i).map fun x=>decide (x ∈ L) && sB x) = some (.inl (l.map fun x=>decide (x ∈ L) && sB x)) ∧ Q7x R.length l) ∨
   (Q1o (Q1I N l R L (L.map sB)) fuel (i,(l.take i).map fun x=>decide (x ∈ L) && sB x) = some (.inr (4,L,L.map sB)) ∧ ¬ Q7x R.length l):=by
 intro k
 induction k with
 | zero =>
   intro i hk hi ht fuel hf
   obtain ⟨fuel,rfl⟩ : ∃ f,fuel = f + 1:=⟨fuel - 1,by omega⟩
   have e:i = l.length:=by omega
   subst e
   left
   rw [List.take_length] at ht ⊢
   exact ⟨Q15 (by unfold Q1I; simp only; rw [if_neg (by simp)]),ht⟩
 | succ k ih =>
   intro i hk hi ht fuel hf
   obtain ⟨fuel,rfl⟩ : ∃ f,fuel = f + 1:=⟨fuel - 1,by omega⟩
   by_cases h:i < l.length
   ·have hx:=List.getElem?_eq_getElem h
    have mx:=List.getElem_mem h
    have hC : ∃ b:Bool,Q4E N l i R = some b ∧ (b = true ↔ ¬ ((0 ≤ l[i].rule ∧ l[i].rule < ((R.length:Nat):Int)) ∧ l[i] ∉ l.take i)):=by
      unfold Q4E
      rw [hx,Q8]
      by_cases h1:l[i].rule < 0
      · exact ⟨true,by rw [if_pos (decide_eq_true h1)],by simp; intro h2; omega⟩
      ·rw [if_neg (by rw [decide_eq_true_eq]; exact h1),Q8]
       by_cases h2:l[i].rule ≥ ((R.length:Nat):Int)
       · exact ⟨true,by rw [if_pos (decide_eq_true h2)],by simp; intro _ h3; omega⟩
       ·rw [if_neg (by rw [decide_eq_true_eq]; exact h2),Qg (by omega),Q8,place_is hN (by rw [List.length_take]; omega) (fun x hx=>ho x (List.mem_of_mem_take hx)),Q8]
        refine ⟨_,rfl,?_⟩
        by_cases h3:l[i] ∈ l.take i
        ·rw [if_pos h3]
         exact ⟨fun _ h4=>h4.2 h3,fun _=>decide_eq_true (by omega)⟩
        ·rw [if_neg h3]
         exact ⟨fun h4=>absurd h4 (by decide),fun h4=>absurd ⟨⟨by omega,by omega⟩,h3⟩ h4⟩
    obtain ⟨b,hb,hiff⟩:=hC
    have htk:l.take (i + 1) = l.take i ++ [l[i]]:=by rw [List.take_add_one,hx]; rfl
    cases b with
    | true =>
      right
      refine ⟨Q15 (by unfold Q1I Q4D; simp only; rw [if_pos (decide_eq_true h),hb,Q8,if_pos rfl,Q6v]),fun hT=>(hiff.1 rfl) ⟨hT.1 _ mx,fun h3=>?_⟩⟩
      have h4:=hT.2
      rw [← List.take_append_drop i l,List.nodup_append] at h4
      exact h4.2.2 _ h3 _ (by rw [List.drop_eq_getElem_cons h]; exact List.mem_cons_self) rfl
    | false =>
      have hg:(0 ≤ l[i].rule ∧ l[i].rule < ((R.length:Nat):Int)) ∧ l[i] ∉ l.take i:=Classical.byContradiction fun h1=>by have:=hiff.2 h1; cases this
      have hst:Q1I N l R L (L.map sB) (i,(l.take i).map fun x=>decide (x ∈ L) && sB x) = some (.inl (i + 1,(l.take (i + 1)).map fun x=>decide (x ∈ L) && sB x)):=by
       unfold Q1I Q4D
       simp only
       rw [if_pos (decide_eq_true h),hb,Q8,if_neg (by simp),hx,Q8,place_is hN hL hoL,Q8]
       by_cases h3:l[i] ∈ L
       ·have hlt:=List.idxOf_lt_length_of_mem h3
        have hgx:(L.map sB)[L.idxOf l[i]]? = some (sB l[i]):=by
         rw [List.getElem?_map,List.getElem?_eq_getElem hlt,List.getElem_idxOf]; rfl
        rw [if_pos h3,if_pos (decide_eq_true (by omega)),Qg (by omega),Int.toNat_natCast,hgx,Q8,Qg (by simp [List.length_take]; omega),Q4H,Qg (by omega),htk,List.map_append]
        simp [h3]
       ·rw [if_neg h3,if_neg (by decide),Qg (by simp [List.length_take]; omega),Q4H,Qg (by omega),htk,List.map_append]
        simp [h3]
      rw [Q1Y hst]
      refine ih (i + 1) (by omega) (by omega) ?_ fuel (by omega)
      rw [htk]
      refine ⟨fun x hx2=>?_,?_⟩
      ·rcases List.mem_append.1 hx2 with hx2 | hx2
       · exact ht.1 x hx2
       · rw [List.mem_singleton] at hx2; subst hx2; exact hg.1
      ·rw [List.nodup_append]
       exact ⟨ht.2,by simp,fun a ha b hb2 e=>by rw [List.mem_singleton] at hb2; subst hb2; subst e; exact hg.2 ha⟩
   ·have e:i = l.length:=by omega
    subst e
    left
    rw [List.take_length] at ht ⊢
    exact ⟨Q15 (by unfold Q1I; simp only; rw [if_neg (by simp)]),ht⟩
theorem rset_is {t0:List Qr} {R:List QG} {l L:List Q1} {sB:Q1 → Bool} (hl:l.length ≤ 1000) (hL:L.length ≤ 1000) (ho : ∀ x ∈ l,Q3S x) (hoL : ∀ x ∈ L,Q3S x) :
  (Q7x R.length l ∧ Q2W N t0 R L (L.map sB) l = some (0,l,l.map fun x=>decide (x ∈ L) && sB x)) ∨
  (¬ Q7x R.length l ∧ Q2W N t0 R L (L.map sB) l = some (4,L,L.map sB)):=by
 unfold Q2W
 rcases rset_go (R:=R) (sB:=sB) hN hl hL ho hoL l.length 0 (by omega) (by omega) ⟨by simp,by simp⟩ N (by omega) with ⟨h1,h2⟩ | ⟨h1,h2⟩
 ·rw [List.take_zero,List.map_nil] at h1
  left
  exact ⟨h2,by rw [h1,Q4H,copyToks_is hN hl ho,Q8]⟩
 ·rw [List.take_zero,List.map_nil] at h1
  right
  exact ⟨h2,by rw [h1,Q6v]⟩
end
end Go.Proofs.YtgangmegcejllaaGreatDoor
