import Derived.Test.YtgangmegcejllaaGreatDoorAgRel
namespace Go.Proofs.YtgangmegcejllaaGreatDoor
open Go Go.RowKit
section
variable {N:Nat} (hN : 9223372036854775808 ≤ N)
include hN
theorem setO_check {s : List Int} {l l1 l2 : List Q1} {e3 : List (ByteArray × Bool)} (hl : l.length ≤ 1000) (ho : ∀ x ∈ l, Q3S x) : ∀ (k i : Nat) (m : List (ByteArray × Bool)), l.length - i ≤ k → i ≤ l.length → Takes s (l.take i) → Tm m (fun n => ∃ x ∈ l.take i, Q4h x = n) → ∀ fuel, k < fuel →
   (Q1o (Q2q N l s l1 l2 e3) fuel (i,m) = some (.inl ()) ∧ Takes s l) ∨ (Q1o (Q2q N l s l1 l2 e3) fuel (i,m) = some (.inr (4,s,l1,l2,e3)) ∧ ¬ Takes s l):=by
 intro k
 induction k with
 | zero =>
   intro i m hk hi ht hm fuel hf
   obtain ⟨fuel,rfl⟩ : ∃ f,fuel = f + 1:=⟨fuel - 1,by omega⟩
   have e:i = l.length:=by omega
   subst e
   left
   rw [List.take_length] at ht
   exact ⟨Q15 (by unfold Q2q; simp only; rw [if_neg (by simp)]),ht⟩
 | succ k ih =>
   intro i m hk hi ht hm fuel hf
   obtain ⟨fuel,rfl⟩ : ∃ f,fuel = f + 1:=⟨fuel - 1,by omega⟩
   by_cases h:i < l.length
   ·have hx:=List.getElem?_eq_getElem h
    have hox:=ho l[i] (List.getElem_mem h)
    have hC : ∃ b:Bool,Q5Q N l[i] s m = some b ∧ (b = true ↔ ¬ ((0 ≤ l[i].rule ∧ l[i].rule < ((s.length:Nat):Int)) ∧ ¬ ∃ x ∈ l.take i,Q4h x = Q4h l[i])):=by
      unfold Q5Q
      by_cases h1:l[i].rule < 0
      · exact ⟨true,by rw [if_pos (decide_eq_true h1)],by simp; intro h2; omega⟩
      ·rw [if_neg (by rw [decide_eq_true_eq]; exact h1)]
       by_cases h2:l[i].rule ≥ ((s.length:Nat):Int)
       · exact ⟨true,by rw [if_pos (decide_eq_true h2)],by simp; intro _ h3; omega⟩
       ·rw [if_neg (by rw [decide_eq_true_eq]; exact h2),Q8v hN hox,Q8]
        obtain ⟨b,h3,h4⟩:=hm.opt (Q4h l[i])
        refine ⟨b,h3,h4.trans ⟨fun h5 h6=>h6.2 h5,fun h5=>Classical.byContradiction fun h6=>h5 ⟨by omega,h6⟩⟩⟩
    obtain ⟨b,hb,hiff⟩:=hC
    have htk:l.take (i + 1) = l.take i ++ [l[i]]:=by rw [List.take_add_one,hx]; rfl
    cases b with
    | true =>
      right
      refine ⟨Q15 (by unfold Q2q; simp only; rw [if_pos (decide_eq_true h),hx,Q8,hb,Q8,if_pos rfl]),fun hT=>(hiff.1 rfl) ⟨hT.1 _ (List.getElem_mem h),?_⟩⟩
      rintro ⟨x,h1,h2⟩
      have h3:=hT.2
      rw [← List.take_append_drop i l,List.map_append,List.nodup_append] at h3
      exact h3.2.2 _ (List.mem_map_of_mem h1) _ (List.mem_map_of_mem (by rw [List.drop_eq_getElem_cons h]; exact List.mem_cons_self)) h2
    | false =>
      have hg:(0 ≤ l[i].rule ∧ l[i].rule < ((s.length:Nat):Int)) ∧ ¬ ∃ x ∈ l.take i,Q4h x = Q4h l[i]:=Classical.byContradiction fun h1=>by have:=hiff.2 h1; cases this
      have hst:Q2q N l s l1 l2 e3 (i,m) = some (.inl (i + 1,Q61 ltB (Q4h l[i]) true m)):=by
       unfold Q2q
       simp only
       rw [if_pos (decide_eq_true h),hx,Q8,hb,Q8,if_neg (by simp),Q8v hN hox,Q8,Qg (by omega)]
      rw [Q1Y hst]
      refine ih (i + 1) _ (by omega) (by omega) ?_ ((hm.put (Q4h l[i])).iff fun n=>?_) fuel (by omega)
      ·rw [htk]
       refine ⟨fun x hx2=>?_,?_⟩
       ·rcases List.mem_append.1 hx2 with hx2 | hx2
        · exact ht.1 x hx2
        · rw [List.mem_singleton] at hx2; subst hx2; exact hg.1
       ·rw [List.map_append,List.nodup_append]
        refine ⟨ht.2,by simp,fun a ha b hb2 e=>?_⟩
        simp only [List.map_cons,List.map_nil,List.mem_singleton] at hb2
        subst hb2; subst e
        obtain ⟨x,h1,h2⟩:=List.mem_map.1 ha
        exact hg.2 ⟨x,h1,h2⟩
      ·rw [htk]
       constructor
       ·rintro (e | ⟨x,h1,h2⟩)
        · exact ⟨l[i],List.mem_append_right _ (List.mem_singleton_self _),e.symm⟩
        · exact ⟨x,List.mem_append_left _ h1,h2⟩
       ·rintro ⟨x,h1,h2⟩
        rcases List.mem_append.1 h1 with h1 | h1
        · exact .inr ⟨x,h1,h2⟩
        · rw [List.mem_singleton] at h1; subst h1; exact .inl h2.symm
   ·have e:i = l.length:=by omega
    subst e
    left
    rw [List.take_length] at ht
    exact ⟨Q15 (by unfold Q2q; simp only; rw [if_neg (by simp)]),ht⟩
theorem setO_split {l:List Q1} {e3:List (ByteArray × Bool)} {K:ByteArray → Prop} (hl:l.length ≤ 1000) (ho : ∀ x ∈ l,Q3S x) (hK:Tm e3 K) : ∀ (k i:Nat) (m:List (ByteArray × Bool)) (A B:List Q1) (J:ByteArray → Prop),l.length - i ≤ k → i ≤ l.length → A.length + B.length ≤ i → Tm m J → ∀ fuel,k < fuel →
   ∃ m',Q1o (Q2r N l e3) fuel (i,m,A,B) = some (m',A ++ (l.drop i).filter (fun x=>!Q4w K x),B ++ (l.drop i).filter (Q4w K)) ∧ Tm m' (fun n=>J n ∨ ∃ x ∈ l.drop i,Q4h x = n ∧ K n):=by
 intro k
 induction k with
 | zero =>
   intro i m A B J hk hi hAB hm fuel hf
   obtain ⟨fuel,rfl⟩ : ∃ f,fuel = f + 1:=⟨fuel - 1,by omega⟩
   have e:i = l.length:=by omega
   subst e
   refine ⟨m,?_,hm.iff fun n=>by simp⟩
   rw [Q15 (o:=(m,A,B)) (by unfold Q2r; simp only; rw [if_neg (by simp)])]
   simp
 | succ k ih =>
   intro i m A B J hk hi hAB hm fuel hf
   obtain ⟨fuel,rfl⟩ : ∃ f,fuel = f + 1:=⟨fuel - 1,by omega⟩
   by_cases h:i < l.length
   ·have hx:=List.getElem?_eq_getElem h
    have hox:=ho l[i] (List.getElem_mem h)
    obtain ⟨b,h3,h4⟩:=hK.opt (Q4h l[i])
    rw [List.drop_eq_getElem_cons h]
    cases b with
    | true =>
      have hk1:K (Q4h l[i]):=h4.1 rfl
      have hsp:Q4w K l[i] = true:=Q6q.2 hk1
      have hst:Q2r N l e3 (i,m,A,B) = some (.inl (i + 1,Q61 ltB (Q4h l[i]) true m,A,B ++ [l[i]])):=by
       unfold Q2r Q5R
       simp only
       rw [if_pos (decide_eq_true h),hx,Q8,Q8v hN hox,Q8,h3,Q8,if_pos rfl,own_is hox,Q8,Qg (by simp; omega),Q8]
       simp only
       rw [Qg (by omega)]
      rw [Q1Y hst]
      obtain ⟨m',g1,g2⟩:=ih (i + 1) _ A (B ++ [l[i]]) _ (by omega) (by omega) (by simp; omega) (hm.put (Q4h l[i])) fuel (by omega)
      refine ⟨m',?_,g2.iff fun n=>?_⟩
      ·rw [g1,List.filter_cons_of_neg (p:=fun x=>!Q4w K x) (by simp [hsp]),List.filter_cons_of_pos (p:=Q4w K) hsp]
       simp
      ·simp only [List.mem_cons]
       constructor
       ·rintro ((e | h5) | ⟨x,h5,h6⟩)
        · subst e; exact .inr ⟨l[i],.inl rfl,rfl,hk1⟩
        · exact .inl h5
        · exact .inr ⟨x,.inr h5,h6⟩
       ·rintro (h5 | ⟨x,h5 | h5,h6⟩)
        · exact .inl (.inr h5)
        · subst h5; exact .inl (.inl h6.1.symm)
        · exact .inr ⟨x,h5,h6⟩
    | false =>
      have hk1 : ¬ K (Q4h l[i]):=fun h5=>by have:=h4.2 h5; cases this
      have hsp:Q4w K l[i] = false:=by
       cases hq:Q4w K l[i]
       · rfl
       · exact absurd (Q6q.1 hq) hk1
      have hst:Q2r N l e3 (i,m,A,B) = some (.inl (i + 1,m,A ++ [l[i]],B)):=by
       unfold Q2r Q5R
       simp only
       rw [if_pos (decide_eq_true h),hx,Q8,Q8v hN hox,Q8,h3,Q8,if_neg (by simp),own_is hox,Q8,Qg (by simp; omega),Q8]
       simp only
       rw [Qg (by omega)]
      rw [Q1Y hst]
      obtain ⟨m',g1,g2⟩:=ih (i + 1) m (A ++ [l[i]]) B J (by omega) (by omega) (by simp; omega) hm fuel (by omega)
      refine ⟨m',?_,g2.iff fun n=>?_⟩
      ·rw [g1,List.filter_cons_of_pos (p:=fun x=>!Q4w K x) (by simp [hsp]),List.filter_cons_of_neg (p:=Q4w K) (by simp [hsp])]
       simp
      ·simp only [List.mem_cons]
       constructor
       ·rintro (h5 | ⟨x,h5,h6⟩)
        · exact .inl h5
        · exact .inr ⟨x,.inr h5,h6⟩
       ·rintro (h5 | ⟨x,h5 | h5,h6⟩)
        · exact .inl h5
        · subst h5; exact absurd h6.2 (by rw [← h6.1]; exact hk1)
        · exact .inr ⟨x,h5,h6⟩
   ·have e:i = l.length:=by omega
    subst e
    refine ⟨m,?_,hm.iff fun n=>by simp⟩
    rw [Q15 (o:=(m,A,B)) (by unfold Q2r; simp only; rw [if_neg (by simp)])]
    simp
theorem setO_is {s:List Int} {l l1 l2:List Q1} {e3:List (ByteArray × Bool)} {K:ByteArray → Prop} (hl:l.length ≤ 400) (ho : ∀ x ∈ l,Q3S x) (hK:Tm e3 K) :
  (Takes s l ∧ ∃ m',Q2f N s l1 l2 e3 l = some (0,s,Q7J s (l.filter fun x=>!Q4w K x),Q7J s (l.filter (Q4w K)),m') ∧ Tm m' (fun n=>∃ x ∈ l,Q4h x = n ∧ K n)) ∨
  (¬ Takes s l ∧ Q2f N s l1 l2 e3 l = some (4,s,l1,l2,e3)):=by
 have hc:=setO_check (s:=s) (l1:=l1) (l2:=l2) (e3:=e3) hN (by omega:l.length ≤ 1000) ho l.length 0 [] (by omega) (by omega) ⟨by simp,by simp⟩ (tm_nil.iff fun n=>by simp) N (by omega)
 unfold Q2f Q1Z
 rw [Q8]
 rcases hc with ⟨h1,h2⟩ | ⟨h1,h2⟩
 ·left
  refine ⟨h2,?_⟩
  rw [h1,Q4H]
  obtain ⟨m',g1,g2⟩:=setO_split hN (by omega:l.length ≤ 1000) ho hK l.length 0 [] [] [] (fun _=>False) (by omega) (by omega) (by simp) tm_nil N (by omega)
  rw [List.drop_zero,List.nil_append,List.nil_append] at g1
  have f1:=List.length_filter_le (fun x=>!Q4w K x) l
  have f2:=List.length_filter_le (Q4w K) l
  rw [g1,Q8]
  simp only
  rw [sort_is (by omega) (by omega) (fun x hx=>(ho x (List.mem_filter.1 hx).1).len),Q8]
  simp only
  rw [Qg (Q4i s _).length_eq,sort_is (by omega) (by omega) (fun x hx=>(ho x (List.mem_filter.1 hx).1).len),Q8]
  simp only
  rw [Qg (Q4i s _).length_eq]
  exact ⟨m',rfl,g2.iff fun n=>by simp⟩
 ·right
  exact ⟨h2,by rw [h1,Q6v]⟩
end
end Go.Proofs.YtgangmegcejllaaGreatDoor
namespace Go.Proofs.YtgangmegcejllaaGreatDoor
open Go Go.RowKit
section
variable {N:Nat} (hN : 9223372036854775808 ≤ N) {s:List Int} {L:List Q1} {sB:Q1 → Bool} {e:List (ByteArray × Bool)} (hR:AgR L sB e)
include hN hR
theorem ag_setO {l:List Q1} (hl:l.length ≤ 400) (ho : ∀ x ∈ l,Q3S x) :
  (Q7x s.length l → ∃ e',AgR l (fun x=>decide (x ∈ L) && sB x) e' ∧ Q2f N s (Q3T s L sB) (Q3F s L sB) e l = some (0,s,Q3T s l (fun x=>decide (x ∈ L) && sB x),Q3F s l (fun x=>decide (x ∈ L) && sB x),e')) ∧
  (¬ Q7x s.length l → Q2f N s (Q3T s L sB) (Q3F s L sB) e l = some (4,s,Q3T s L sB,Q3F s L sB,e)):=by
 rcases setO_is (s:=s) (l1:=Q3T s L sB) (l2:=Q3F s L sB) hN hl ho hR.tm with ⟨hT,m',h1,h2⟩ | ⟨hT,h1⟩
 ·have hT2:=(Qac ho).1 hT
  have hsp : ∀ x ∈ l,Q4w (fun n=>∃ y ∈ L,Q4h y = n ∧ sB y = true) x = (decide (x ∈ L) && sB x):=by
   intro x hx
   rw [Bool.eq_iff_iff,Q6q,Bool.and_eq_true,decide_eq_true_eq]
   constructor
   ·rintro ⟨y,h3,h4,h5⟩
    have:=nameF_inj (hR.ok y h3) (ho x hx) h4
    subst this; exact ⟨h3,h5⟩
   · rintro ⟨h3,h4⟩; exact ⟨x,h3,rfl,h4⟩
  have f1:l.filter (fun x=>!Q4w (fun n=>∃ y ∈ L,Q4h y = n ∧ sB y = true) x) = l.filter (fun x=>!(decide (x ∈ L) && sB x)):=List.filter_congr fun x hx=>by rw [hsp x hx]
  have f2:l.filter (Q4w (fun n=>∃ y ∈ L,Q4h y = n ∧ sB y = true)) = l.filter (fun x=>decide (x ∈ L) && sB x):=List.filter_congr fun x hx=>by rw [hsp x hx]
  rw [f1,f2] at h1
  refine ⟨fun _=>⟨m',⟨hl,ho,hT2.2,h2.iff fun n=>?_⟩,h1⟩,fun h=>absurd hT2 h⟩
  constructor
  ·rintro ⟨x,h3,h4,h5⟩
   refine ⟨x,h3,h4,?_⟩
   rw [← hsp x h3]; exact Q6q.2 (by rw [h4]; exact h5)
  ·rintro ⟨x,h3,h4,h5⟩
   refine ⟨x,h3,h4,?_⟩
   rw [← hsp x h3] at h5
   have:=Q6q.1 h5
   rw [h4] at this; exact this
 · exact ⟨fun h=>absurd ((Qac ho).2 h) hT,fun _=>h1⟩
theorem ag_fireO {t:Q1} (ht:Q3S t) :
  (t ∈ L ∧ sB t = false → ∃ e',AgR L (fun x=>sB x || decide (x = t)) e' ∧ Q1L N s (Q3T s L sB) (Q3F s L sB) e t.rule t.ids = some (0,s,Q3T s L (fun x=>sB x || decide (x = t)),Q3F s L (fun x=>sB x || decide (x = t)),e')) ∧
  (¬ (t ∈ L ∧ sB t = false) → Q1L N s (Q3T s L sB) (Q3F s L sB) e t.rule t.ids = some (6,s,Q3T s L sB,Q3F s L sB,e)):=by
 have hL:=hR.len
 have l1:=left_len (s:=s) (L:=L) (sB:=sB)
 have l2:=Q9m (s:=s) (L:=L) (sB:=sB)
 have h1:=fire_is (s:=s) (l:=Q3T s L sB) (l2:=Q3F s L sB) (e:=e) (t:=t) hN (by omega) (by omega) (fun x hx=>hR.ok x (Q77.1 hx).1) (fun x hx=>hR.ok x (Q7W.1 hx).1) ht
 refine ⟨fun h=>?_,fun h=>?_⟩
 ·rw [if_pos (Q77.2 h)] at h1
  rw [left_erase hR.nodup,fired_push hR.nodup h.1 h.2] at h1
  exact ⟨_,hR.fire h.1,h1⟩
 ·rw [if_neg (fun h3=>h (Q77.1 h3))] at h1
  exact h1
theorem ag_first {a:Int} {i:List Int} (hn:Q93 (Q3T s L sB) = (a,i,true)) (hi:i.length ≤ 400):Q3q N s (Q3T s L sB) (Q3F s L sB) e a i = some true:=by
 unfold Q3q
 rw [(ag_next hN hR).1,hn,Q8]
 simp only
 rw [if_pos trivial,(Q9D (x:=⟨a,i⟩) (y:=⟨a,i⟩) hN (Nat.le_trans hi (by omega))).eq_true rfl,Q8]
end
section
variable {s:List Int} {L:List Q1} {sB:Q1 → Bool}
theorem rank_nil:Q7J s [] = []:=List.eq_nil_of_length_eq_zero (Q4i s []).length_eq
theorem left_nil:Q3T s [] sB = []:=by unfold Q3T; rw [List.filter_nil,rank_nil]
theorem fired_nil:Q3F s [] sB = []:=by unfold Q3F; rw [List.filter_nil,rank_nil]
theorem rank_single {a:Q1}:Q7J s [a] = [a]:=(Qa4 (List.Perm.refl _) (by simp)).symm
theorem left_one {a:Q1} (h:L.filter (fun x=>!sB x) = [a]):Q3T s L sB = [a]:=by unfold Q3T; rw [h,rank_single]
theorem left_two {a b:Q1} (h:L.filter (fun x=>!sB x) = [a,b]) (hl:ltT s a b = false):Q3T s L sB = [b,a]:=by
 unfold Q3T
 rw [h]
 exact (Qa4 (List.Perm.swap _ _ _) (by simp [hl])).symm
end
def tA:Q1:=⟨0,[1]⟩
def tB:Q1:=⟨1,[1]⟩
theorem ok_small {r z:Int} (h : 0 ≤ r ∧ r ≤ 9 ∧ 0 ≤ z ∧ z ≤ 9):Q3S ⟨r,[z]⟩:=⟨by simp only; omega,by simp; omega,by simp⟩
theorem d_one (x:Int):desc [x] = [x]:=(Q9X (List.Perm.refl _) (by simp [Desc])).symm
theorem d_98:desc [9,8] = [9,8]:=(Q9X (List.Perm.refl _) (by simp [Desc])).symm
theorem d_97:desc [9,7] = [9,7]:=(Q9X (List.Perm.refl _) (by simp [Desc])).symm
theorem d_89:desc [8,9] = [9,8]:=(Q9X (List.Perm.swap _ _ _) (by simp [Desc])).symm
theorem lt_AB:ltT [0,5] tA tB = false:=by
 unfold ltT cfT ordI tA tB
 simp only [d_one]
 decide
section
variable {N:Nat} (hN : 9223372036854775808 ≤ N)
include hN
theorem Q9y {s i1 i2:List Int} {t:List Qr} {r1 r2:Int} (hs:s.length ≤ 1000) (h1:i1.length ≤ 1000) (h2:i2.length ≤ 1000):Q3v N t (s.map Q5B) r1 i1 r2 i2 = some (decide (ordI s r1 i1 r2 i2 < 0)):=by
 unfold Q3v
 rw [by_is (by omega) hs,Q8,order_is (by omega) h1 h2,Q8]
theorem awake_go:Q2G N = some ():=by
 have tk : ∀ r i,Q13 N r i = some ():=fun _ _=>rfl
 have hnew:Q4P N ([] : List Qr) (([0,5] : List Int).map Q5B) = some (.inr [0,5]):=by
  unfold Q4P
  rw [if_neg (by simp),by_is (by omega) (by simp),Q8]
 have oA:Q3S tA:=ok_small (by omega)
 have oB:Q3S tB:=ok_small (by omega)
 have hb1:Q3v N ([] : List Qr) (([0,5] : List Int).map Q5B) 0 [9,8] 0 [9,7] = some true:=by
  rw [Q9y hN (by simp) (by simp) (by simp)]
  unfold ordI
  rw [d_98,d_97]
  exact congrArg some (by decide)
 have hb2:Q3v N ([] : List Qr) (([0,5] : List Int).map Q5B) 0 [9,8] 0 [9] = some true:=by
  rw [Q9y hN (by simp) (by simp) (by simp)]
  unfold ordI
  rw [d_98,d_one]
  exact congrArg some (by decide)
 have hb3:Q3v N ([] : List Qr) (([0,5] : List Int).map Q5B) 1 [1] 0 [9,8] = some true:=by
  rw [Q9y hN (by simp) (by simp) (by simp)]
  unfold ordI
  rw [d_98,d_one]
  exact congrArg some (by decide)
 have hb4:Q3v N ([] : List Qr) (([0,5] : List Int).map Q5B) 0 [8,9] 0 [9,8] = some true:=by
  rw [Q9y hN (by simp) (by simp) (by simp)]
  unfold ordI
  rw [d_98,d_89]
  exact congrArg some (by decide)
 obtain ⟨e1,R1,s1⟩:=(ag_setO (s:=[0,5]) hN AgR.start (l:=[tA,tB]) (by simp) (by simp [oA,oB])).1 (by unfold Q7x tA tB; decide)
 rw [left_nil,fired_nil] at s1
 have n1:=ag_first (s:=[0,5]) (a:=1) (i:=[1]) hN R1 (by rw [left_two (a:=tA) (b:=tB) (by decide) lt_AB]; rfl) (by simp)
 obtain ⟨e2,R2,s2⟩:=(ag_fireO (s:=[0,5]) hN R1 oB).1 (by decide)
 have n2:=ag_first (s:=[0,5]) (a:=0) (i:=[1]) hN R2 (by rw [left_one (a:=tA) (by decide)]; rfl) (by simp)
 have f2:=(Q9U (s:=[0,5]) hN R2).1
 have g2:(Q3F [0,5] [tA,tB] (fun x=>(decide (x ∈ ([] : List Q1)) && (fun _=>false) x) || decide (x = tB))).length = 1:=by
  unfold Q3F
  rw [(Q4i _ _).length_eq]; decide
 obtain ⟨e3,R3,s3⟩:=(ag_setO (s:=[0,5]) hN R2 (l:=[tB,tA]) (by simp) (by simp [oA,oB])).1 (by unfold Q7x tA tB; decide)
 have n3:=ag_first (s:=[0,5]) (a:=0) (i:=[1]) hN R3 (by rw [left_one (a:=tA) (by decide)]; rfl) (by simp)
 obtain ⟨e4,R4,s4⟩:=(ag_setO (s:=[0,5]) hN R3 (l:=[tA]) (by simp) (by simp [oA])).1 (by unfold Q7x tA; decide)
 obtain ⟨e5,R5,s5⟩:=(ag_setO (s:=[0,5]) hN R4 (l:=[tA,tB]) (by simp) (by simp [oA,oB])).1 (by unfold Q7x tA tB; decide)
 have n5:=ag_first (s:=[0,5]) (a:=1) (i:=[1]) hN R5 (by rw [left_two (a:=tA) (b:=tB) (by decide) lt_AB]; rfl) (by simp)
 have s6:=(ag_setO (s:=[0,5]) hN R5 (l:=[⟨2,[1]⟩]) (by simp) (by simp [ok_small])).2 (by unfold Q7x; decide)
 have s7:=(ag_setO (s:=[0,5]) hN R5 (l:=[tA,tA]) (by simp) (by simp [oA])).2 (by unfold Q7x tA; decide)
 have s8:=(ag_fireO (s:=[0,5]) (t:=⟨0,[2]⟩) hN R5 (ok_small (by omega))).2 (by decide)
 unfold tA tB at *
 unfold Q2G
 rw [of_is (by omega) (by simp),Q8,Qg (by decide)]
 simp only [tk,Q8]
 rw [hb1,Q8,Qg rfl,hb2,Q8,Qg rfl,hb3,Q8,Qg rfl,hb4,Q8,Qg rfl,hnew,Q8]
 simp only
 rw [s1,Q8]
 simp only
 rw [Qg (by decide),n1,Q8,Qg rfl,s2,Q8]
 simp only
 rw [Qg (by decide),Qg (by decide),n2,Q8,Qg rfl,f2,Q8,Qg (by rw [g2]; decide),s3,Q8]
 simp only
 rw [Qg (by decide),n3,Q8,Qg rfl,s4,Q8]
 simp only
 rw [Qg (by decide),s5,Q8]
 simp only
 rw [Qg (by decide),n5,Q8,Qg rfl,s6,Q8]
 simp only
 rw [Qg (by decide),s7,Q8]
 simp only
 rw [Qg (by decide),s8,Q8]
 simp only
 rw [Qg (by decide),Qg (by decide)]
end
end Go.Proofs.YtgangmegcejllaaGreatDoor
