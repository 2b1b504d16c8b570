import Derived.Test.YtgangmegcejllaaGreatDoorAgRefE
namespace Go.Proofs.YtgangmegcejllaaGreatDoor
open Go Go.RowKit
def mkI (z:Int):Int:=IntKind.wrap .i64 ((IntKind.wrap .i64 (1000003 * (IntKind.wrap .i64 (1 + 7)))) + z)
def tailI:List Int:=(List.range 12).map fun i=>mkI ((i:Nat):Int)
theorem Q81:tailI.length = 12:=by simp [tailI]
theorem tailI_at {i:Nat} (h:i < 12):tailI[i]? = some (mkI ((i:Nat):Int)):=by simp [tailI,h]
def sK (x:Q1):Qo:=⟨x.rule,x.ids,tailI⟩
def mkK (z:Int):Qo:=⟨mkI z,[],[]⟩
def tailK:List Qo:=(List.range 12).map fun i=>mkK ((i:Nat):Int)
theorem tailK_len:tailK.length = 12:=by simp [tailK]
theorem tailK_at {i:Nat} (h:i < 12):tailK[i]? = some (mkK ((i:Nat):Int)):=by simp [tailK,h]
def lK (l:List Q1):List Qo:=l.map sK ++ tailK
section
variable {N:Nat} (hN : 9223372036854775808 ≤ N) {l:List Q1}
theorem lK_len:(lK l).length = l.length + 12:=by simp [lK,tailK_len]
theorem lK_at {i:Nat} (h:i < l.length):(lK l)[i]? = some (sK l[i]):=by unfold lK; rw [List.getElem?_append_left (by simpa using h)]; simp [h]
theorem lK_tail {i:Nat} (h:l.length ≤ i) (h2:i < l.length + 12):(lK l)[i]? = some (mkK (((i:Nat):Int) - ((l.length:Nat):Int))):=by
 unfold lK
 rw [List.getElem?_append_right (by simpa using h),List.length_map,tailK_at (by omega)]
 congr 2; omega
theorem lK_lent:LentT (lK l) l:=fun i h=>⟨tailI,lK_at h⟩
include hN
theorem lentTok_is {a:Int} {l:List Int} (hl:l.length ≤ 1000000):Q4X N a l = some (l ++ tailI):=by
 unfold Q4X Q5U
 rw [Qg (by omega),Qg (by omega),Qg (by simp; omega),Q9n 12 (fun i=>mkI ((i:Nat):Int)) l (fun i hi=>by
  unfold Q4x
  simp only
  rw [if_pos (by simpa using hi),show Q3i N 1 ((i:Nat):Int) = some () from rfl,Q8,Qg (by simp; omega),Qg (by omega)]
  rfl) (by unfold Q4x; simp only; rw [if_neg (by simp)]) (by omega)]
 rw [Q8,Qg (by simp),Q8]; rfl
theorem sameIntsW_is {l t:List Int} (hl:l.length ≤ 1000000):Q4M N (l ++ t) l.length l = some true:=by
 unfold Q4M
 rw [if_neg (by simp),iter_look l.length (fun i hi=>by
  unfold Q4b
  rw [if_pos (by simpa using hi),Qg hi,app_l hi,Q8,List.getElem?_eq_getElem hi,Q8,if_neg (by simp),Qg (by omega)])
  (by unfold Q4b; rw [if_neg (by simp)]) (by omega)]
 rfl
theorem sameTokW_is {a:Int} {l t:List Int} (hl:l.length ≤ 1000000):Q36 N a (l ++ t) l.length a l = some true:=by
 unfold Q36
 rw [if_pos (by simp),sameIntsW_is hN hl]; rfl
theorem keptTok_is {a:Int} {l:List Int} (hl:l.length ≤ 1000000):Q3K N a (l ++ tailI) l.length a l = some true:=by
 unfold Q3K
 rw [sameTokW_is hN hl,Q8,if_pos rfl]
 unfold Q5t
 rw [if_neg (by simp),Qg (by omega),Qg (by simp [Q81]),iter_look (l.length + 12) (fun i hi=>by
  unfold Q47 Q5T
  rw [take_all Q81,if_pos (by simp [Q81]; omega)]
  by_cases h:i < l.length
  · rw [if_pos (by simpa using h),app_l h,Q8,List.getElem?_eq_getElem h,Q8,if_neg (by simp),if_neg (by simp; omega),Q8,if_neg (by simp),Qg (by omega)]
  · rw [if_neg (by simpa using h),if_pos (by simp; omega),app_r (by omega),tailI_at (by omega),Q8,Qg (by omega),show Q3i N 1 (((i:Nat):Int) - ((l.length:Nat):Int)) = some () from rfl,Q8,Q8,
   if_neg (by rw [show (((i - l.length:Nat):Int)) = ((i:Nat):Int) - ((l.length:Nat):Int) by omega]; simp [mkI]),Qg (by omega)])
  (by unfold Q47; rw [take_all Q81,if_neg (by simp [Q81])]) (by omega)]
 rfl
theorem lentToks_is (h1:l.length ≤ 1000000) (h2 : ∀ x ∈ l,x.ids.length ≤ 1000000):Q4L N l = some (lK l):=by
 unfold Q4L
 rw [Qg (by omega),Qg (by omega),Q9n l.length (fun i=>sK (l.getD i ⟨0,[]⟩)) [] (fun i hi=>by
  unfold Q48
  simp only
  rw [if_pos (by simpa using hi),List.getElem?_eq_getElem hi,Q8,lentTok_is hN (h2 _ (List.getElem_mem hi)),Q8,Qg (by simp),Qg (by simp; omega),Qg (by omega)]
  simp [sK,hi]) (by unfold Q48; simp only; rw [if_neg (by simp)]) (by omega),Q8,List.nil_append,map_range l sK ⟨0,[]⟩,Q9n 12 (fun i=>mkK ((i:Nat):Int)) (l.map sK) (fun i hi=>by
  unfold Q49
  simp only
  rw [if_pos (by simpa using hi),show Q2y N 1 ((i:Nat):Int) = some () from rfl,Q8,Qg (by simp; omega),Qg (by omega)]
  rfl) (by unfold Q49; simp only; rw [if_neg (by simp)]) (by omega),Q8,Qg (by simp)]
 rfl
theorem keptToks_is (h1:l.length ≤ 1000000) (h2 : ∀ x ∈ l,x.ids.length ≤ 1000000):Q4j N (lK l) l.length l = some true:=by
 have ht:(lK l).take (l.length + 12) = lK l:=List.take_of_length_le (by rw [lK_len]; omega)
 unfold Q4j
 rw [if_neg (by simp),Qg (by omega),Qg (by rw [lK_len]; omega),iter_look (l.length + 12) (fun i hi=>by
  unfold Q3H Q5z
  rw [ht,if_pos (by rw [lK_len]; simpa using hi)]
  by_cases h:i < l.length
  · rw [if_pos (by simpa using h),lK_at h,Q8,List.getElem?_eq_getElem h,Q8,show Q3K N (sK l[i]).rule ((sK l[i]).ids ++ (sK l[i]).idsT) (sK l[i]).ids.length l[i].rule l[i].ids = some true from keptTok_is hN (h2 _ (List.getElem_mem h)),Q8,if_neg (by simp),if_neg (by simp; omega),Q8,if_neg (by simp),Qg (by omega)]
  ·rw [if_neg (by simpa using h),if_pos (by simp; omega),lK_tail (by omega) hi,Q8,Qg (by omega),show Q2y N 1 (((i:Nat):Int) - ((l.length:Nat):Int)) = some () from rfl,Q8]
   have:=sameTokW_is (N:=N) (a:=mkI (((i:Nat):Int) - ((l.length:Nat):Int))) (l:=[]) (t:=[]) hN (by simp)
   simp only [mkK,mkI] at this ⊢
   rw [this,Q8,Q8,if_neg (by simp),Qg (by omega)])
  (by unfold Q3H; rw [ht,if_neg (by rw [lK_len]; simp)]) (by omega)]
 rfl
theorem overInts_is {l:List Int} {k:Nat} (hk:k + 12 ≤ l.length) (hl:l.length ≤ 1000000000) : ∃ o,Q3Y N l k = some o ∧ o.length = l.length:=by
 unfold Q3Y
 rw [Qg (by omega),Qg hk]
 refine Q67 (f:=Q4a N k) (fun s=>s.1 ≤ k + 12 ∧ s.2.length = l.length) (fun s=>k + 12 - s.1) (fun o=>o.length = l.length) (fun s hs=>?_) N (0,l) ⟨Nat.zero_le _,rfl⟩ (by simp only; omega)
 obtain ⟨i,m⟩:=s
 obtain ⟨hi,hm⟩:=hs
 simp only at hi hm
 unfold Q4a
 simp only
 by_cases h:i < k + 12
 ·left
  refine ⟨_,by rw [if_pos (by simpa using h),show Q3i N 2 ((i:Nat):Int) = some () from rfl,Q8,List.getElem?_eq_getElem (by omega),Q8,Qg h,Qg (by omega)],⟨by simp only; omega,by simpa using hm⟩,by simp only; omega⟩
 ·right
  exact ⟨m,by rw [if_neg (by simpa using h)],hm⟩
theorem overToks_is (h1:l.length ≤ 1000000) (h2 : ∀ x ∈ l,x.ids.length ≤ 1000000) : ∃ o,Q4k N (lK l) l.length = some o:=by
 have hlen:=lK_len (l:=l)
 obtain ⟨m,g1,g2⟩:=Q67 (f:=Q3I N l.length) (fun s=>s.1 ≤ l.length ∧ s.2.length = (lK l).length ∧ ∀ j,s.1 ≤ j → j < l.length → s.2[j]? = (lK l)[j]?) (fun s=>l.length - s.1) (fun o=>o.length = (lK l).length) (fun s hs=>by
  obtain ⟨i,m⟩:=s
  obtain ⟨hi,hm,hj⟩:=hs
  simp only at hi hm hj
  unfold Q3I
  simp only
  by_cases h:i < l.length
  ·left
   obtain ⟨o,ho,_⟩:=overInts_is (N:=N) (l:=l[i].ids ++ tailI) (k:=l[i].ids.length) hN (by simp [Q81]) (by have:=h2 _ (List.getElem_mem h); simp [Q81]; omega)
   have ho2:Q4y N (sK l[i]).rule ((sK l[i]).ids ++ (sK l[i]).idsT) (sK l[i]).ids.length = some o:=by
    unfold Q4y
    show Qf (Q3Y N (l[i].ids ++ tailI) l[i].ids.length) _ = _
    rw [ho,Q8]
   refine ⟨_,by rw [if_pos (by simpa using h),hj i (Nat.le_refl _) h,lK_at h,Q8,Qg h,ho2,Q8,Qg (by omega)],⟨by simp only; omega,by simpa using hm,fun j hij hjl=>?_⟩,by simp only; omega⟩
   simp only at hij ⊢
   rw [List.getElem?_set_ne (by omega)]; exact hj j (by omega) hjl
  ·right
   exact ⟨m,by rw [if_neg (by simpa using h)],hm⟩) N (0,lK l) ⟨Nat.zero_le _,rfl,fun _ _ _=>rfl⟩ (by simp only; omega)
 unfold Q4k
 rw [g1,Q8,Qg (by omega),Qg (by omega)]
 obtain ⟨o,h,_⟩:=Q67 (f:=Q3J N l.length) (fun s=>s.1 ≤ l.length + 12 ∧ s.2.length = (lK l).length) (fun s=>l.length + 12 - s.1) (fun o=>o.length = (lK l).length) (fun s hs=>by
  obtain ⟨i,q⟩:=s
  obtain ⟨hi,hm⟩:=hs
  simp only at hi hm
  unfold Q3J
  simp only
  by_cases h:i < l.length + 12
  ·left
   refine ⟨_,by rw [if_pos (by simpa using h),show Q2y N 2 ((i:Nat):Int) = some () from rfl,Q8,List.getElem?_eq_getElem (by omega),Q8,Qg h,Qg (by omega)],⟨by simp only; omega,by simpa using hm⟩,by simp only; omega⟩
  ·right
   exact ⟨q,by rw [if_neg (by simpa using h)],hm⟩) N (0,m) ⟨Nat.zero_le _,g2⟩ (by simp only; omega)
 exact ⟨o,h⟩
end
end Go.Proofs.YtgangmegcejllaaGreatDoor
namespace Go.Proofs.YtgangmegcejllaaGreatDoor
open Go Go.RowKit
theorem rank_eq {s:List Int} {l m:List Q1} (h:l.Perm m):Q7J s l = Q7J s m:=Qa4 ((Q4i s l).trans h) (Q89 s l)
def Q3T (s:List Int) (L:List Q1) (sB:Q1 → Bool):List Q1:=Q7J s (L.filter fun x=>!sB x)
def Q3F (s:List Int) (L:List Q1) (sB:Q1 → Bool):List Q1:=Q7J s (L.filter sB)
def Q93:List Q1 → Int × List Int × Bool
 | []=>(0,[],false)
 | t :: _=>(t.rule,t.ids,true)
structure AgR (L:List Q1) (sB:Q1 → Bool) (e:List (ByteArray × Bool)):Prop where
 len:L.length ≤ 400
 ok : ∀ x ∈ L,Q3S x
 nodup:L.Nodup
 tm:Tm e (fun n=>∃ x ∈ L,Q4h x = n ∧ sB x = true)
theorem AgR.start:AgR [] (fun _=>false) []:=⟨Nat.zero_le _,by simp,List.nodup_nil,tm_nil.iff fun n=>by simp⟩
section
variable {s:List Int} {L:List Q1} {sB:Q1 → Bool} {e:List (ByteArray × Bool)}
theorem Q77 {x:Q1}:x ∈ Q3T s L sB ↔ x ∈ L ∧ sB x = false:=by
 unfold Q3T
 rw [(Q4i s _).mem_iff,List.mem_filter]; simp
theorem Q7W {x:Q1}:x ∈ Q3F s L sB ↔ x ∈ L ∧ sB x = true:=by
 unfold Q3F
 rw [(Q4i s _).mem_iff,List.mem_filter]
theorem left_len:(Q3T s L sB).length ≤ L.length:=by
 unfold Q3T
 rw [(Q4i s _).length_eq]; exact List.length_filter_le _ _
theorem Q9m:(Q3F s L sB).length ≤ L.length:=by
 unfold Q3F
 rw [(Q4i s _).length_eq]; exact List.length_filter_le _ _
theorem left_nodup (h:L.Nodup):(Q3T s L sB).Nodup:=(Q4i s _).symm.nodup (h.filter _)
theorem fired_nodup (h:L.Nodup):(Q3F s L sB).Nodup:=(Q4i s _).symm.nodup (h.filter _)
theorem left_erase {t:Q1} (hn:L.Nodup):(Q3T s L sB).erase t = Q3T s L (fun x=>sB x || decide (x = t)):=by
 refine Qa4 ((List.perm_ext_iff_of_nodup ((left_nodup hn).erase t) (hn.filter _)).2 fun a=>?_) ((Q89 s _).sublist (List.erase_sublist))
 rw [(left_nodup hn).mem_erase_iff,Q77,List.mem_filter]
 by_cases e1:a = t
 · simp [e1]
 · simp [e1]
theorem fired_push {t:Q1} (hn:L.Nodup) (ht:t ∈ L) (hf:sB t = false):Q7J s (Q3F s L sB ++ [t]) = Q3F s L (fun x=>sB x || decide (x = t)):=by
 refine rank_eq ((List.perm_ext_iff_of_nodup ?_ (hn.filter _)).2 fun a=>?_)
 ·rw [List.nodup_append]
  refine ⟨fired_nodup hn,by simp,fun a ha b hb e1=>?_⟩
  rw [List.mem_singleton] at hb
  subst hb; subst e1
  have:=(Q7W.1 ha).2
  rw [hf] at this; cases this
 ·rw [List.mem_append,Q7W,List.mem_singleton,List.mem_filter]
  by_cases e1:a = t
  · subst e1; simp [ht]
  · simp [e1]
theorem AgR.fire {t:Q1} (hR:AgR L sB e) (ht:t ∈ L):AgR L (fun x=>sB x || decide (x = t)) (Q61 ltB (Q4h t) true e):=by
 refine ⟨hR.len,hR.ok,hR.nodup,(hR.tm.put (Q4h t)).iff fun n=>?_⟩
 constructor
 ·rintro (e1 | ⟨x,h3,h4,h5⟩)
  · exact ⟨t,ht,e1.symm,by simp⟩
  · exact ⟨x,h3,h4,by simp [h5]⟩
 ·rintro ⟨x,h3,h4,h5⟩
  rw [Bool.or_eq_true,decide_eq_true_eq] at h5
  rcases h5 with h5 | h5
  · exact .inr ⟨x,h3,h4,h5⟩
  · subst h5; exact .inl h4.symm
end
section
variable {N:Nat} (hN : 9223372036854775808 ≤ N) {s:List Int} {L:List Q1} {sB:Q1 → Bool} {e:List (ByteArray × Bool)} (hR:AgR L sB e)
include hN hR
theorem ag_set {l:List Q1} {D:List Qo} (hD:LentT D l) (hl:l.length ≤ 400) (ho : ∀ x ∈ l,Q3S x) :
  ∃ r L' sB' e',AgR L' sB' e' ∧ Q44 N s (Q3T s L sB) (Q3F s L sB) e D l.length = some (r,s,Q3T s L' sB',Q3F s L' sB',e') ∧
    ∀ t0:List Qr,Q2W N t0 (s.map Q5B) L (L.map sB) l = some (r,L',L'.map sB'):=by
 have hL:=hR.len
 rcases set_is (s:=s) (l1:=Q3T s L sB) (l2:=Q3F s L sB) hN hD hl ho hR.tm with ⟨hT,m',h1,h2⟩ | ⟨hT,h1⟩
 ·have hT2:=(Qac ho).1 hT
  have hsp : ∀ x ∈ l,Q4w (fun n=>∃ y ∈ L,Q4h y = n ∧ sB y = true) x = (decide (x ∈ L) && sB x):=by
    intro x hx
    rw [Bool.eq_iff_iff,Q6q,Bool.and_eq_true,decide_eq_true_eq]
    constructor
    ·rintro ⟨y,h3,h4,h5⟩
     have:=nameF_inj (hR.ok y h3) (ho x hx) h4
     subst this; exact ⟨h3,h5⟩
    · rintro ⟨h3,h4⟩; exact ⟨x,h3,rfl,h4⟩
  have f1:l.filter (fun x=>!Q4w (fun n=>∃ y ∈ L,Q4h y = n ∧ sB y = true) x) = l.filter (fun x=>!(decide (x ∈ L) && sB x)):=List.filter_congr fun x hx=>by rw [hsp x hx]
  have f2:l.filter (Q4w (fun n=>∃ y ∈ L,Q4h y = n ∧ sB y = true)) = l.filter (fun x=>decide (x ∈ L) && sB x):=List.filter_congr fun x hx=>by rw [hsp x hx]
  rw [f1,f2] at h1
  refine ⟨0,l,fun x=>decide (x ∈ L) && sB x,m',⟨hl,ho,hT2.2,h2.iff fun n=>?_⟩,h1,fun t0=>?_⟩
  · constructor
    ·rintro ⟨x,h3,h4,h5⟩
     refine ⟨x,h3,h4,?_⟩
     rw [← hsp x h3]; exact Q6q.2 (by rw [h4]; exact h5)
    ·rintro ⟨x,h3,h4,h5⟩
     refine ⟨x,h3,h4,?_⟩
     rw [← hsp x h3] at h5
     have:=Q6q.1 h5
     rw [h4] at this; exact this
  · rcases rset_is (t0:=t0) (R:=s.map Q5B) (l:=l) (sB:=sB) hN (by omega) (by omega) ho hR.ok with ⟨_,h3⟩ | ⟨h3,_⟩
    · exact h3
    · rw [List.length_map] at h3; exact absurd hT2 h3
 ·refine ⟨4,L,sB,e,hR,h1,fun t0=>?_⟩
  rcases rset_is (t0:=t0) (R:=s.map Q5B) (l:=l) (sB:=sB) hN (by omega) (by omega) ho hR.ok with ⟨h3,_⟩ | ⟨_,h3⟩
  · rw [List.length_map] at h3; exact absurd ((Qac ho).2 h3) hT
  · exact h3
theorem ag_fire {t:Q1} (ht:Q3S t) :
  ∃ r sB' e',AgR L sB' e' ∧ Q1L N s (Q3T s L sB) (Q3F s L sB) e t.rule t.ids = some (r,s,Q3T s L sB',Q3F s L sB',e') ∧
    ∀ t0:List Qr,Q27 N t0 (s.map Q5B) L (L.map sB) t.rule t.ids = some (r,L.map sB'):=by
 have hL:=hR.len
 have l1:=left_len (s:=s) (L:=L) (sB:=sB)
 have l2:=Q9m (s:=s) (L:=L) (sB:=sB)
 have h1:=fire_is (s:=s) (l:=Q3T s L sB) (l2:=Q3F s L sB) (e:=e) (t:=t) hN (by omega) (by omega) (fun x hx=>hR.ok x (Q77.1 hx).1) (fun x hx=>hR.ok x (Q7W.1 hx).1) ht
 have h2:=fun t0=>rfire_is (t0:=t0) (R:=s.map Q5B) (L:=L) (sB:=sB) (t:=t) hN (by omega) hR.ok hR.nodup
 by_cases h:t ∈ L ∧ sB t = false
 ·rw [if_pos (Q77.2 h)] at h1
  rw [left_erase hR.nodup,fired_push hR.nodup h.1 h.2] at h1
  refine ⟨0,fun x=>sB x || decide (x = t),_,hR.fire h.1,h1,fun t0=>?_⟩
  have:=h2 t0
  rw [if_pos h] at this; exact this
 ·rw [if_neg (fun h3=>h (Q77.1 h3))] at h1
  refine ⟨6,sB,e,hR,h1,fun t0=>?_⟩
  have:=h2 t0
  rw [if_neg h] at this; exact this
theorem ag_next:Q2g N s (Q3T s L sB) (Q3F s L sB) e = some (Q93 (Q3T s L sB)) ∧ ∀ t0:List Qr,Q3m N t0 (s.map Q5B) L (L.map sB) = some (Q93 (Q3T s L sB)):=by
 have hL:=hR.len
 constructor
 ·have ho : ∀ x ∈ Q3T s L sB,Q3S x:=fun x hx=>hR.ok x (Q77.1 hx).1
  generalize Q3T s L sB = l at ho
  cases l with
  | nil=>exact next_nil
  | cons x l=>exact next_cons (ho x List.mem_cons_self)
 ·intro t0
  rw [rnext_is hN (by omega) hR.ok]
  unfold Q3T
  generalize Q7J s (L.filter fun x=>!sB x) = l
  cases l <;> rfl
theorem Q9U:Q2F N s (Q3T s L sB) (Q3F s L sB) e = some (Q3F s L sB) ∧ ∀ t0:List Qr,Q2H N t0 (s.map Q5B) L (L.map sB) = some (Q3F s L sB):=by
 have hL:=hR.len
 have l2:=Q9m (s:=s) (L:=L) (sB:=sB)
 exact ⟨fired_is hN (by omega) (fun x hx=>hR.ok x (Q7W.1 hx).1),fun t0=>rfired_is hN (by omega) hR.ok⟩
end
end Go.Proofs.YtgangmegcejllaaGreatDoor
